/-
  Own work, laid by a program of the author's: value operations keep what a state says. No condition.
-/
import Derived.Test.YtllcbempbdibhaaV1
set_option linter.unusedSimpArgs false
set_option linter.unusedVariables false
namespace Go.Vc
open Go
section
variable {P:Program} {lo:Nat} {Xb:Nat → Prop} {par:Nat → Option Value} {ow:Ow} {a:Act} {w:World} {s:St} {κ:V → Prop}
theorem subOk_nat {l h : Int} {n : Nat} (H : subOk l h n) : ∃ l' h' : Nat, l = l' ∧ h = h' ∧ l' ≤ h' ∧ h' ≤ n := by
 obtain ⟨h1,h2,h3⟩:=H
 exact ⟨l.toNat,h.toNat,by omega,by omega,by omega,by omega⟩
theorem Fz.sub {ok : Nat → Prop} {nl : Option Bool} {cs : List T} {u : Value} {l h : Nat} (hl : l ≤ h) (hh : h ≤ cs.length) (hu : Fz ok w (.s nl cs) u) :
  ∃ (a0 : Option Addr) (len cap : Nat), u = .slice a0 len cap ∧ len = cs.length ∧ len ≤ cap ∧
   Fz ok w (.s nl ((cs.take h).drop l)) (.slice (if cap = l then a0 else a0.map (·.add (l * 1))) (h - l) (cap - l)):=by
 simp only [Fz] at hu
 have hlen:((cs.take h).drop l).length = h - l:=by simp; omega
 rcases hu with ⟨rfl, rfl, hn⟩ | ⟨hn, b, o, sp, cap, xs, rfl, h1, h2, hb, hx, hc⟩
 ·have hl0:l = 0:=by simp at hh; omega
  have hh0:h = 0:=by simpa using hh
  subst hl0; subst hh0
  exact ⟨none,0,0,rfl,rfl,Nat.le_refl _,by simp [Fz,hn]⟩
 ·refine ⟨some ⟨b,o,sp⟩,cs.length,cap,rfl,rfl,h1,?_⟩
  simp only [Fz]
  right
  refine ⟨hn,?_⟩
  have hx':FzL ok w ((cs.take h).drop l) ((xs.take h).drop l):=(hx.take h).drop l
  by_cases hcl : cap = l
  ·have:h = l:=by omega
   subst this
   refine ⟨b, o, sp, cap - h, (xs.take h).drop h, by simp [hcl], by simp, by omega, fun hne => ?_, hx', fun k x hk => ?_⟩
   ·exact absurd (List.eq_nil_of_length_eq_zero (by simp)) hne
   ·have hz:((xs.take h).drop h).length = 0:=by simp
    rw [List.eq_nil_of_length_eq_zero hz] at hk; cases hk
  ·refine ⟨b, o + l, if l = 0 then sp else none, cap - l, (xs.take h).drop l, ?_, by rw [hlen]; omega, by omega, fun hne => ⟨(hb fun he => hne (by simp [he])).1, by have := (hb fun he => hne (by simp [he])).2; simp [this]⟩, hx', fun k x hk => ?_⟩
   ·rw [hlen,if_neg hcl]
    simp only [Option.map_some,Nat.mul_one]
    congr 2
    unfold Addr.add
    split
    ·rename_i h0; simp [h0]
    ·rename_i h0; simp [h0]
   ·rw [List.getElem?_drop,List.getElem?_take] at hk
    split at hk
    ·rw [show o + l + k = o + (l + k) from by omega]; exact hc _ x hk
    ·cases hk
theorem run_sliceAt_nat {t e : TypeId} {i : TypeInfo} {a0 : Option Addr} {len cap : Nat} {lo hi : Option Value} {l h : Nat} (ht : P.underlying t = some (.slice e)) (he : P.info? e = some i) (hs : i.size = 1)
  (hlo:lo = some (.int .i64 l) ∨ (lo = none ∧ l = 0)) (hhi:hi = some (.int .i64 h) ∨ (hi = none ∧ h = len)) (h1:l ≤ h) (h2:h ≤ cap) :
  (Instr.sliceAt t (.slice a0 len cap) lo hi none).run P w = .ok (.slice (if cap = l then a0 else a0.map (·.add (l * 1))) (h - l) (cap - l)) w:=by
 have b1 : ∀ (y : Nat) (c : BoundsCode), h ≤ y → (Instr.sliceBound (.int .i64 h) y c).run P w = .ok h w := fun y c hy => by
  simp [Instr.sliceBound,asIntOf]; omega
 have b2 : ∀ (y : Nat) (c : BoundsCode), l ≤ y → (Instr.sliceBound (.int .i64 l) y c).run P w = .ok l w := fun y c hy => by
  simp [Instr.sliceBound,asIntOf]; omega
 rcases hlo with rfl | ⟨rfl, rfl⟩ <;> rcases hhi with rfl | ⟨rfl, rfl⟩ <;>
  simp [Instr.sliceAt,Instr.slice,run_underlying ht,Instr.sliceBounds,b1,b2,h1,h2,sizeOf,typeInfo,he,hs]
theorem len_goes {oper : Oper} {x : X} {y : Operand} {t : TypeId} {ts : Array TypeId} {ys : Array Operand} {dst : Option Tmp} {ty : TypeId} {pos : String} {af : Array Edge} {gd : Option (Nat × Bool)} (hG : Gam lo Xb par ow s a.tmps w)
  (ho:oper = { dst:=dst,op:=.call { callee:=.builtin .len,args:=ys,argTypes:=ts },type:=ty,pos:=pos,after:=af,guard:=gd }) (hys:ys.toList = [y]) (hts:ts.toList = [t]) (h1:tyS P t = true) (h2:xOk x y = true)
  (hk:stepK P .len [s.look x] κ):Goes P lo Xb par ow a w s κ oper:=by
 obtain ⟨e,ht⟩:=tyS_spec h1
 have hx:=xOk_sound hG h2
 have hys':ys = #[y]:=by rw [← ys.toArray_toList,hys]
 have hts':ts = #[t]:=by rw [← ts.toArray_toList,hts]
 subst hys'; subst hts'; subst ho
 have run : ∀ (a0 : Option Addr) (n c : Nat), a.eval y = .slice a0 n c → (execOp a.eval { dst := dst, op := .call { callee := .builtin .len, args := #[y], argTypes := #[t] }, type := ty, pos := pos, after := af, guard := gd : Oper }).run P w = .ok (.value (.int .i64 n)) w := by
  intro a0 n c hv
  simp [execOp,resolve,invoke,builtin,Builtin.len_,run_underlying ht,hv,goInt]
 generalize s.look x = wx at hx hk
 cases wx with
 | t g r =>
  cases r with
  | s nl cs =>
   obtain ⟨a0,cap,e1,e2⟩:=slice_len hx
   exact goes_val hG (run _ _ _ e1) (κ:=κ) (v:=.i cs.length) hk (scal_i (inR_len e2))
  | xv u r =>
   cases r with
   | s nl cs =>
    simp only [RepW,Fz] at hx
    obtain ⟨a0,cap,e1,e2⟩:=slice_len (g:=g) (show RepW lo par ow a.tmps w s (.t g (.s nl cs)) _ by simp only [RepW,Fz]; exact hx.2)
    exact goes_val hG (run _ _ _ e1) (κ:=κ) (v:=.i cs.length) hk (scal_i (inR_len e2))
   | _ => simp [stepK] at hk
  | _ => simp [stepK] at hk
 | own y' m nl cs =>
  obtain ⟨a0,cap,e1,e2⟩:=own_len hx
  exact goes_val hG (run _ _ _ e1) (κ:=κ) (v:=.i cs.length) hk (scal_i (inR_len e2))
 | _ => simp [stepK] at hk
theorem idx_goes {oper : Oper} {x i : X} {x' i' : Operand} {t : TypeId} (hG : Gam lo Xb par ow s a.tmps w) (ho : oper.op = .indexAddr t x' i') (h1 : tyS1 P t = true) (h2 : xOk x x' = true) (h3 : xOk i i' = true)
  (hk:stepK P .idx [s.look x,s.look i] κ):Goes P lo Xb par ow a w s κ oper:=by
 obtain ⟨e,inf,ht,he,hs⟩:=tyS1_spec h1
 have hx:=xOk_sound hG h2
 have hi:=xOk_sound hG h3
 have run : ∀ (ad : Addr) (n c : Nat) (k : Int), a.eval x' = .slice (some ad) n c → a.eval i' = .int .i64 k → 0 ≤ k → k.toNat < n → (execOp a.eval oper).run P w = .ok (.value (.pointer (some (ad.add k.toNat)))) w := by
  intro ad n c k hv hv2 h0 hlt
  have:0 ≤ k ∧ k < n:=⟨h0,by omega⟩
  simp [execOp,ho,Instr.indexAt,run_underlying ht,hv,hv2,asIntOf,this,sizeOf,typeInfo,he,hs]
 generalize s.look x = wx at hx hk
 generalize s.look i = wi at hi hk
 cases wi with
 | t gi ri =>
  cases ri with
  | i k =>
   obtain ⟨ei,_⟩:=repI hi
   have core : ∀ {g : G} {nl : Option Bool} {cs : List T}, Fz (okG lo ow g) w (.s nl cs) (a.eval x') → 0 ≤ k → k.toNat < cs.length → κ (.t g (.q cs k.toNat)) → Goes P lo Xb par ow a w s κ oper := by
    intro g nl cs hx k0 k1 k2
    simp only [Fz] at hx
    rcases hx with ⟨_, rfl, _⟩ | ⟨_, b, o, sp, cap, xs, e1, l1, l2, hb, hxs, hc⟩
    ·simp at k1
    ·have hne:cs ≠ []:=fun he => by rw [he] at k1; simp at k1
     obtain rfl:=(hb hne).2
     refine goes_val hG (run _ _ _ _ e1 ei k0 k1) k2 ⟨rfl,fun _ => ?_⟩
     simp only [Rep,Fz]
     refine ⟨b,o,xs,?_,fun h => (hb h).1,hxs,hc⟩
     unfold Addr.add; split
     ·rename_i h0; simp [h0]
     ·rfl
   cases wx with
   | t g r =>
    cases r with
    | s nl cs =>
     simp only [stepK] at hk
     obtain ⟨k0,k1,k2⟩:=hk
     exact core hx k0 k1 k2
    | xv u r =>
     cases r with
     | s nl cs =>
      simp only [stepK] at hk
      obtain ⟨k0,k1,k2⟩:=hk
      simp only [RepW,Fz] at hx
      exact core (by simp only [Fz]; exact hx.2) k0 k1 k2
     | _ => simp [stepK] at hk
    | _ => simp [stepK] at hk
   | own y m nl cs =>
    simp only [stepK] at hk
    obtain ⟨k0,k1,k2⟩:=hk
    obtain ⟨f1,f2,f3,f4⟩:=hx
    rcases f4.2 with ⟨_, rfl, _⟩ | ⟨_, b, cap, arr, ty, xs, e1, _⟩
    ·simp at k1
    ·refine goes_val hG (run _ _ _ _ e1 ei k0 k1) k2 ⟨rfl,fun _ _ => ⟨b,cs.length,cap,by rw [f3,e1],?_⟩⟩
     unfold Addr.add; split
     ·rename_i h0; simp [h0]
     ·simp
   | er y j m nl cs =>
    simp only [stepK] at hk
    obtain ⟨k0,km,k1⟩:=hk
    obtain ⟨f1,f2,b,len,cap,f3,f4,f5⟩:=hx
    rcases f4.2 with h | ⟨hn, b', cap', arr, ty, xs, e1, ho', hb, hs', hl, hm, ht', hx, hd⟩
    ·cases h.1
    ·cases e1
     have hjB:j < erB:=er_lt k0 (Nat.le_trans hl hm)
     obtain ⟨x,g1,g2⟩:=hx.get j k0
     have hc : w.cell? ⟨b, j, none⟩ = some x := by
      rw [cell_of_row w b j arr ty (0,0) hb]
      subst ht'
      rw [List.getElem?_take,if_pos k0] at g1
      simpa using g1
     have hux:=f5.row hjB
     rw [hc] at hux
     replace hux:=Option.some.inj hux
     cases hcj:cs.getD j .any with
     | s nx row =>
      rw [hcj,erI_s] at k1
      obtain ⟨n0,n1,n2⟩:=k1
      rw [hcj] at g2
      simp only [Fz] at g2
      rcases g2 with ⟨_, rfl, _⟩ | ⟨_, b0, o0, sp0, cap0, zs, e2, l1, l2, _, hz, hzc⟩
      ·simp at n1
      ·have hv:(veil cs xs)[j]? = some x:=by rw [veil_live (by rw [hcj]; rfl)]; exact g1
       obtain ⟨_,arr0,ty0,len0,q2,q3⟩:=(hd km).2 j b0 (by rw [hv,e2]; rfl)
       rw [hv] at q3
       replace q3:=Option.some.inj q3
       have hB:0 < erB:=by decide
       rw [hux] at q3
       have e2':=e2
       rw [hux,q3] at e2'
       cases e2'
       refine goes_val hG (run _ _ _ _ q3 ei n0 n1) n2 ⟨rfl, fun _ _ => ⟨b, cs.length, cap, f3, .inl ho', x, ?_, ?_⟩⟩
       ·rw [er_mod,Nat.mod_eq_of_lt hjB]; exact hc
       ·refine .inr ⟨by rw [er_le]; trivial,b0,row.length,_,by rw [hux]; exact q3,?_⟩
        rw [er_div,Nat.div_eq_of_lt hjB]
        unfold Addr.add; split
        ·rename_i h0; simp [h0]
        ·simp
     | _ => rw [hcj] at k1; exact k1.elim
   | _ => simp [stepK] at hk
  | _ => cases wx <;> (try (simp [stepK] at hk; done)) <;> rename_i r <;> cases r <;> (try (simp [stepK] at hk; done)) <;> rename_i r <;> cases r <;> simp [stepK] at hk
 | _ => cases wx <;> (try (simp [stepK] at hk; done)) <;> rename_i r <;> cases r <;> (try (simp [stepK] at hk; done)) <;> rename_i r <;> cases r <;> simp [stepK] at hk
theorem lde_goes {oper : Oper} {p : X} {p' : Operand} {t : TypeId} (hG : Gam lo Xb par ow s a.tmps w) (ho : oper.op = .load t p') (h1 : tyN P t = true) (h2 : xOk p p' = true)
  (hk:stepK P .lde [s.look p] κ):Goes P lo Xb par ow a w s κ oper:=by
 have hx:=xOk_sound hG h2
 have run : ∀ (ad : Addr) (x : Value), a.eval p' = .pointer (some ad) → w.cell? ad = some x → (execOp a.eval oper).run P w = .ok (.value x) w := by
  intro ad x hv hc
  simp [execOp,ho,Instr.loadAt,Instr.sureAddr,hv,loadVar,tyN_spec h1,hc]
 generalize s.look p = wx at hx hk
 cases wx with
 | pe y j m nl cs =>
  simp only [stepK] at hk
  obtain ⟨k1,k2⟩:=hk
  obtain ⟨f1,f2,b,len,cap,f3,f4,f5⟩:=hx
  rcases f4.2 with h | ⟨hn, b', cap', arr, ty, xs, e, ho', hb, hs, hl, hm, ht, hx, hd⟩
  ·cases h.1
  ·cases e
   obtain ⟨x,g1,g2⟩:=hx.get j k1
   have hc : w.cell? ⟨b, j, none⟩ = some x := by
    rw [cell_of_row w b j arr ty (0,0) hb]
    subst ht
    rw [List.getElem?_take,if_pos k1] at g1
    simpa using g1
   exact goes_val hG (run _ x f5 hc) k2 ⟨rfl,fun _ _ => ⟨b,cs.length,cap,f3,.inl ho',.of (er_lt k1 (Nat.le_trans hl hm)) hc⟩⟩
 | _ => simp [stepK] at hk
theorem loadCells_run {w : World} {ad : Addr} : ∀ (n i : Nat) (acc : Array Value) (xs : List Value), xs.length = n → (∀ j v, xs[j]? = some v → w.cell? (ad.add (i + j)) = some v) → (loadCellsFrom ad i n acc).run P w = .ok (acc ++ xs.toArray) w
 | 0, i, acc, xs, hl, _ => by
  rw [List.eq_nil_of_length_eq_zero hl]; simp [loadCellsFrom]
 | n + 1, i, acc, xs, hl, h => by
  cases xs with
  | nil => simp at hl
  | cons v vs =>
   have h0:=h 0 v rfl
   rw [Nat.add_zero] at h0
   have ih := loadCells_run n (i + 1) (acc.push v) vs (by simpa using hl) fun j x hj => by
    have:=h (j + 1) x (by simpa using hj)
    rw [show i + 1 + j = i + (j + 1) by omega]; exact this
   simp [loadCellsFrom,h0,ih]
theorem tyStL_spec {t : TypeId} {n : Nat} (h : tyStL P t n = true) (w : World) : (isAgg t).run P w = .ok true w ∧ (sizeOf t).run P w = .ok n w := by
 unfold tyStL at h
 split at h
 ·rename_i fs hd
  split at h
  ·rename_i i hi
   simp only [beq_iff_eq] at h
   exact ⟨by simp [isAgg,run_underlying hd],by simp [sizeOf,typeInfo,hi,h]⟩
  ·cases h
 ·cases h
theorem lds_goes {oper : Oper} {p : X} {p' : Operand} {t : TypeId} {n : Nat} (hG : Gam lo Xb par ow s a.tmps w) (ho : oper.op = .load t p') (h1 : tyStL P t n = true) (h2 : xOk p p' = true)
  (hk:stepK P (.lds n) [s.look p] κ):Goes P lo Xb par ow a w s κ oper:=by
 have hx:=xOk_sound hG h2
 generalize s.look p = wx at hx hk
 cases wx with
 | t g r =>
  cases r with
  | q cs k =>
   rw [stepK_lds] at hk
   obtain ⟨k1,k2⟩:=hk
   simp only [RepW,Fz] at hx
   obtain ⟨b,o,xs,e1,hb,hxs,hc⟩:=hx
   have hl:=hxs.length
   obtain ⟨t1,t2⟩:=tyStL_spec h1 w
   have hcells := loadCells_run (P := P) (w := w) (ad := ⟨b, o + k, none⟩) n 0 #[] ((xs.drop k).take n) (by simp; omega) fun j v hj => by
    rw [List.getElem?_take] at hj
    split at hj
    ·rw [List.getElem?_drop] at hj
     have:=hc (k + j) v hj
     have e : (⟨b, o + k, none⟩ : Addr).add (0 + j) = ⟨b, o + (k + j), none⟩ := by
      unfold Addr.add; split
      ·rename_i h0
       have:j = 0:=by omega
       subst this; rfl
      ·simp only [Addr.mk.injEq,true_and,and_true]; omega
     rw [e]; exact this
    ·cases hj
   refine goes_val hG (u := .agg ((xs.drop k).take n).toArray) ?_ k2 ⟨rfl, fun _ => ?_⟩
   ·simp [execOp,ho,Instr.loadAt,Instr.sureAddr,e1,loadVar,t1,t2,loadCells,hcells]
   ·simp only [Rep,Fz]
    exact ⟨_,rfl,(hxs.drop k).take n⟩
  | _ => simp [stepK] at hk
 | pc z v ts =>
  rw [stepK_ldp] at hk
  obtain ⟨k1,k2,k3⟩:=hk
  obtain ⟨m,b,arr,ty,f0,f1,f2,f3,f4,f5,f6,f7,f8,_⟩:=hx
  have hl:=f8.length
  obtain ⟨t1,t2⟩:=tyStL_spec h1 w
  rw [show z / 1000 - 1 = 0 by omega] at f7
  have hcells := loadCells_run (P := P) (w := w) (ad := ⟨b, 0, none⟩) n 0 #[] arr.toList (by omega) fun j v hj => by
   have e : (⟨b, 0, none⟩ : Addr).add (0 + j) = ⟨b, j, none⟩ := by
    unfold Addr.add; split
    ·rename_i h0
     have:j = 0:=by omega
     subst this; rfl
    ·simp
   rw [e,cell_of_row w b j arr ty (0,0) f2]; simpa using hj
  refine goes_val hG (u:=.agg arr) ?_ k3 ⟨rfl,fun _ => ⟨by omega,fun _ => ⟨b,arr,ty,f1,.inl f3,f2,rfl⟩⟩⟩
  simp [execOp,ho,Instr.loadAt,Instr.sureAddr,f7,loadVar,t1,t2,loadCells,hcells]
 | _ => simp [stepK] at hk
theorem ld_goes {oper : Oper} {p : X} {p' : Operand} {t : TypeId} (hG : Gam lo Xb par ow s a.tmps w) (ho : oper.op = .load t p') (h1 : tyN P t = true) (h2 : xOk p p' = true)
  (hk:stepK P .ld [s.look p] κ):Goes P lo Xb par ow a w s κ oper:=by
 have hx:=xOk_sound hG h2
 have run : ∀ (ad : Addr) (x : Value), a.eval p' = .pointer (some ad) → w.cell? ad = some x → (execOp a.eval oper).run P w = .ok (.value x) w := by
  intro ad x hv hc
  simp [execOp,ho,Instr.loadAt,Instr.sureAddr,hv,loadVar,tyN_spec h1,hc]
 generalize s.look p = wx at hx hk
 cases wx with
 | t g r =>
  cases r with
  | q cs k =>
   simp only [stepK] at hk
   obtain ⟨k1,k2⟩:=hk
   simp only [RepW,Fz] at hx
   obtain ⟨b,o,xs,e1,hb,hxs,hc⟩:=hx
   obtain ⟨x,f1,f2⟩:=hxs.get k k1
   exact goes_val hG (run _ x e1 (hc k x f1)) k2 (Fz.mk (fun _ h => h) f2)
  | _ => simp [stepK] at hk
 | pe y j m nl cs =>
  simp only [stepK] at hk
  obtain ⟨k1,k2⟩:=hk
  obtain ⟨f1,f2,b,len,cap,f3,f4,f5⟩:=hx
  rcases f4.2 with h | ⟨hn, b', cap', arr, ty, xs, e, ho', hb, hs, hl, hm, ht, hx, hd⟩
  ·cases h.1
  ·cases e
   obtain ⟨x,g1,g2⟩:=hx.get j k1
   refine goes_val hG (run _ x f5 ?_) k2 (Fz.mk (fun _ h => h) g2)
   rw [cell_of_row w b j arr ty (0,0) hb]
   subst ht
   rw [List.getElem?_take,if_pos k1] at g1
   simpa using g1
 | pc z v ts =>
  simp only [stepK] at hk
  obtain ⟨n,b,arr,ty,f0,f1,f2,f3,f4,f5,f6,f7,f8,f9,f10⟩:=hx
  have hlt:z / 1000 - 1 < arr.size:=by rw [f4]; exact f5
  have hcell : w.cell? ⟨b, z / 1000 - 1, none⟩ = some arr[z / 1000 - 1] := by
   rw [cell_of_row w b _ arr ty (0,0) f2]; exact Array.getElem?_eq_getElem hlt
  refine goes_val hG (run _ _ f7 hcell) hk.2 ⟨f9,fun d => ?_⟩
  by_cases hv : v.isAny = true
  ·obtain ⟨g,e⟩:=isAny_eq hv; rw [e]; simp [Rep,Fz]
  ·simp only [Bool.not_eq_true] at hv
   obtain ⟨x,g1,g2⟩:=f10 hv
   rw [hcell] at g1; cases g1
   exact g2.y f9
 | _ => simp [stepK] at hk
theorem fa_goes {oper : Oper} {p : X} {p' : Operand} {t : TypeId} {f k : Nat} (hG : Gam lo Xb par ow s a.tmps w) (ho : oper.op = .fieldAddr t p' f) (h1 : tyFld P t f k = true) (h2 : xOk p p' = true)
  (hk:stepK P (.fa k) [s.look p] κ):Goes P lo Xb par ow a w s κ oper:=by
 have hx:=xOk_sound hG h2
 obtain ⟨fs,fl,inf,ht,hf,hoff,he,hs,_⟩:=tyFld_spec h1
 have run : ∀ (ad : Addr), a.eval p' = .pointer (some ad) → (execOp a.eval oper).run P w = .ok (.value (.pointer (some (ad.add k)))) w := by
  intro ad hv
  simp [execOp,ho,Instr.fieldAt,run_underlying ht,hf,Instr.sureAddr,hv,fieldPlace,sizeOf,typeInfo,he,hs,hoff]
 generalize s.look p = wx at hx hk
 cases wx with
 | t g r =>
  cases r with
  | q cs j =>
   simp only [stepK] at hk
   simp only [RepW,Fz] at hx
   obtain ⟨b,o,xs,e1,hb,hxs,hc⟩:=hx
   refine goes_val hG (run _ e1) hk ⟨rfl,fun _ => ?_⟩
   simp only [Rep,Fz]
   refine ⟨b,o,xs,?_,hb,hxs,hc⟩
   unfold Addr.add; split
   ·rename_i h0; simp [h0]
   ·simp [Nat.add_assoc]
  | _ => simp [stepK] at hk
 | pc z v ts =>
  simp only [stepK] at hk
  obtain ⟨k1,k2⟩:=hk
  obtain ⟨n,b,arr,ty,f0,f1,f2,f3,f4,f5,f6,f7,f8,f9,f10⟩:=hx
  refine goes_val hG (run _ f7) k2 ⟨rfl, fun _ _ => ⟨b, ?_, ?_⟩⟩
  ·rw [show (z + 1000 * k) % 1000 = z % 1000 from by omega]; exact f1
  ·rw [show (z + 1000 * k) / 1000 - 1 = z / 1000 - 1 + k from by omega]
   unfold Addr.add; split
   ·rename_i h0; simp [h0]
   ·rfl
 | _ => simp [stepK] at hk
theorem fld_goes {oper : Oper} {p : X} {p' : Operand} {t : TypeId} {f k : Nat} (hG : Gam lo Xb par ow s a.tmps w) (ho : oper.op = .field t p' f) (h1 : tyFld P t f k = true) (h2 : xOk p p' = true)
  (hk:stepK P (.fld k) [s.look p] κ):Goes P lo Xb par ow a w s κ oper:=by
 have hx:=xOk_sound hG h2
 obtain ⟨fs,fl,inf,ht,hf,hoff,he,hs,hn⟩:=tyFld_spec h1
 generalize s.look p = wx at hx hk
 cases wx with
 | t g r =>
  cases r with
  | a ts =>
   simp only [stepK] at hk
   obtain ⟨k1,k2⟩:=hk
   simp only [RepW,Fz] at hx
   obtain ⟨xs,e1,hxs⟩:=hx
   obtain ⟨x,f1,f2⟩:=hxs.get k k1
   refine goes_val hG (u:=x) ?_ k2 (Fz.mk (fun _ h => h) f2)
   simp [execOp,ho,Instr.field,run_underlying ht,hf,asAgg,e1,part,tyN_spec hn,hoff,f1]
  | _ => simp [stepK] at hk
 | _ => simp [stepK] at hk
theorem sub_goes {oper : Oper} {wx : W} {x' : Operand} {l h : Int} {t : TypeId} {lo' hi' : Option Operand} (hG : Gam lo Xb par ow s a.tmps w) (ho : oper.op = .slice t x' lo' hi' none) (h1 : tyS1 P t = true)
  (hx:RepW lo par ow a.tmps w s wx (a.eval x')) (hlo:(lo'.map a.eval = some (.int .i64 l)) ∨ (lo' = none ∧ l = 0)) (hhi:(hi'.map a.eval = some (.int .i64 h)) ∨ (hi' = none ∧ h = wx.len))
  (hk:subK wx l h κ):Goes P lo Xb par ow a w s κ oper:=by
 obtain ⟨e,inf,ht,he,hs⟩:=tyS1_spec h1
 have key : ∀ {ok : Nat → Prop} {nl : Option Bool} {cs : List T} {g : G} {u : Value}, u = a.eval x' → Fz ok w (.s nl cs) u → subOk l h cs.length → wx.len = cs.length → (∀ b, ok b → okG lo ow g b) →
   κ (.t g (.s nl ((cs.take h.toNat).drop l.toNat))) → Goes P lo Xb par ow a w s κ oper:=by
  intro ok nl cs g u hu hf hs' hlen hok hκ
  obtain ⟨l',h',rfl,rfl,h3,h4⟩:=subOk_nat hs'
  obtain ⟨a0,len,cap,e1,e2,e3,e4⟩:=hf.sub h3 h4
  refine goes_val hG (u := .slice (if cap = l' then a0 else a0.map (·.add (l' * 1))) (h' - l') (cap - l')) ?_ hκ ⟨rfl, fun _ => ?_⟩
  ·have hr := run_sliceAt_nat (P := P) (w := w) (a0 := a0) (len := len) (cap := cap) (lo := lo'.map a.eval) (hi := hi'.map a.eval) (l := l') (h := h') ht he hs
    (by rcases hlo with hlo | ⟨hlo, h0⟩
        ·exact .inl hlo
        ·exact .inr ⟨by rw [hlo]; rfl,by omega⟩)
    (by rcases hhi with hhi | ⟨hhi, h0⟩
        ·exact .inl hhi
        ·exact .inr ⟨by rw [hhi]; rfl,by omega⟩) h3 (by omega)
   simp only [execOp,ho,Sem.run_bind,← hu,e1,Option.map_none]
   rw [hr]; rfl
  ·simp only [Rep]
   simp only [Int.toNat_natCast]
   exact Fz.mono hok e4
 cases wx with
 | t g r =>
  cases r with
  | s nl cs =>
   rw [subK_t] at hk
   exact key (g:=g) rfl hx hk.1 rfl (fun _ h => h) hk.2
  | _ => simp [subK] at hk
 | own y m nl cs =>
  rw [subK_o] at hk
  obtain ⟨_,_,_,hO⟩:=hx
  refine key (ok:=okG lo ow (.sp y)) (g:=.sp y) rfl ?_ hk.1 rfl (fun _ h => h) hk.2
  rcases hO.2 with h | ⟨hn, b, cap, arr, ty, xs, e, ho, hb, hs, hl, hm, ht, hx, hd⟩
  ·simp only [Fz]; exact .inl h
  ·simp only [Fz]
   refine .inr ⟨hn, b, 0, none, cap, xs, e, hl, hm, fun _ => ⟨.inl ho, rfl⟩, hx.mono fun b' hb' => ?_, fun k x hk => ?_⟩
   ·unfold tagM at hb'
    by_cases m1 : (m % 10 == 1) = true
    ·simp only [m1,cond_true] at hb'; exact .inr (.inl hb')
    ·simp only [Bool.not_eq_true] at m1
     simp only [m1,cond_false] at hb'
     by_cases m0 : (m % 10 == 0) = true
     ·simp only [m0,cond_true] at hb'; exact .inr (.inr hb'.1)
     ·simp only [Bool.not_eq_true] at m0
      simp only [m0,cond_false] at hb'; exact .inr (.inr hb')
   ·rw [cell_of_row w b (0 + k) arr ty (0,0) hb]
    subst ht
    rw [List.getElem?_take] at hk
    split at hk
    ·simpa using hk
    ·cases hk
 | _ => simp [subK] at hk
theorem cap_goes {oper : Oper} {x : X} {y : Operand} {t : TypeId} {ts : Array TypeId} {ys : Array Operand} {dst : Option Tmp} {ty : TypeId} {pos : String} {af : Array Edge} {gd : Option (Nat × Bool)} (hG : Gam lo Xb par ow s a.tmps w)
  (ho:oper = { dst:=dst,op:=.call { callee:=.builtin .cap,args:=ys,argTypes:=ts },type:=ty,pos:=pos,after:=af,guard:=gd }) (hys:ys.toList = [y]) (hts:ts.toList = [t]) (h1:tyS P t = true) (h2:xOk x y = true)
  (hk:stepK P .cap [s.look x] κ):Goes P lo Xb par ow a w s κ oper:=by
 obtain ⟨e,ht⟩:=tyS_spec h1
 have hx:=xOk_sound hG h2
 have hys':ys = #[y]:=by rw [← ys.toArray_toList,hys]
 have hts':ts = #[t]:=by rw [← ts.toArray_toList,hts]
 subst hys'; subst hts'; subst ho
 have run : a.eval y = .slice none 0 0 → (execOp a.eval { dst := dst, op := .call { callee := .builtin .cap, args := #[y], argTypes := #[t] }, type := ty, pos := pos, after := af, guard := gd : Oper }).run P w = .ok (.value (.int .i64 0)) w := by
  intro hv
  simp [execOp,resolve,invoke,builtin,Builtin.cap_,run_underlying ht,hv,goInt]
 have h0:inR 0:=by unfold inR; omega
 generalize s.look x = wx at hx hk
 cases wx with
 | t g r =>
  cases r with
  | s nl cs =>
   cases nl with
   | none => simp [stepK] at hk
   | some nl =>
    cases nl with
    | false => simp [stepK] at hk
    | true =>
     simp only [RepW,Fz] at hx
     rcases hx with ⟨e1, _⟩ | ⟨e1, _⟩
     ·exact goes_val hG (run e1) (κ:=κ) (v:=.i 0) hk (scal_i h0)
     ·exact absurd rfl e1
  | _ => simp [stepK] at hk
 | own y' m nl cs =>
  cases nl with
  | none => simp [stepK] at hk
  | some nl =>
   cases nl with
   | false => simp [stepK] at hk
   | true =>
    obtain ⟨_,_,_,_,hx⟩:=hx
    rcases hx with ⟨e1, _⟩ | ⟨e1, _⟩
    ·exact goes_val hG (run e1) (κ:=κ) (v:=.i 0) hk (scal_i h0)
    ·exact absurd rfl e1
 | _ => simp [stepK] at hk
theorem subp_goes {oper : Oper} {x l : X} {x' l' : Operand} {t : TypeId} (hG : Gam lo Xb par ow s a.tmps w) (ho : oper.op = .slice t x' (some l') none none) (h1 : tyS1 P t = true) (h2 : xOk x x' = true) (h3 : xOk l l' = true)
  (hk:stepK P .subp [s.look x,s.look l] κ):Goes P lo Xb par ow a w s κ oper:=by
 obtain ⟨e,inf,ht,he,hs⟩:=tyS1_spec h1
 have hx:=xOk_sound hG h2
 have hl:=xOk_sound hG h3
 generalize s.look x = wx at hx hk
 generalize s.look l = wl at hl hk
 cases wx with
 | own y m nl cs =>
  cases wl with
  | t g r =>
   cases r with
   | i k =>
    rw [stepK_subp] at hk
    obtain ⟨k1,k2,k3⟩:=hk
    obtain ⟨l0,rfl⟩:∃ l0:Nat,k = l0:=⟨k.toNat,by omega⟩
    obtain ⟨f1,f2,f3,f4⟩:=hx
    have hv : ∃ a0 cap, a.eval x' = .slice a0 cs.length cap ∧ cs.length ≤ cap := by
     rcases f4.2 with ⟨e1, e2, _⟩ | ⟨_, b, cap, arr, ty, xs, e1, _, _, _, e2, _⟩
     ·exact ⟨none,0,by rw [e1,e2]; rfl,by rw [e2]; simp⟩
     ·exact ⟨_,cap,e1,e2⟩
    obtain ⟨a0,cap,e1,e2⟩:=hv
    refine goes_val hG (u := .slice (if cap = l0 then a0 else a0.map (·.add (l0 * 1))) (cs.length - l0) (cap - l0)) ?_ k3 ⟨rfl, fun _ => ?_⟩
    ·have hr := run_sliceAt_nat (P := P) (w := w) (a0 := a0) (len := cs.length) (cap := cap) (lo := some (a.eval l')) (hi := none) (l := l0) (h := cs.length) ht he hs
      (.inl (by simp [(repI hl).1])) (.inr ⟨rfl,rfl⟩) (by omega) e2
     simp only [execOp,ho,Sem.run_bind,e1,Option.map_none,Option.map_some]
     rw [hr]; rfl
    ·intro _
     exact ⟨a0,cs.length,cap,by rw [← e1]; exact f3,by omega,Nat.le_refl _,e2,by simp⟩
   | _ => simp [stepK] at hk
  | _ => simp [stepK] at hk
 | _ => cases wl <;> simp [stepK] at hk
end
end Go.Vc
namespace Go.Vc
open Go
theorem oneCell_cells {v : Value} (h : v.oneCell' = true) : v.cells = #[v] := by
 cases v <;> simp [Value.oneCell',Value.cells] at h ⊢
theorem fill_full (place : Nat → Option (Nat × Nat)) : ∀ (vs : List Value) (ps : List (Nat × Value)) (i : Nat) (cells : Array Value), (∀ j, i ≤ j → j < i + vs.length → place j = some (j, 1)) → i + vs.length ≤ cells.size →
  ps = (List.range' i vs.length).zip vs → (∀ v ∈ vs,v.oneCell' = true) → Instr.fill place cells ps = some (cells.toList.take i ++ vs ++ cells.toList.drop (i + vs.length)).toArray
 | [],ps,i,cells,_,_,hp,_ => by subst hp; simp [Instr.fill]
 | v :: vs, ps, i, cells, hpl, hs, hp, h1 => by
  simp only [List.length_cons] at hpl hs hp
  rw [List.range'_succ,List.zip_cons_cons] at hp
  subst hp
  have hc:=oneCell_cells (h1 v (by simp))
  simp only [Instr.fill,hpl i (Nat.le_refl _) (by omega),hc]
  simp only [List.size_toArray,List.length_cons,List.length_nil]
  rw [if_neg (by simp; omega)]
  rw [fill_full place vs _ (i + 1) _ (fun j h1 h2 => hpl j (by omega) (by omega)) (by simp; omega) rfl (fun u hu => h1 u (by simp [hu]))]
  have e1 : (Array.foldl (fun cs (x : Value × Nat) => cs.setIfInBounds (i + x.2) x.1) cells (Array.zipIdx #[v])).toList = cells.toList.set i v := by
   simp [Array.zipIdx]
  refine congrArg (fun l:List Value => some l.toArray) ?_
  rw [e1]
  have hi:i < cells.toList.length:=by simp; omega
  have e2 : (cells.toList.set i v).take (i + 1) = cells.toList.take i ++ [v] := by
   rw [List.take_succ_eq_append_getElem (by simpa using hi)]
   rw [List.take_set_of_le (Nat.le_refl _)]
   simp
  have e3 : (cells.toList.set i v).drop (i + 1 + vs.length) = cells.toList.drop (i + (vs.length + 1)) := by
   rw [List.drop_set,if_pos (by omega)]
   congr 1; omega
  rw [e2,e3]
  simp
theorem litOk_spec {a : Act} : ∀ {xs : List X} {ps : List (Nat × Operand)} {i : Nat}, litOk i xs ps = true →
  xsOk xs (ps.map (·.2)) = true ∧ ps.map (fun p => (p.1,a.eval p.2)) = (List.range' i xs.length).zip ((ps.map (·.2)).map a.eval)
 | [],[],i,_ => by simp [xsOk]
 | x :: xs, (j, y) :: ps, i, h => by
  simp only [litOk,Bool.and_eq_true,beq_iff_eq] at h
  obtain ⟨⟨rfl,h1⟩,h2⟩:=h
  obtain ⟨g1,g2⟩:=litOk_spec (a:=a) h2
  refine ⟨by simp [xsOk,h1,g1],?_⟩
  simp only [List.map_cons,List.length_cons,List.range'_succ,List.zip_cons_cons]
  rw [g2]
 | [],_ :: _,_,h => by simp [litOk] at h
 | _ :: _,[],_,h => by simp [litOk] at h
theorem bld_gap {x : X} {zs : Array Value} {i : Nat} (h : (match zs[i]? with | some v => v.oneCell' && xOk x (.const v) | none => false) = true) : ∃ v, zs[i]? = some v ∧ v.oneCell' = true ∧ xOk x (.const v) = true := by
 split at h
 ·rename_i v hv
  simp only [Bool.and_eq_true] at h
  exact ⟨v,hv,h.1,h.2⟩
 ·cases h
theorem fill_same {place : Nat → Option (Nat × Nat)} {cells : Array Value} {i : Nat} {v : Value} {ps : List (Nat × Value)} (hp : place i = some (i, 1)) (h1 : v.oneCell' = true) (hc : cells[i]? = some v) : Instr.fill place cells ((i, v) :: ps) = Instr.fill place cells ps := by
 have hcv:=oneCell_cells h1
 have hi:i < cells.size:=(Array.getElem?_eq_some_iff.1 hc).1
 simp only [Instr.fill,hp,hcv]
 simp only [List.size_toArray,List.length_cons,List.length_nil]
 rw [if_neg (by simp; omega)]
 congr 1
 have:(Array.foldl (fun cs (x:Value × Nat) => cs.setIfInBounds (i + x.2) x.1) cells (Array.zipIdx #[v])) = cells.setIfInBounds i v:=by simp [Array.zipIdx]
 rw [this]
 refine Array.ext_getElem? fun k => ?_
 by_cases e : i = k
 ·subst e; rw [Array.getElem?_setIfInBounds_self_of_lt hi,hc]
 ·rw [Array.getElem?_setIfInBounds_ne e]
theorem bld_fill {a : Act} {place : Nat → Option (Nat × Nat)} {zs : Array Value} : ∀ {xs : List X} {ps : List (Nat × Operand)} {i : Nat} {cells : Array Value}, bldOk zs i xs ps = true → (∀ j, i ≤ j → j < i + xs.length → place j = some (j, 1)) → (∀ j, i ≤ j → cells[j]? = zs[j]?) →
  ∃ ps',litOk i xs ps' = true ∧ Instr.fill place cells (ps.map fun p => (p.1,a.eval p.2)) = Instr.fill place cells (ps'.map fun p => (p.1,a.eval p.2))
 | [],[],i,cells,_,_,_ => ⟨[],rfl,rfl⟩
 | [],_ :: _,i,cells,h,_,_ => by simp [bldOk] at h
 | x :: xs, [], i, cells, h, hp, hc => by
  simp only [bldOk,Bool.and_eq_true] at h
  simp only [List.length_cons] at hp
  obtain ⟨v,hv,h1,h2⟩:=bld_gap h.1
  obtain ⟨ps',k1,k2⟩:=bld_fill (a:=a) (place:=place) (cells:=cells) h.2 (fun j h1 h2 => hp j (by omega) (by omega)) fun j hj => hc j (by omega)
  refine ⟨(i,.const v) :: ps',by simp [litOk,h2,k1],?_⟩
  rw [k2,List.map_cons]
  exact (fill_same (hp i (Nat.le_refl _) (by omega)) h1 (by rw [hc i (Nat.le_refl _),hv])).symm
 | x :: xs, (j, y) :: ps, i, cells, h, hp, hc => by
  simp only [bldOk] at h
  simp only [List.length_cons] at hp
  by_cases hj : j = i
  ·subst hj
   simp only [beq_self_eq_true,cond_true,Bool.and_eq_true] at h
   obtain ⟨h1,h2⟩:=h
   by_cases hs : (a.eval y).cells.size ≠ 1 ∨ j + (a.eval y).cells.size > cells.size
   ·obtain ⟨ps',k1,k2⟩:=bld_fill (a:=a) (place:=place) (cells:=cells) h2 (fun j h1 h2 => hp j (by omega) (by omega)) fun j hj => hc j (by omega)
    refine ⟨(j,y) :: ps',by simp [litOk,h1,k1],?_⟩
    simp only [List.map_cons,Instr.fill,hp j (Nat.le_refl _) (by omega)]
    rw [if_pos (by simpa using hs),if_pos (by simpa using hs)]
   ·obtain ⟨c, hcv⟩ : ∃ c, (a.eval y).cells = #[c] := by
     have:(a.eval y).cells.size = 1:=by omega
     exact ⟨(a.eval y).cells[0]'(by omega),by apply Array.ext (by simp [this]); intro k h1 h2; simp at h2; subst h2; rfl⟩
    have hfold:(Array.foldl (fun cs (x:Value × Nat) => cs.setIfInBounds (j + x.2) x.1) cells (Array.zipIdx #[c])) = cells.setIfInBounds j c:=by simp [Array.zipIdx]
    obtain ⟨ps', k1, k2⟩ := bld_fill (a := a) (place := place) (cells := cells.setIfInBounds j c) h2 (fun j h1 h2 => hp j (by omega) (by omega)) fun k hk => by
     rw [Array.getElem?_setIfInBounds_ne (by omega)]; exact hc k (by omega)
    refine ⟨(j,y) :: ps',by simp [litOk,h1,k1],?_⟩
    simp only [List.map_cons,Instr.fill,hp j (Nat.le_refl _) (by omega)]
    rw [if_neg (by simpa using hs),if_neg (by simpa using hs),hcv,hfold,k2]
  ·simp only [show (j == i) = false by simpa using hj,cond_false,Bool.and_eq_true] at h
   obtain ⟨v,hv,h1,h2⟩:=bld_gap h.1
   obtain ⟨ps',k1,k2⟩:=bld_fill (a:=a) (place:=place) (cells:=cells) h.2 (fun j h1 h2 => hp j (by omega) (by omega)) fun j hj => hc j (by omega)
   refine ⟨(i,.const v) :: ps',by simp [litOk,h2,k1],?_⟩
   rw [k2,List.map_cons]
   exact (fill_same (hp i (Nat.le_refl _) (by omega)) h1 (by rw [hc i (Nat.le_refl _),hv])).symm
section
variable {P:Program} {lo:Nat} {Xb:Nat → Prop} {par:Nat → Option Value} {ow:Ow} {a:Act} {w:World} {s:St} {κ:V → Prop}
theorem join_ok {g h k : G} (e : g.join h = some k) (b : Nat) : (okG lo ow g b → okG lo ow k b) ∧ (okG lo ow h b → okG lo ow k b) ∧ (k = .fr ∨ k = .arg) := by
 cases g <;> cases h <;> simp [G.join] at e <;> subst e <;> simp [okG]
 all_goals (first | exact ⟨fun h _ => h,fun h _ => h⟩ | (intro h _; exact h) | skip)
theorem parts_spec {w : World} : ∀ {ws : List W} {us : List Value} {g : G} {ts : List T}, ws.length = us.length → (∀ (i : Nat) (x : W) (u : Value), ws[i]? = some x → us[i]? = some u → RepW lo par ow a.tmps w s x u) → parts ws = some (g, ts) →
  FzL (okG lo ow g) w ts us ∧ (∀ u ∈ us,u.oneCell' = true) ∧ (g = .fr ∨ g = .arg) ∧ ws.length = ts.length ∧ ws.map W.res = ts
 | [],[],g,ts,_,_,h => by simp [parts] at h; obtain ⟨rfl,rfl⟩:=h; simp [FzL]
 | x :: ws, u :: us, g, ts, hl, hr, h => by
  cases x with
  | t gx r =>
   simp only [parts] at h
   cases hp:parts ws with
   | none => simp [hp,partsC] at h
   | some p =>
    obtain ⟨g',ts'⟩:=p
    rw [hp,partsC_s] at h
    cases h1:r.one with
    | false => simp [h1] at h
    | true =>
     simp only [h1,cond_true,Option.map_eq_some_iff] at h
     obtain ⟨k,hk,he⟩:=h
     cases he
     obtain ⟨f1,f2,f3,f4,f5⟩:=parts_spec (by simpa using hl) (fun i x u hx hu => hr (i + 1) x u (by simpa using hx) (by simpa using hu)) hp
     have hru:=hr 0 (.t gx r) u (by simp) (by simp)
     simp only [RepW] at hru
     refine ⟨?_, ?_, (join_ok (lo := lo) (ow := ow) hk 0).2.2, by simpa using f4, by simp [f5, W.res]⟩
     ·simp only [FzL]
      exact ⟨u,us,rfl,Fz.mono (fun b hb => (join_ok hk b).1 hb) hru,f1.mono fun b hb => (join_ok hk b).2.1 hb⟩
     ·intro v hv
      rcases List.mem_cons.1 hv with rfl | hv
      ·exact hru.one (by cases r <;> first | exact h1 | (simp [T.one] at h1 ⊢; done))
      ·exact f2 v hv
  | _ => simp [parts] at h
 | [],_ :: _,_,_,hl,_,_ => by simp at hl
 | _ :: _,[],_,_,hl,_,_ => by simp at hl
theorem okG_new (hG : Gam lo Xb par ow s a.tmps w) {g : G} (hg : g = .fr ∨ g = .arg) : okG lo ow g w.heap.size := by
 have : ow w.heap.size = none := by
  cases h:ow w.heap.size with
  | none => rfl
  | some p => exact absurd (hG.base _ p h).1 (by omega)
 rcases hg with rfl | rfl
 ·exact ⟨this,hG.low⟩
 ·exact this
theorem Gam.alloc (hG : Gam lo Xb par ow s a.tmps w) (o : Obj) : Gam lo Xb par ow s a.tmps (w.alloc o) :=
 hG.grow (Grow.alloc _ w o) (fun _ _ => rfl) fun b p hb hp => absurd (hG.base b p hp).1 (by omega)
theorem FzL.alloc {ok : Nat → Prop} {ts : List T} {xs : List Value} (h : FzL ok w ts xs) (o : Obj) : FzL ok (w.alloc o) ts xs :=
 FzL.imp (fun b hb hk => ⟨hk,(Grow.alloc (fun _ => False) w o).blk hb⟩) ts xs h
theorem goes_alloc {oper : Oper} {v : V} {u : Value} {o : Obj} (hG : Gam lo Xb par ow s a.tmps w) (hr : (execOp a.eval oper).run P w = .ok (.value u) (w.alloc o)) (hk : κ v)
  (hv:v.isName = false ∧ ∀ d,Rep lo par ow a.tmps (w.alloc o) s d v u):Goes P lo Xb par ow a w s κ oper:=by
 intro next Q K
 unfold Oper.wp; rw [hr]
 exact K v u _ hk (Grow.alloc _ w o) (hG.alloc o) hv.1 hv.2
theorem foldl_max2 : ∀ (ns : List Int) (x : Int), (ns.map (fun n => Value.int .i64 n)).foldlM Builtin.max2 (.int .i64 x) = (pure (.int .i64 (ns.foldl max x)) : Sem Value)
 | [],x => rfl
 | n :: ns, x => by
  simp only [List.map_cons,List.foldlM_cons,Builtin.max2,pure_bind,List.foldl_cons]
  rw [show (if n > x then n else x) = max x n from by rw [Int.max_def]; split <;> split <;> omega]
  exact foldl_max2 ns _
theorem foldl_min2 : ∀ (ns : List Int) (x : Int), (ns.map (fun n => Value.int .i64 n)).foldlM Builtin.min2 (.int .i64 x) = (pure (.int .i64 (ns.foldl min x)) : Sem Value)
 | [],x => rfl
 | n :: ns, x => by
  simp only [List.map_cons,List.foldlM_cons,Builtin.min2,pure_bind,List.foldl_cons]
  rw [show (if n < x then n else x) = min x n from by rw [Int.min_def]; split <;> split <;> omega]
  exact foldl_min2 ns _
theorem foldl_max_assoc : ∀ (ns : List Int) (x y : Int), ns.foldl max (max x y) = max x (ns.foldl max y)
 | [],_,_ => rfl
 | n :: ns,x,y => by simp only [List.foldl_cons]; rw [Int.max_assoc,foldl_max_assoc]
theorem foldl_min_assoc : ∀ (ns : List Int) (x y : Int), ns.foldl min (min x y) = min x (ns.foldl min y)
 | [],_,_ => rfl
 | n :: ns,x,y => by simp only [List.foldl_cons]; rw [Int.min_assoc,foldl_min_assoc]
theorem maxI_spec : ∀ {ws : List W} {us : List Value} {m : Int}, ws.length = us.length → (∀ (i : Nat) (x : W) (u : Value), ws[i]? = some x → us[i]? = some u → RepW lo par ow a.tmps w s x u) → maxI ws = some m →
  ∃ x ns,us = (x :: ns).map (fun n => Value.int .i64 n) ∧ m = ns.foldl max x ∧ ∀ n ∈ x :: ns,inR n
 | [],_,_,_,_,h => by simp [maxI] at h
 | [x], [u], m, _, hr, h => by
  cases x with
  | t g r =>
   cases r with
   | i n =>
    simp [maxI] at h; subst h
    obtain ⟨rfl,h2⟩:=repI (hr 0 (.t g (.i n)) u (by simp) (by simp))
    exact ⟨n,[],rfl,rfl,by simpa using h2⟩
   | _ => simp [maxI] at h
  | _ => simp [maxI] at h
 | x :: y :: ws, u :: v :: us, m, hl, hr, h => by
  cases x with
  | t g r =>
   cases r with
   | i n =>
    simp only [maxI,Option.map_eq_some_iff] at h
    obtain ⟨m',h1,rfl⟩:=h
    obtain ⟨rfl,h2⟩:=repI (hr 0 (.t g (.i n)) u (by simp) (by simp))
    obtain ⟨x',ns,e1,e2,e3⟩:=maxI_spec (ws:=y :: ws) (us:=v :: us) (by simpa using hl) (fun i x u hx hu => hr (i + 1) x u (by simpa using hx) (by simpa using hu)) h1
    refine ⟨n, x' :: ns, by rw [e1]; rfl, ?_, ?_⟩
    ·rw [List.foldl_cons,foldl_max_assoc,e2]
    ·intro k hk
     rcases List.mem_cons.1 hk with rfl | hk
     ·exact h2
     ·exact e3 k hk
   | _ => simp [maxI] at h
  | _ => simp [maxI] at h
 | [_],[],_,hl,_,_ => by simp at hl
 | [_],_ :: _ :: _,_,hl,_,_ => by simp at hl
 | _ :: _ :: _,[],_,hl,_,_ => by simp at hl
 | _ :: _ :: _,[_],_,hl,_,_ => by simp at hl
theorem minI_spec : ∀ {ws : List W} {us : List Value} {m : Int}, ws.length = us.length → (∀ (i : Nat) (x : W) (u : Value), ws[i]? = some x → us[i]? = some u → RepW lo par ow a.tmps w s x u) → minI ws = some m →
  ∃ x ns,us = (x :: ns).map (fun n => Value.int .i64 n) ∧ m = ns.foldl min x ∧ ∀ n ∈ x :: ns,inR n
 | [],_,_,_,_,h => by simp [minI] at h
 | [x], [u], m, _, hr, h => by
  cases x with
  | t g r =>
   cases r with
   | i n =>
    simp [minI] at h; subst h
    obtain ⟨rfl,h2⟩:=repI (hr 0 (.t g (.i n)) u (by simp) (by simp))
    exact ⟨n,[],rfl,rfl,by simpa using h2⟩
   | _ => simp [minI] at h
  | _ => simp [minI] at h
 | x :: y :: ws, u :: v :: us, m, hl, hr, h => by
  cases x with
  | t g r =>
   cases r with
   | i n =>
    simp only [minI,Option.map_eq_some_iff] at h
    obtain ⟨m',h1,rfl⟩:=h
    obtain ⟨rfl,h2⟩:=repI (hr 0 (.t g (.i n)) u (by simp) (by simp))
    obtain ⟨x',ns,e1,e2,e3⟩:=minI_spec (ws:=y :: ws) (us:=v :: us) (by simpa using hl) (fun i x u hx hu => hr (i + 1) x u (by simpa using hx) (by simpa using hu)) h1
    refine ⟨n, x' :: ns, by rw [e1]; rfl, ?_, ?_⟩
    ·rw [List.foldl_cons,foldl_min_assoc,e2]
    ·intro k hk
     rcases List.mem_cons.1 hk with rfl | hk
     ·exact h2
     ·exact e3 k hk
   | _ => simp [minI] at h
  | _ => simp [minI] at h
 | [_],[],_,hl,_,_ => by simp at hl
 | [_],_ :: _ :: _,_,hl,_,_ => by simp at hl
 | _ :: _ :: _,[],_,hl,_,_ => by simp at hl
 | _ :: _ :: _,[_],_,hl,_,_ => by simp at hl
theorem inR_foldl_max : ∀ (ns : List Int) (x : Int), (∀ n ∈ x :: ns, inR n) → inR (ns.foldl max x)
 | [],x,h => h x (by simp)
 | n :: ns, x, h => by
  simp only [List.foldl_cons]
  refine inR_foldl_max ns _ fun k hk => ?_
  rcases List.mem_cons.1 hk with rfl | hk
  ·rcases Int.le_total x n with hx | hx
   ·rw [Int.max_eq_right hx]; exact h n (by simp)
   ·rw [Int.max_eq_left hx]; exact h x (by simp)
  ·exact h k (by simp [hk])
theorem inR_foldl_min : ∀ (ns : List Int) (x : Int), (∀ n ∈ x :: ns, inR n) → inR (ns.foldl min x)
 | [],x,h => h x (by simp)
 | n :: ns, x, h => by
  simp only [List.foldl_cons]
  refine inR_foldl_min ns _ fun k hk => ?_
  rcases List.mem_cons.1 hk with rfl | hk
  ·rcases Int.le_total x n with hx | hx
   ·rw [Int.min_eq_left hx]; exact h x (by simp)
   ·rw [Int.min_eq_right hx]; exact h n (by simp)
  ·exact h k (by simp [hk])
theorem intsv {x:Int} {ns:List Int} {m:Int} (hm:inR m):(V.i m).isName = false ∧ ∀ d,Rep lo par ow a.tmps w s d (.i m) (.int .i64 m):=scal_i hm
theorem tyStr_spec {t : TypeId} {n : Nat} (h : tyStr P t n = true) : ∃ fs z i, P.underlying t = some (.struct fs) ∧ fs.size = n ∧ (∀ j, j < n → tyFld P t j j = true) ∧ P.info? t = some i ∧ i.zero = some z ∧ z.cells.size = n := by
 unfold tyStr at h
 split at h
 ·rename_i fs hfs
  simp only [Bool.and_eq_true,beq_iff_eq,List.all_eq_true,List.mem_range] at h
  obtain ⟨⟨h1,h2⟩,h3⟩:=h
  split at h3
  ·rename_i i hi
   split at h3
   ·rename_i z hz
    exact ⟨fs,z,i,hfs,h1,h2,hi,hz,by simpa using h3⟩
   ·cases h3
  ·cases h3
 ·cases h
theorem tyZ_spec {t e : TypeId} (h : tyZ P t = true) (ht : P.underlying t = some (.slice e)) : ∃ i z, P.info? e = some i ∧ i.zero = some z := by
 unfold tyZ at h
 rw [ht] at h
 simp only at h
 split at h
 ·rename_i i hi
  obtain ⟨z,hz⟩:=Option.isSome_iff_exists.1 h
  exact ⟨i,z,hi,hz⟩
 ·cases h
theorem bld_goes {oper : Oper} {xs : List X} {t : TypeId} {ps : Array (Nat × Operand)} (hG : Gam lo Xb par ow s a.tmps w) (ho : oper.op = .build t ps) (h1 : tyStr P t xs.length = true) (h2 : bldChk P t xs ps.toList = true)
  (hk:stepK P .bld (xs.map s.look) κ):Goes P lo Xb par ow a w s κ oper:=by
 obtain ⟨fs,z,inf,ht,hn,hf,hi,hz,hzs⟩:=tyStr_spec h1
 have h2:bldOk z.cells 0 xs ps.toList = true:=by unfold bldChk at h2; rw [hi] at h2; simp only at h2; rw [hz] at h2; exact h2
 have hplace : ∀ j, 0 ≤ j → j < 0 + xs.length → ((fs.map fun f => (f.offset, 1))[·]?) j = some (j, 1) := fun j _ hj => by
  obtain ⟨fs',fl,i',q1,q2,q3,q4,q5,_⟩:=tyFld_spec (hf j (by omega))
  rw [ht] at q1; cases q1
  simp [q2,q3]
 obtain ⟨ps',k1,k2⟩:=bld_fill (a:=a) (place:=((fs.map fun f => (f.offset,1))[·]?)) (cells:=z.cells) h2 hplace fun j _ => rfl
 obtain ⟨g1,g2⟩:=litOk_spec (a:=a) k1
 obtain ⟨l1,l2⟩:=xsOk_sound hG g1
 rw [stepK_bld] at hk
 cases hp:parts (xs.map s.look) with
 | none => simp [hp,optK] at hk
 | some p =>
  obtain ⟨g,ts⟩:=p
  rw [hp,optK_s] at hk
  obtain ⟨f1,f2,f3,f4,f5⟩:=parts_spec l1 l2 hp
  have hlen:((ps'.map (·.2)).map a.eval).length = xs.length:=by simpa using l1.symm
  refine goes_val hG (u := .agg ((ps'.map (·.2)).map a.eval).toArray) ?_ hk ⟨rfl, fun _ => ?_⟩
  ·have hfields : (fs.mapM fun f => (do pure (f.offset, ← sizeOf f.type) : Sem (Nat × Nat))).run P w = .ok (fs.map fun f => (f.offset, 1)) w := by
    have hall : ∀ f ∈ fs.toList, (sizeOf f.type).run P w = .ok 1 w := fun f hfm => by
     obtain ⟨j,hj,e⟩:=List.getElem_of_mem hfm
     obtain ⟨fs',fl,i',q1,q2,q3,q4,q5,_⟩:=tyFld_spec (hf j (by simpa [hn] using hj))
     rw [ht] at q1; cases q1
     have : fl = f := by
      have:fs[j]? = some f:=by rw [← e]; simp at hj ⊢
      rw [q2] at this; cases this; rfl
     subst this
     simp [sizeOf,typeInfo,q4,q5]
    rw [← Array.toArray_toList (xs:=fs)]
    generalize fs.toList = l at hall ⊢
    rw [List.mapM_toArray]
    simp only [Sem.run_map,List.map_toArray]
    have : (l.mapM fun f => (do pure (f.offset, ← sizeOf f.type) : Sem (Nat × Nat))).run P w = .ok (l.map fun f => (f.offset, 1)) w := by
     induction l with
     | nil => rfl
     | cons f l ih =>
      simp only [List.mapM_cons,Sem.run_bind,hall f (by simp),Result.andThen_ok,Sem.run_pure,ih (fun f hf => hall f (by simp [hf])),List.map_cons]
    rw [this]; rfl
   have hfill := fill_full ((fs.map fun f => (f.offset, 1))[·]?) ((ps'.map (·.2)).map a.eval) (ps'.map fun p => (p.1, a.eval p.2)) 0 z.cells (fun j _ hj => by
     rw [hlen] at hj
     obtain ⟨fs',fl,i',q1,q2,q3,q4,q5,_⟩:=tyFld_spec (hf j (by omega))
     rw [ht] at q1; cases q1
     simp [q2,q3]) (by rw [hlen,hzs]; omega) (by rw [g2,hlen]) f2
   have hz0:(zeroValue t).run P w = .ok z w:=by simp [zeroValue,typeInfo,hi,hz]
   simp only [execOp,ho,Instr.build,Sem.run_bind,hz0,Result.andThen_ok,run_underlying ht,hfields]
   have hmap:((ps.map fun x => match x with | (i,x) => (i,a.eval x))).toList = ps.toList.map fun p => (p.1,a.eval p.2):=by simp
   rw [hmap,k2,hfill]
   simp [hlen,hzs]
   have h:=hlen; simp at h; omega
  ·simp only [Rep,Fz]
   exact ⟨_,rfl,f1⟩
theorem lit_run {oper : Oper} {xs : List X} {t : TypeId} {n : Nat} {ps : Array (Nat × Operand)} (ho : oper.op = .buildSlice t n ps) (h1 : tyS1 P t = true) (hn : n = xs.length) (hn2 : n ≤ 1000) (h2 : litOk 0 xs ps.toList = true) (hz : tyZ P t = true)
  (f2:∀ u ∈ (ps.toList.map (·.2)).map a.eval,u.oneCell' = true) (hlen:((ps.toList.map (·.2)).map a.eval).length = xs.length):∃ e,(execOp a.eval oper).run P w = .ok (.value (.slice (some ⟨w.heap.size,0,none⟩) n n)) (w.alloc (.cells ((ps.toList.map (·.2)).map a.eval).toArray e)):=by
 obtain ⟨e,inf,ht,he,hs⟩:=tyS1_spec h1
 obtain ⟨g1,g2⟩:=litOk_spec (a:=a) h2
 obtain ⟨i',z,hi,hz⟩:=tyZ_spec hz ht
 rw [he] at hi; cases hi
 refine ⟨e,?_⟩
 have hz0:∀ w,(zeroValue e).run P w = .ok z w:=fun w => by simp [zeroValue,typeInfo,he,hz]
 have hmap:((ps.map fun x => match x with | (i,x) => (i,a.eval x))).toList = ps.toList.map fun p => (p.1,a.eval p.2):=by simp
 have hfill : ∀ cells : Array Value, cells.size = n → Instr.fill (fun i => some (i * 1, 1)) cells (ps.toList.map fun p => (p.1, a.eval p.2)) = some ((ps.toList.map (·.2)).map a.eval).toArray := fun cells hc => by
  rw [fill_full (fun i => some (i * 1,1)) ((ps.toList.map (·.2)).map a.eval) _ 0 cells (fun j _ _ => by simp) (by rw [hlen]; omega) (by rw [g2,hlen]) f2]
  congr 1
  apply Array.ext'
  simp only [List.take_zero,List.nil_append]
  rw [List.drop_eq_nil_of_le (by rw [hlen]; simp; omega)]
  simp
 simp only [execOp,ho,Instr.buildSlice,Sem.run_bind,run_underlying ht,Result.andThen_ok,sizeOf,typeInfo,run_program,he,Sem.run_pure,hs,Nat.mul_one]
 rw [if_neg (by omega)]
 by_cases h0 : n = 0
 ·rw [if_pos h0]
  rw [hmap]
  simp only [pure_bind]
  have:=hfill ((Array.range n).map ((#[]:Array Value)[· % (#[]:Array Value).size]!)) (by simp)
  simp only [Nat.mul_one] at this
  rw [this]
  simp [newRow]
 ·rw [if_neg h0]
  simp only [hz0,Sem.run_bind,Result.andThen_ok,Sem.run_pure]
  rw [hmap]
  have:=hfill ((Array.range n).map (z.cells[· % z.cells.size]!)) (by simp)
  simp only [Nat.mul_one] at this
  rw [this]
  simp [newRow]
end
end Go.Vc
namespace Go.Vc
open Go
section
variable {P:Program} {lo:Nat} {Xb:Nat → Prop} {par:Nat → Option Value} {ow:Ow} {a:Act} {w:World} {s:St} {κ:V → Prop}
theorem mapArr {α β:Type} (f:α → β) (xs:Array α):xs.map f = (xs.toList.map f).toArray:=by apply Array.ext'; simp
theorem caps_spec {w : World} : ∀ {ws : List W} {us : List Value} {cp : List Cap}, ws.length = us.length → (∀ (i : Nat) (x : W) (u : Value), ws[i]? = some x → us[i]? = some u → RepW lo par ow a.tmps w s x u) → caps ws = some cp →
  us.length = cp.length ∧ ∀ (i : Nat) (c : Cap) (x : Value), cp[i]? = some c → us[i]? = some x → match c with
   | .t g t => Fz (okG lo ow g) w t x
   | .p z => (match s.get (z % 1000) with | .bx _ => True | _ => False) → ∃ b,nmv a.tmps w (z % 1000) = some (.pointer (some ⟨b,0,none⟩)) ∧ x = .pointer (some ⟨b,z / 1000 - 1,none⟩)
 | [],[],cp,_,_,h => by simp [caps] at h; subst h; simp
 | x :: ws, u :: us, cp, hl, hr, h => by
  have tail:∀ {cp'},caps ws = some cp' → _:=fun {cp'} hc => caps_spec (ws:=ws) (us:=us) (cp:=cp') (by simpa using hl) (fun i x u hx hu => hr (i + 1) x u (by simpa using hx) (by simpa using hu)) hc
  cases x with
  | t g r =>
   simp only [caps,Option.map_eq_some_iff] at h
   obtain ⟨cp',h1,rfl⟩:=h
   obtain ⟨e1,e2⟩:=tail h1
   refine ⟨by simp [e1],fun i c x hc hx => ?_⟩
   cases i with
   | zero => simp at hc hx; subst hc; subst hx; exact hr 0 (.t g r) u (by simp) (by simp)
   | succ i => exact e2 i c x (by simpa using hc) (by simpa using hx)
  | pc z v ts =>
   simp only [caps] at h
   cases hz:(z / 1000 == 1) with
   | false => simp [hz] at h
   | true =>
    simp only [hz,cond_true,Option.map_eq_some_iff] at h
    obtain ⟨cp',h1,rfl⟩:=h
    obtain ⟨e1,e2⟩:=tail h1
    refine ⟨by simp [e1],fun i c x hc hx => ?_⟩
    cases i with
    | zero =>
     simp at hc hx; subst hc; subst hx
     obtain ⟨n,b,arr,ty,f0,f1,f2,f3,f4,f5,f6,f7,f8,f9,f10⟩:=hr 0 (.pc z v ts) u (by simp) (by simp)
     exact fun _ => ⟨b,f1,f7⟩
    | succ i => exact e2 i c x (by simpa using hc) (by simpa using hx)
  | _ => simp [caps] at h
 | [],_ :: _,_,hl,_,_ => by simp at hl
 | _ :: _,[],_,hl,_,_ => by simp at hl
theorem equalIn_nil (d : Nat) {t e : TypeId} {u : Value} {nl : Bool} (ht : P.underlying t = some (.slice e)) (hu : (u = .slice none 0 0 ∧ nl = true) ∨ (nl = false ∧ ∃ ad len cap, u = .slice (some ad) len cap)) :
  (Op.equalIn (d + 1) t u (.slice none 0 0)).run P w = .ok nl w:=by
 rcases hu with ⟨rfl,rfl⟩ | ⟨rfl,ad,len,cap,rfl⟩ <;> simp [Op.equalIn,run_underlying ht]
theorem nil_run {t e : TypeId} {u : Value} {nl : Bool} {A B : Operand} (ht : P.underlying t = some (.slice e)) (hu : (u = .slice none 0 0 ∧ nl = true) ∨ (nl = false ∧ ∃ ad len cap, u = .slice (some ad) len cap)) :
  (do eqGuard .eql t A B u (.slice none 0 0); binOp .eql t u (.slice none 0 0):Sem Value).run P w = .ok (.bool nl) w ∧
  (do eqGuard .neq t A B u (.slice none 0 0); binOp .neq t u (.slice none 0 0):Sem Value).run P w = .ok (.bool (!nl)) w:=by
 have h:(Op.equal t u (.slice none 0 0)).run P w = .ok nl w:=equalIn_nil 9999 ht hu
 rcases hu with ⟨rfl,rfl⟩ | ⟨rfl,ad,len,cap,rfl⟩ <;> simp [eqGuard,binOp,h]
theorem equalIn_bool (d:Nat) {t:TypeId} {x y:Bool} (ht:P.underlying t = some .bool):(Op.equalIn (d + 1) t (.bool x) (.bool y)).run P w = .ok (x == y) w:=by simp [Op.equalIn,run_underlying ht]
theorem bool_run {t : TypeId} {x y : Bool} {A B : Operand} (ht : P.underlying t = some .bool) :
  (do eqGuard .eql t A B (.bool x) (.bool y); binOp .eql t (.bool x) (.bool y):Sem Value).run P w = .ok (.bool (x == y)) w ∧
  (do eqGuard .neq t A B (.bool x) (.bool y); binOp .neq t (.bool x) (.bool y):Sem Value).run P w = .ok (.bool (x != y)) w:=by
 have h:(Op.equal t (.bool x) (.bool y)).run P w = .ok (x == y) w:=equalIn_bool 9999 ht
 constructor <;> simp [eqGuard,binOp,h,bne]
theorem callO_goes {oper : Oper} {f : FuncId} {z : Nat} {vs : List Value} {ts : List T} {R : St} (hG : Gam lo Xb par ow s a.tmps w) (hr : (execOp a.eval oper).run P w = (callFunc f vs.toArray).run P w)
  (hc:CallOk P f ts R) (hv:FzL (fun _ => True) w ts vs) (hk:foK z κ (R.get 0) (R.get 100000) (R.get 101000)):Goes P lo Xb par ow a w s κ oper:=by
 intro next Q K
 unfold Oper.wp
 rw [hr,hc.1]
 simp only [Oper.upon]
 refine (hc.2 w vs hv).mono ?_
 rintro e w' ⟨u,rfl,hg,hR,ow1,hR'⟩
 simp only
 have go : ∀ {k : Option T} {m : Nat} {nl : Option Bool} {cs : List T} {x : Value} {q : Nat}, κ (.fo z k nl cs) → scalL cs → foT k w' u x → Rep w.heap.size (fun _ => none) ow1 #[u] w' R q (.own m nl cs) x → next (a.put oper.dst u) w' := by
  intro k m nl cs x q hκ hsc hT hr1
  rcases hr1.2 with h | ⟨hn, b, cap, arr, ty, xs, e1, ho, hb, hs, hl, hmx, ht, hx, _⟩
  ·exact K (.fo z k nl cs) u w' hκ hg (hG.grow hg (fun _ _ => rfl) fun b p hb hp => absurd (hG.base b p hp).1 (by omega)) rfl fun d => ⟨hsc,x,hT,.inl h⟩
  ·have hbn:w.heap.size ≤ b:=(hR'.base b _ ho).2.resolve_right id
   refine K (ow' := fun b' => if b' = b then some (z, 1) else ow b') (.fo z k nl cs) u w' hκ hg (hG.grow hg (fun b' hb' => if_neg (by omega)) fun b' p hb' hp => ?_) rfl
    fun d => ⟨hsc,x,hT,.inr ⟨hn,b,arr,ty,xs,by rw [e1,hs],if_pos rfl,hb,by omega,by omega,ht,hx.scal hsc⟩⟩
   by_cases e : b' = b
   ·subst e; exact ⟨(Array.getElem?_eq_some_iff.1 hb).1,.inl (Nat.le_trans hG.low hb')⟩
   ·simp only [e,if_false] at hp; exact absurd (hG.base b' p hp).1 (by omega)
 cases hv0:R.get 0 with
 | own m nl cs =>
  rw [hv0,foK_o] at hk
  obtain ⟨hm,hsc,hκ⟩:=hk
  obtain ⟨x,e,hr1⟩:=hR'.ent 0 (lv_iff.2 (.inl (by omega))) (by rw [hv0]; rfl)
  have hx:u = x:=by rw [nmv_slot (by omega)] at e; simpa using e
  subst hx
  rw [hv0] at hr1
  exact go hκ hsc rfl hr1
 | tp n =>
  cases hv1:R.get 100000 with
  | own m nl cs =>
   cases hv2:R.get 101000 with
   | t g t =>
    rw [hv0,hv1,hv2,foK_tp] at hk
    obtain ⟨rfl,hm,hsc,hts,hκ⟩:=hk
    have hlv:∀ y,y % 1000 = 0 → R.lv y = true:=fun y hy => by rw [lv_iff]; right; rw [hy,hv0]; rfl
    obtain ⟨x,e,hr0⟩:=hR'.ent 0 (lv_iff.2 (.inl (by omega))) (by rw [hv0]; rfl)
    have hx:u = x:=by rw [nmv_slot (by omega)] at e; simpa using e
    subst hx
    rw [hv0] at hr0
    obtain ⟨_,xs,e1,e2⟩:=hr0
    have hnm : ∀ k, k < 2 → nmv #[u] w' (1000 * (100 + k)) = xs[k]? := fun k hk => by
     unfold nmv
     rw [if_neg (by omega),show (1000 * (100 + k)) % 1000 = 0 from by omega,show 1000 * (100 + k) / 1000 = 100 + k from by omega]
     simp [e1]
     omega
    obtain ⟨x0,q0,r0⟩:=hR'.ent 100000 (hlv _ (by omega)) (by rw [hv1]; rfl)
    by_cases hta : t = .any
    ·subst hta; exact hts.elim
    have hta':(V.t g t).isAny = false:=by cases t <;> first | exact absurd rfl hta | rfl
    obtain ⟨x1,q1,r1⟩:=hR'.ent 101000 (hlv _ (by omega)) (by rw [hv2]; exact hta')
    rw [show (100000:Nat) = 1000 * (100 + 0) from rfl,hnm 0 (by omega)] at q0
    rw [show (101000:Nat) = 1000 * (100 + 1) from rfl,hnm 1 (by omega)] at q1
    rw [hv1] at r0
    rw [hv2] at r1
    have hxs : xs = [x0, x1] := by
     match xs,e2,q0,q1 with
     | [p,q],_,h1,h2 => simp at h1 h2; rw [h1,h2]
    refine go hκ hsc (x:=x0) (.inl ⟨hts,x1,by rw [e1,hxs],Fz.scal hts r1⟩) r0
   | _ => rw [hv0,hv1,hv2] at hk; exact hk.elim
  | _ => rw [hv0,hv1] at hk; exact hk.elim
 | _ => rw [hv0] at hk; exact hk.elim
theorem mkO_goes {z : Nat} {t : T} {l c : X} {l' c' : Operand} {ty : TypeId} {oper : Oper} (hG : Gam lo Xb par ow s a.tmps w) (ho : oper.op = .makeSlice ty l' c') (h1 : xOk l l' = true) (h2 : xOk c c' = true)
  (hz:(match P.underlying ty with | some (.slice e) => zOk P e t | _ => false) = true) (hk:stepK P (.mkO z t) [s.look l,s.look c] κ):Goes P lo Xb par ow a w s κ oper:=by
 have r1:=xOk_sound hG h1
 have r2:=xOk_sound hG h2
 generalize s.look l = wl at r1 hk
 generalize s.look c = wc at r2 hk
 cases wl with
 | t g r =>
  cases r with
  | i n =>
   cases wc with
   | t g' r' =>
    cases r' with
    | i k =>
     rw [stepK_mkO] at hk
     obtain ⟨k1,k2,k3,kt,k4⟩:=hk
     obtain ⟨e1,_⟩:=repI r1
     obtain ⟨e2,_⟩:=repI r2
     split at hz
     ·rename_i e he
      obtain ⟨i,zv,hi,hs1,hby,hzv,hone,hkk⟩:=zOk_spec hz
      have hcells:=oneCell_cells hone
      have hb : (i.bytes : Int) * k ≤ 281474976710656 := by
       have:(i.bytes:Int) ≤ 64:=by omega
       calc (i.bytes : Int) * k ≤ 64 * k := Int.mul_le_mul_of_nonneg_right this (by omega)
        _ ≤ 281474976710656:=by omega
      have hr:=run_make (P:=P) w ty e i zv he hi hzv .i64 .i64 n k k1 k2 hb (by omega)
      rw [hcells,hs1,Nat.mul_one] at hr
      intro next Q K
      unfold Oper.wp
      have hx:(execOp a.eval oper).run P w = .ok (.value (.slice (some ⟨w.heap.size,0,none⟩) n.toNat k.toNat)) (w.alloc (.cells (madeCells #[zv] k.toNat) e)):=by simp [execOp,ho,e1,e2,hr]
      rw [hx]
      refine K (ow' := fun b' => if b' = w.heap.size then some (z, 1) else ow b') (.fo z none (some false) (List.replicate n.toNat t)) _ _ k4 (Grow.alloc _ w _) (hG.grow (Grow.alloc _ w _) (fun b' hb' => if_neg (by omega)) fun b' p hb' hp => ?_) rfl
       fun d => ⟨fun x hx => by rw [(List.mem_replicate.1 hx).2]; exact kt,_,rfl,.inr ⟨by simp,w.heap.size,madeCells #[zv] k.toNat,e,List.replicate n.toNat zv,by simp [size_madeCells],if_pos rfl,heap_alloc_new w _,by simp [size_madeCells]; omega,by rw [size_madeCells]; simp only [maxLen]; omega,by rw [toList_madeCells_one]; simp; omega,FzL.replicate (kOk1_sound hkk) _⟩⟩
      by_cases e : b' = w.heap.size
      ·subst e; exact ⟨by simp,.inl hG.low⟩
      ·simp only [e,if_false] at hp; exact absurd (hG.base b' p hp).1 (by omega)
     ·cases hz
    | _ => simp [stepK] at hk
   | _ => simp [stepK] at hk
  | _ => simp [stepK] at hk
 | _ => simp [stepK] at hk
theorem mkF_goes {t : T} {l c : X} {l' c' : Operand} {ty : TypeId} {oper : Oper} (hG : Gam lo Xb par ow s a.tmps w) (ho : oper.op = .makeSlice ty l' c') (h1 : xOk l l' = true) (h2 : xOk c c' = true)
  (hz:(match P.underlying ty with | some (.slice e) => zOk P e t | _ => false) = true) (hk:stepK P (.mkF t) [s.look l,s.look c] κ):Goes P lo Xb par ow a w s κ oper:=by
 have r1:=xOk_sound hG h1
 have r2:=xOk_sound hG h2
 generalize s.look l = wl at r1 hk
 generalize s.look c = wc at r2 hk
 cases wl with
 | t g r =>
  cases r with
  | i n =>
   cases wc with
   | t g' r' =>
    cases r' with
    | i k =>
     rw [stepK_mkF] at hk
     obtain ⟨k1,rfl,k3,kt,k4⟩:=hk
     obtain ⟨e1,_⟩:=repI r1
     obtain ⟨e2,_⟩:=repI r2
     split at hz
     ·rename_i e he
      obtain ⟨i,zv,hi,hs1,hby,hzv,hone,hkk⟩:=zOk_spec hz
      have hcells:=oneCell_cells hone
      have hb : (i.bytes : Int) * n ≤ 281474976710656 := by
       have:(i.bytes:Int) ≤ 64:=by omega
       calc (i.bytes : Int) * n ≤ 64 * n := Int.mul_le_mul_of_nonneg_right this (by omega)
        _ ≤ 281474976710656:=by omega
      have hr:=run_make (P:=P) w ty e i zv he hi hzv .i64 .i64 n n k1 (Int.le_refl _) hb (by omega)
      rw [hcells,hs1,Nat.mul_one] at hr
      have hx:(execOp a.eval oper).run P w = .ok (.value (.slice (some ⟨w.heap.size,0,none⟩) n.toNat n.toNat)) (w.alloc (.cells (madeCells #[zv] n.toNat) e)):=by simp [execOp,ho,e1,e2,hr]
      refine goes_alloc hG hx k4 ⟨rfl,fun _ => ?_⟩
      simp only [Rep,Fz]
      right
      refine ⟨by simp,w.heap.size,0,none,n.toNat,List.replicate n.toNat zv,by simp,by simp,by simp [maxLen]; omega,fun _ => ⟨okG_new hG (.inl rfl),rfl⟩,FzL.replicate (kOk1_sound hkk) _,fun k y hk => ?_⟩
      rw [cell_of_row (w.alloc _) w.heap.size (0 + k) _ e (0,0) (heap_alloc_new w _)]
      rw [← toList_madeCells_one] at hk
      simpa using hk
     ·cases hz
    | _ => simp [stepK] at hk
   | _ => simp [stepK] at hk
  | _ => simp [stepK] at hk
 | _ => simp [stepK] at hk
theorem tyA_spec {t : TypeId} (h : tyA P t = true) : ∃ e i zv, P.underlying t = some (.slice e) ∧ P.info? e = some i ∧ i.size = 1 ∧ i.bytes ≤ 64 ∧ i.zero = some zv ∧ zv.cells.size = 1 := by
 unfold tyA at h; split at h
 ·rename_i e he
  split at h
  ·rename_i i hi
   simp only [Bool.and_eq_true,beq_iff_eq,decide_eq_true_eq] at h
   obtain ⟨⟨h1,h2⟩,h3⟩:=h
   split at h3
   ·rename_i zv hz; exact ⟨e,i,zv,he,hi,h1,h2,hz,by rw [oneCell_cells h3]; rfl⟩
   ·cases h3
  ·cases h
 ·cases h
theorem app_news {ok : Nat → Prop} {nx : Option Bool} {xs : List T} {xv : Value} (h : Fz ok w (.s nx xs) xv) :
  ∃ news,FzL ok w xs news ∧ ((xv = .slice none 0 0 ∧ news = []) ∨ ∃ ad c,xv = .slice (some ad) news.length c ∧ ∀ j v,news[j]? = some v → w.cell? (ad.add j) = some v):=by
 simp only [Fz] at h
 rcases h with ⟨h, rfl, _⟩ | ⟨_, b, o, sp, cap, vs, h, _, _, hb, hx, hc⟩
 ·exact ⟨[],by simp [FzL],.inl ⟨h,rfl⟩⟩
 ·refine ⟨vs,hx,.inr ⟨⟨b,o,sp⟩,cap,by rw [hx.length]; exact h,fun j v hj => ?_⟩⟩
  have hne:xs ≠ []:=fun e => by rw [e] at hx; simp only [FzL] at hx; rw [hx] at hj; simp at hj
  obtain rfl:=(hb hne).2
  have : (⟨b, o, none⟩ : Addr).add j = ⟨b, o + j, none⟩ := by
   unfold Addr.add; split
   ·rename_i h; rw [h]; rfl
   ·rfl
  rw [this]; exact hc j v hj
theorem run_app0 {t e : TypeId} {ty0 : TypeId} {i : TypeInfo} {z : Value} (ht : P.underlying t = some (.slice e)) (hi : P.info? e = some i) (hz : i.zero = some z) (hs : i.size = 1) (hby : i.bytes ≤ 64) (hzs : z.cells.size = 1)
  {ad0:Addr} {xv:Value} {news:List Value} (hx:∃ ad c,xv = .slice (some ad) news.length c ∧ ∀ j v,news[j]? = some v → w.cell? (ad.add j) = some v) (hne:news ≠ []) (hlen:news.length ≤ 1099511627776) :
  ∃ cap arr,(Builtin.append_ #[t,t] ty0 #[.slice (some ad0) 0 0,xv]).run P w = .ok (.slice (some ⟨w.heap.size,0,none⟩) news.length cap) (w.drew.alloc (.cells arr e)) ∧ arr.size = cap ∧ news.length ≤ cap ∧ cap ≤ maxLen ∧ arr.toList.take news.length = news:=by
 have hzc:∀ n,(Builtin.zeroCells z.cells n).size = n:=fun n => by rw [size_zeroCells,hzs]; omega
 obtain ⟨ad,c,rfl,hc⟩:=hx
 have hp:0 < news.length:=List.length_pos_iff.2 hne
 have fcx : ∀ w1 : World, w1.heap = w.heap → (Builtin.firstCells 1 news.length (.slice (some ad) news.length c)).run P w1 = .ok news.toArray w1 := by
  intro w1 hw1
  exact run_firstCells_some (P := P) w1 1 news.length ad news.length c news (by omega) fun j v hj => by
   rw [World.cell?_of_block (w:=w) (by rw [hw1])]; exact hc j v hj
 have lenx:(Builtin.lenOf (.slice (some ad) news.length c)).run P w = .ok news.length w:=by simp [Builtin.lenOf]
 have hge:=grownCap_ge w news.length 0 e
 have hle:=grownCap_le_maxLen w news.length 0 e (by simp only [maxLen]; omega)
 refine ⟨grownCap w news.length 0 e, news.toArray ++ Builtin.zeroCells z.cells (grownCap w news.length 0 e - news.length), ?_, ?_, hge, hle, ?_⟩
 ·have h63':¬ (9223372036854775807 < (news.length:Int)):=by omega
  have hn:¬ (news.length ≤ 0):=by omega
  have h48 : Builtin.nextslicecap news.length 0 * i.bytes ≤ 281474976710656 := growslice_fits (by omega) (by
   calc news.length * i.bytes ≤ 1099511627776 * 64 := Nat.mul_le_mul hlen hby
    _ ≤ 140737488355328:=by decide)
  have h48':¬ (281474976710656 < Builtin.nextslicecap news.length 0 * i.bytes):=by omega
  have f1:=fcx w.drew rfl
  have f2:(Builtin.firstCells 1 0 (.slice (some ad0) 0 0)).run P w.drew = .ok #[] w.drew:=run_firstCells_some (P:=P) w.drew 1 0 ad0 0 0 [] (by simp) (by simp)
  simp [Builtin.append_,run_underlying ht,sizeOf,typeInfo,zeroValue,hi,hz,hs,lenx,hne,hn,h63',h48',Question.forced,f1,f2,newRow,grownCap]
 ·simp only [Array.size_append,List.size_toArray,hzc]; omega
 ·simp only [Array.toList_append]
  exact List.take_left
theorem fo_new {z cap : Nat} {xs : List T} {vs : List Value} {arr : Array Value} {e : TypeId} {w1 : World} {k : Option T} {oper : Oper} (hG : Gam lo Xb par ow s a.tmps w) (hw1 : Grow (fun _ => False) w w1) (hs1 : w1.heap.size = w.heap.size)
  (hx:(execOp a.eval oper).run P w = .ok (.value (.slice (some ⟨w.heap.size,0,none⟩) xs.length cap)) (w1.alloc (.cells arr e))) (hsz:arr.size = cap) (hl:xs.length ≤ cap) (hm:cap ≤ maxLen) (ht:arr.toList.take xs.length = vs)
  (hsc:scalL xs) (hv:FzL (fun _ => False) (w1.alloc (.cells arr e)) xs vs) (hk:κ (.fo z k (some false) xs)) (hf:foT k (w1.alloc (.cells arr e)) (.slice (some ⟨w.heap.size,0,none⟩) xs.length cap) (.slice (some ⟨w.heap.size,0,none⟩) xs.length cap)):Goes P lo Xb par ow a w s κ oper:=by
 intro next Q K
 unfold Oper.wp
 rw [hx]
 have hgr:Grow (fun _ => False) w (w1.alloc (.cells arr e)):=hw1.trans (Grow.alloc _ w1 _)
 refine K (ow' := fun b' => if b' = w.heap.size then some (z, 1) else ow b') (.fo z k (some false) xs) _ _ hk hgr (hG.grow hgr (fun b' hb' => if_neg (by omega)) fun b' p hb' hp => ?_) rfl
  fun d => ⟨hsc,_,hf,.inr ⟨by simp,w.heap.size,arr,e,vs,by rw [hsz],if_pos rfl,by rw [← hs1]; exact heap_alloc_new w1 _,by omega,by rw [hsz]; exact hm,ht,hv⟩⟩
 by_cases e : b' = w.heap.size
 ·subst e; exact ⟨by simp [hs1],.inl hG.low⟩
 ·simp only [e,if_false] at hp; exact absurd (hG.base b' p hp).1 (by omega)
theorem appO_goes {z : Nat} {x e : X} {x' e' : Operand} {t : TypeId} {oper : Oper} (hG : Gam lo Xb par ow s a.tmps w) (ho : oper.op = .call { callee := .builtin .append, args := #[x', e'], argTypes := #[t, t] }) (hty : tyA P t = true) (h1 : xOk x x' = true) (h2 : xOk e e' = true)
  (hk:stepK P (.appO z) [s.look x,s.look e] κ):Goes P lo Xb par ow a w s κ oper:=by
 obtain ⟨el,i,zv,ht,hi,hs1,hby,hzv,hzs⟩:=tyA_spec hty
 have r1:=xOk_sound hG h1
 have r2:=xOk_sound hG h2
 generalize s.look x = wx at r1 hk
 generalize s.look e = we at r2 hk
 cases wx with
 | fo z0 k nl cs =>
  cases k with
  | none => exact (by simp [stepK] at hk:False).elim
  | some q =>
   cases q with
   | any =>
    cases cs with
    | cons _ _ => exact (by simp [stepK] at hk:False).elim
    | nil =>
     have core : ∀ {ok : Nat → Prop} {nx : Option Bool} {xs : List T}, Fz ok w (.s nx xs) (a.eval e') → (z0 = z ∨ xs ≠ []) → scalL xs → xs.length ≤ 1099511627776 → κ (.fo z none (some false) xs) → Goes P lo Xb par ow a w s κ oper := by
      intro ok nx xs r2 hne hsc hle hκ
      obtain ⟨_,u0,hfo,hrep⟩:=r1
      rcases hfo with ⟨h, _⟩ | ⟨_, hu0, ad, hu⟩ | ⟨_, h, _⟩
      ·exact h.elim
      rotate_left
      ·cases h
      obtain ⟨news,n1,n2⟩:=app_news r2
      have hnl:news.length = xs.length:=n1.length
      by_cases hxs : xs = []
      ·have hz:z0 = z:=hne.resolve_right fun h => h hxs
       subst hz
       subst hxs
       have hn0:news = []:=List.eq_nil_of_length_eq_zero hnl
       have lenx : (Builtin.lenOf (a.eval e')).run P w = .ok 0 w := by
        rcases n2 with ⟨h, _⟩ | ⟨ad, c, h, _⟩ <;> rw [h]
        ·simp [Builtin.lenOf]
        ·rw [hn0]; simp [Builtin.lenOf]
       have fcx : (Builtin.firstCells 1 0 (a.eval e')).run P w = .ok #[] w := by
        rcases n2 with ⟨h, _⟩ | ⟨ad, c, h, hc⟩ <;> rw [h]
        ·simp [Builtin.firstCells]
        ·rw [hn0]; exact run_firstCells_some (P:=P) w 1 0 ad 0 c [] (by simp) (by simp)
       refine goes_val hG (u := a.eval x') ?_ hκ ⟨rfl, fun d => ⟨hsc, a.eval x', rfl, ?_⟩⟩
       ·unfold execOp
        simp only [ho,resolve,invoke,builtin,Sem.run_bind,Sem.run_pure,Result.andThen_ok,List.map_toArray,List.map_cons,List.map_nil,hu]
        have hst:(storeCells (ad.add 0) []).run P w = .ok () w:=by simp [storeCells]
        simp [Builtin.append_,run_underlying ht,sizeOf,typeInfo,hi,hs1,lenx,fcx,hst]
       ·rw [← hu0] at hrep
        rcases hrep with ⟨h, _⟩ | ⟨_, h⟩
        ·rw [hu] at h; cases h
        ·exact .inr ⟨by simp,h⟩
      have hne:xs ≠ []:=hxs
      have hnn:news ≠ []:=fun e => by rw [e] at hnl; exact hne (List.eq_nil_of_length_eq_zero hnl.symm)
      obtain ⟨cap,arr,hr,q1,q2,q3,q4⟩:=run_app0 (P:=P) (w:=w) (ty0:=oper.type) ht hi hzv hs1 hby hzs (ad0:=ad) (n2.resolve_left fun h => hnn h.2) hnn (by omega)
      refine fo_new (w1:=w.drew) (xs:=xs) (cap:=cap) (arr:=arr) (e:=el) (vs:=news) (k:=none) hG (Grow.drew _ w) rfl ?_ q1 (by omega) q3 (by rw [← hnl]; exact q4) hsc (n1.scal hsc) hκ rfl
      unfold execOp
      simp only [ho,resolve,invoke,builtin,Sem.run_bind,Sem.run_pure,Result.andThen_ok,List.map_toArray,List.map_cons,List.map_nil,hu,hr,hnl]
     cases we with
     | t g r =>
      cases r with
      | s nx xs =>
       rw [stepK_appO] at hk
       obtain ⟨hne,hsc,hle,hκ⟩:=hk
       exact core (show Fz _ w (.s nx xs) _ from r2) hne hsc hle hκ
      | _ => exact (by simp [stepK] at hk:False).elim
     | own y m nx xs =>
      rw [stepK_appOo] at hk
      obtain ⟨hne,hsc,hle,hκ⟩:=hk
      exact core (OwnAt.fz r2.2.2.2) hne hsc hle hκ
     | _ => exact (by simp [stepK] at hk:False).elim
   | _ => exact (by simp [stepK] at hk:False).elim
 | _ => exact (by simp [stepK] at hk:False).elim
theorem tyK_spec {P : Program} {k : IntKind} {t : TypeId} (h : tyK P k t = true) : P.underlying t = some (.int k) := by
 unfold tyK at h
 split at h
 ·rename_i e; rw [e]; simp only [beq_iff_eq] at h; rw [h]
 ·cases h
theorem tyW_spec {P : Program} {t : TypeId} (h : tyW P t = true) : ∃ k, P.underlying t = some (.int k) := by
 unfold tyW at h
 split at h
 ·rename_i e; exact ⟨_,e⟩
 ·cases h
theorem conv_run {t t' : TypeId} {k k' k2 : IntKind} {n : Int} (h1 : P.underlying t = some (.int k')) (h2 : P.underlying t' = some (.int k)) : (convert t t' (.int k2 n)).run P w = .ok (.int k (k.wrap n)) w := by
 simp [convert,underlying,h1,h2,Conv.intToInt]
theorem scal_w {lo:Nat} {par:Nat → Option Value} {ow:Ow} {tm:Array Value} {s:St} (k:IntKind) (n:Int):(V.t .fr (.w k n)).isName = false ∧ ∀ d,Rep lo par ow tm w s d (.t .fr (.w k n)) (.int k n):=⟨rfl,fun _ => by simp [Rep,Fz]⟩
theorem run_shw {t : TypeId} {X Y : Operand} {k : IntKind} {x m : Int} {n : Nat} (hm : m = n) (h : n < 64) :
  (do eqGuard .shr t X Y (.int .i64 x) (.int k m); binOp .shr t (.int .i64 x) (.int k m):Sem Value).run P w = .ok (.int .i64 (x / 2 ^ n)) w:=by
 subst hm
 have hm:min n IntKind.i64.bits = n:=by simp [IntKind.bits]; omega
 have h0:¬ (n:Int) < 0:=by omega
 have hp:(0:Int) ≤ 2 ^ n:=Int.pow_nonneg (by omega)
 simp [eqGuard,binOp,Op.shift,h0,hm,Int.fdiv_eq_ediv_of_nonneg _ hp]
theorem run_ubin {o : Bo} {b : BinOp} {t : TypeId} {X Y : Operand} {k : IntKind} {x y : Int} {κ : V → Prop} (ho : boOk o b = true) (hk : ubK o k x y κ) :
  ∃ r u, κ (.t .fr r) ∧ (match r with | .w k' n => u = .int k' n | .b c => u = .bool c | _ => False) ∧
   (do eqGuard b t X Y (.int k x) (.int k y); binOp b t (.int k x) (.int k y):Sem Value).run P w = .ok u w:=by
 cases o <;> cases b <;> (try (simp [boOk] at ho; done)) <;> (try (simp only [ubK] at hk; exact hk.elim)) <;> simp only [ubK] at hk
 case add.add => exact ⟨.w k (k.wrap (x + y)),_,hk,rfl,by simp [eqGuard,binOp,Op.intArith]⟩
 case sub.sub => exact ⟨.w k (k.wrap (x - y)),_,hk,rfl,by simp [eqGuard,binOp,Op.intArith]⟩
 case mul.mul => exact ⟨.w k (k.wrap (x * y)),_,hk,rfl,by simp [eqGuard,binOp,Op.intArith]⟩
 case and.and => exact ⟨.w k _,_,hk,rfl,by first | (simp only [eqGuard,binOp,Op.intBits,andK]; simp; done) | (simp only [eqGuard,binOp,Op.intBits,andK]; simp; rfl)⟩
 case shr.shr =>
  obtain ⟨h1,h2,h4⟩:=hk
  refine ⟨.w k (x.fdiv (2 ^ y.toNat)),_,h4,rfl,?_⟩
  have hm:min y.toNat k.bits = y.toNat:=by omega
  have h0:¬ y < 0:=by omega
  simp [eqGuard,binOp,Op.shift,h0,hm]
 case eql.eql => exact ⟨.b (decide (x = y)),_,hk,rfl,by first | (simp [eqGuard,binOp,Op.intCmp]; done) | (simp [eqGuard,binOp,Op.intCmp]; rfl)⟩
 case neq.neq =>
  refine ⟨.b (decide (x ≠ y)),_,hk,rfl,?_⟩
  by_cases h:x = y <;> simp [eqGuard,binOp,Op.intCmp,h]
 case lss.lss => exact ⟨.b (decide (x < y)),_,hk,rfl,by simp [eqGuard,binOp,Op.intCmp]⟩
 case leq.leq => exact ⟨.b (decide (x ≤ y)),_,hk,rfl,by simp [eqGuard,binOp,Op.intCmp]⟩
 case gtr.gtr => exact ⟨.b (decide (y < x)),_,hk,rfl,by simp [eqGuard,binOp,Op.intCmp]⟩
 case geq.geq => exact ⟨.b (decide (y ≤ x)),_,hk,rfl,by simp [eqGuard,binOp,Op.intCmp]⟩
theorem stepK_goes {o : O} {xs : List X} {oper : Oper} (hG : Gam lo Xb par ow s a.tmps w) (hc : chkV P o xs oper.op = true) (hk : stepK P o (xs.map s.look) κ) : Goes P lo Xb par ow a w s κ oper := by
 obtain ⟨dst,op,ty,pos,after,guard⟩:=oper
 simp only at hc
 unfold chkV at hc
 split at hc
 ·
  have hx:=xOk_sound hG hc
  exact goes_val hG (by simp [execOp]) hk hx.toV
 ·
  have hx:=xOk_sound hG hc
  exact goes_val hG (by simp [execOp]) hk hx.toV
 ·
  rename_i c x y c' x' y'
  simp only [Bool.and_eq_true] at hc
  have h1:=xOk_sound hG hc.1.1
  have h2:=xOk_sound hG hc.1.2
  have h3:=xOk_sound hG hc.2
  simp only [List.map_cons,List.map_nil] at hk
  generalize s.look c = wc at h1 hk
  cases wc with
  | t g r =>
   cases r with
   | b p =>
    have e:=repB h1
    simp only [stepK] at hk
    cases p with
    | true => exact goes_val hG (u:=a.eval x') (by simp [execOp,asBool,e]) hk h2.toV
    | false => exact goes_val hG (u:=a.eval y') (by simp [execOp,asBool,e]) hk h3.toV
   | _ => simp [stepK] at hk
  | _ => simp [stepK] at hk
 ·
  rename_i o x y b t x' y' t2
  simp only [Bool.and_eq_true] at hc
  have h2:=xOk_sound hG hc.1.2
  have h3:=xOk_sound hG hc.2
  simp only [List.map_cons,List.map_nil] at hk
  generalize s.look x = wx at h2 hk
  generalize s.look y = wy at h3 hk
  cases wx with
  | t g r =>
   cases r with
   | i n =>
    cases wy with
    | t g' r' =>
     cases r' with
     | i m =>
      obtain ⟨e1,i1⟩:=repI h2
      obtain ⟨e2,i2⟩:=repI h3
      simp only [stepK] at hk
      obtain ⟨r,u,k1,k2,k3⟩:=run_bin (P:=P) (w:=w) (t:=t) (X:=x') (Y:=y') hc.1.1 i1 i2 hk
      refine goes_val hG (u := u) ?_ k1 ?_
      ·simp only [execOp,e1,e2]
       rw [Sem.run_bind] at k3 ⊢
       simp only [Sem.run_bind,Sem.run_pure] at k3 ⊢
       rw [k3]; rfl
      ·cases r <;> simp only at k2
       ·obtain ⟨rfl,k2⟩:=k2; exact scal_i k2
       ·subst k2; exact scal_b
     | _ => simp [stepK] at hk
    | _ => simp [stepK] at hk
   | _ => simp [stepK] at hk
  | _ => simp [stepK] at hk
 ·
  rename_i x y t x' y' t2
  simp only [Bool.and_eq_true] at hc
  have h2:=xOk_sound hG hc.1.2
  have h3:=xOk_sound hG hc.2
  simp only [List.map_cons,List.map_nil] at hk
  generalize s.look x = wx at h2 hk
  generalize s.look y = wy at h3 hk
  cases wx with
  | t g r =>
   cases r with
   | b n =>
    cases wy with
    | t g' r' =>
     cases r' with
     | b m =>
      refine goes_val hG (u:=.bool (n == m)) ?_ hk scal_b
      have:=(bool_run (P:=P) (w:=w) (x:=n) (y:=m) (A:=x') (B:=y') (tyB_spec hc.1.1)).1
      simp only [execOp,repB h2,repB h3]
      rw [Sem.run_bind,this]; rfl
     | _ => simp [stepK] at hk
    | _ => simp [stepK] at hk
   | _ => simp [stepK] at hk
  | _ => simp [stepK] at hk
 ·
  rename_i x y t x' y' t2
  simp only [Bool.and_eq_true] at hc
  have h2:=xOk_sound hG hc.1.2
  have h3:=xOk_sound hG hc.2
  simp only [List.map_cons,List.map_nil] at hk
  generalize s.look x = wx at h2 hk
  generalize s.look y = wy at h3 hk
  cases wx with
  | t g r =>
   cases r with
   | b n =>
    cases wy with
    | t g' r' =>
     cases r' with
     | b m =>
      refine goes_val hG (u:=.bool (n != m)) ?_ hk scal_b
      have:=(bool_run (P:=P) (w:=w) (x:=n) (y:=m) (A:=x') (B:=y') (tyB_spec hc.1.1)).2
      simp only [execOp,repB h2,repB h3]
      rw [Sem.run_bind,this]; rfl
     | _ => simp [stepK] at hk
    | _ => simp [stepK] at hk
   | _ => simp [stepK] at hk
  | _ => simp [stepK] at hk
 ·
  rename_i x t x' t2
  simp only [Bool.and_eq_true] at hc
  obtain ⟨e,ht⟩:=tyS_spec hc.1
  have h2:=xOk_sound hG hc.2
  simp only [List.map_cons,List.map_nil] at hk
  have go : ∀ nl : Bool, ((a.eval x' = .slice none 0 0 ∧ nl = true) ∨ (nl = false ∧ ∃ ad len cap, a.eval x' = .slice (some ad) len cap)) → κ (.b nl) → Goes P lo Xb par ow a w s κ _ := fun nl h hκ =>
   goes_val hG (oper := { dst := dst, op := .binOp .eql t x' (.const (.slice none 0 0)) t2, type := ty, pos := pos, after := after, guard := guard }) (u := .bool nl) (by
    have:=(nil_run (P:=P) (w:=w) (A:=x') (B:=.const (.slice none 0 0)) ht h).1
    simp only [execOp,Act.eval]
    simp only [Act.eval] at this
    rw [Sem.run_bind,this]; rfl) hκ scal_b
  generalize s.look x = wx at h2 hk
  cases wx with
  | t g r =>
   cases r with
   | s nl cs =>
    cases nl with
    | none =>
     refine go false ?_ hk.2
     simp only [RepW,Fz] at h2
     rcases h2 with ⟨_, h, _⟩ | ⟨h', b, o', sp, cap, xs, h, _⟩
     ·exact absurd h hk.1
     ·exact .inr ⟨rfl,_,_,_,h⟩
    | some nl =>
     refine go nl ?_ hk
     simp only [RepW,Fz] at h2
     rcases h2 with ⟨h, _, h'⟩ | ⟨h', b, o', sp, cap, xs, h, _⟩
     ·exact .inl ⟨h,by cases nl <;> simp at h' ⊢⟩
     ·exact .inr ⟨by cases nl <;> simp at h' ⊢,_,_,_,h⟩
   | _ => simp [stepK] at hk
  | own y m nl cs =>
   cases nl with
   | none =>
    refine go false ?_ hk.2
    obtain ⟨_,_,_,_,h2⟩:=h2
    rcases h2 with ⟨_, h, _⟩ | ⟨h', b, cap, arr, ty', xs, h, _⟩
    ·exact absurd h hk.1
    ·exact .inr ⟨rfl,_,_,_,h⟩
   | some nl =>
    refine go nl ?_ hk
    obtain ⟨_,_,_,_,h2⟩:=h2
    rcases h2 with ⟨h, _, h'⟩ | ⟨h', b, cap, arr, ty', xs, h, _⟩
    ·exact .inl ⟨h,by cases nl <;> simp at h' ⊢⟩
    ·exact .inr ⟨by cases nl <;> simp at h' ⊢,_,_,_,h⟩
  | _ => simp [stepK] at hk
 ·
  rename_i x t x' t2
  simp only [Bool.and_eq_true] at hc
  obtain ⟨e,ht⟩:=tyS_spec hc.1
  have h2:=xOk_sound hG hc.2
  simp only [List.map_cons,List.map_nil] at hk
  have go : ∀ nl : Bool, ((a.eval x' = .slice none 0 0 ∧ nl = true) ∨ (nl = false ∧ ∃ ad len cap, a.eval x' = .slice (some ad) len cap)) → κ (.b (!nl)) → Goes P lo Xb par ow a w s κ _ := fun nl h hκ =>
   goes_val hG (oper := { dst := dst, op := .binOp .neq t x' (.const (.slice none 0 0)) t2, type := ty, pos := pos, after := after, guard := guard }) (u := .bool (!nl)) (by
    have:=(nil_run (P:=P) (w:=w) (A:=x') (B:=.const (.slice none 0 0)) ht h).2
    simp only [execOp,Act.eval]
    simp only [Act.eval] at this
    rw [Sem.run_bind,this]; rfl) hκ scal_b
  generalize s.look x = wx at h2 hk
  cases wx with
  | t g r =>
   cases r with
   | s nl cs =>
    cases nl with
    | none =>
     refine go false ?_ hk.2
     simp only [RepW,Fz] at h2
     rcases h2 with ⟨_, h, _⟩ | ⟨h', b, o', sp, cap, xs, h, _⟩
     ·exact absurd h hk.1
     ·exact .inr ⟨rfl,_,_,_,h⟩
    | some nl =>
     refine go nl ?_ hk
     simp only [RepW,Fz] at h2
     rcases h2 with ⟨h, _, h'⟩ | ⟨h', b, o', sp, cap, xs, h, _⟩
     ·exact .inl ⟨h,by cases nl <;> simp at h' ⊢⟩
     ·exact .inr ⟨by cases nl <;> simp at h' ⊢,_,_,_,h⟩
   | _ => simp [stepK] at hk
  | own y m nl cs =>
   cases nl with
   | none =>
    refine go false ?_ hk.2
    obtain ⟨_,_,_,_,h2⟩:=h2
    rcases h2 with ⟨_, h, _⟩ | ⟨h', b, cap, arr, ty', xs, h, _⟩
    ·exact absurd h hk.1
    ·exact .inr ⟨rfl,_,_,_,h⟩
   | some nl =>
    refine go nl ?_ hk
    obtain ⟨_,_,_,_,h2⟩:=h2
    rcases h2 with ⟨h, _, h'⟩ | ⟨h', b, cap, arr, ty', xs, h, _⟩
    ·exact .inl ⟨h,by cases nl <;> simp at h' ⊢⟩
    ·exact .inr ⟨by cases nl <;> simp at h' ⊢,_,_,_,h⟩
  | _ => simp [stepK] at hk
 ·
  rename_i x t x'
  have h2:=xOk_sound hG hc
  simp only [List.map_cons,List.map_nil] at hk
  generalize s.look x = wx at h2 hk
  cases wx with
  | t g r =>
   cases r with
   | b n => exact goes_val hG (u:=.bool (!n)) (by simp [execOp,Op.unary,repB h2]) hk scal_b
   | _ => simp [stepK] at hk
  | _ => simp [stepK] at hk
 ·
  rename_i x t x'
  have h2:=xOk_sound hG hc
  simp only [List.map_cons,List.map_nil] at hk
  generalize s.look x = wx at h2 hk
  cases wx with
  | t g r =>
   cases r with
   | i n =>
    simp only [stepK] at hk
    obtain ⟨e,_⟩:=repI h2
    exact goes_val hG (u:=.int .i64 (-n)) (by simp [execOp,Op.unary,e,Op.intArith,wrap_in hk.1]) hk.2 (scal_i hk.1)
   | _ => simp [stepK] at hk
  | _ => simp [stepK] at hk
 ·
  rename_i x ys ts
  split at hc
  ·rename_i y t e1 e2
   simp only [Bool.and_eq_true] at hc
   exact len_goes hG rfl e1 e2 hc.1 hc.2 hk
  ·cases hc
 ·
  simp only [Bool.and_eq_true] at hc
  exact idx_goes hG rfl hc.1.1 hc.1.2 hc.2 hk
 ·
  simp only [Bool.and_eq_true] at hc
  exact ld_goes hG rfl hc.1 hc.2 hk
 ·
  simp only [Bool.and_eq_true] at hc
  exact lde_goes hG rfl hc.1 hc.2 hk
 ·
  simp only [Bool.and_eq_true] at hc
  exact fa_goes hG rfl hc.1 hc.2 hk
 ·
  simp only [Bool.and_eq_true] at hc
  exact fld_goes hG rfl hc.1 hc.2 hk
 ·
  rename_i x l h t x' l' h'
  simp only [Bool.and_eq_true] at hc
  have hx:=xOk_sound hG hc.1.1.2
  have hl:=xOk_sound hG hc.1.2
  have hh:=xOk_sound hG hc.2
  simp only [List.map_cons,List.map_nil] at hk
  generalize s.look l = wl at hl hk
  generalize s.look h = wh at hh hk
  cases wl with
  | t g r =>
   cases r with
   | i n =>
    cases wh with
    | t g' r' =>
     cases r' with
     | i m =>
      exact sub_goes hG rfl hc.1.1.1 hx (.inl (by simp [(repI hl).1])) (.inl (by simp [(repI hh).1])) hk
     | _ => simp [stepK] at hk
    | _ => simp [stepK] at hk
   | _ => simp [stepK] at hk
  | _ => simp [stepK] at hk
 ·
  rename_i x l t x' l'
  simp only [Bool.and_eq_true] at hc
  have hx:=xOk_sound hG hc.1.2
  have hl:=xOk_sound hG hc.2
  simp only [List.map_cons,List.map_nil] at hk
  generalize s.look l = wl at hl hk
  cases wl with
  | t g r =>
   cases r with
   | i n => exact sub_goes hG rfl hc.1.1 hx (.inl (by simp [(repI hl).1])) (.inr ⟨rfl,rfl⟩) hk
   | _ => simp [stepK] at hk
  | _ => simp [stepK] at hk
 ·
  rename_i x h t x' h'
  simp only [Bool.and_eq_true] at hc
  have hx:=xOk_sound hG hc.1.2
  have hh:=xOk_sound hG hc.2
  simp only [List.map_cons,List.map_nil] at hk
  generalize s.look h = wh at hh hk
  cases wh with
  | t g r =>
   cases r with
   | i n => exact sub_goes hG rfl hc.1.1 hx (.inr ⟨rfl,rfl⟩) (.inl (by simp [(repI hh).1])) hk
   | _ => simp [stepK] at hk
  | _ => simp [stepK] at hk
 ·
  simp only [Bool.and_eq_true] at hc
  exact sub_goes hG rfl hc.1 (xOk_sound hG hc.2) (.inr ⟨rfl,rfl⟩) (.inr ⟨rfl,rfl⟩) hk
 ·
  rename_i x t x'
  have h2:=xOk_sound hG hc
  simp only [List.map_cons,List.map_nil] at hk
  generalize s.look x = wx at h2 hk
  cases wx with
  | t g r =>
   rw [stepK_boxF] at hk
   cases hp:parts [.t g r] with
   | none => simp [hp,optK] at hk
   | some p =>
    obtain ⟨g',ts⟩:=p
    rw [hp,optK_s] at hk
    obtain ⟨f1, f2, f3, f4, f5⟩ := parts_spec (us := [a.eval x']) rfl (fun i z u hz hu => by
     cases i with
     | zero => simp at hz hu; subst hz; subst hu; exact h2
     | succ i => simp at hz) hp
    have h1:=oneCell_cells (f2 (a.eval x') (by simp))
    refine goes_alloc hG (u := .pointer (some ⟨w.heap.size, 0, none⟩)) (o := .cells #[a.eval x'] t) ?_ hk ⟨rfl, fun _ => ?_⟩
    ·simp [execOp,Instr.box,newVar,newRow,h1]
    ·simp only [Rep,Fz]
     refine ⟨w.heap.size,0,[a.eval x'],rfl,fun _ => okG_new hG f3,f1.alloc _,fun k y hk => ?_⟩
     rw [cell_of_row (w.alloc _) w.heap.size (0 + k) #[a.eval x'] t (0,0) (heap_alloc_new w _)]
     simpa using hk
  | _ => simp [stepK] at hk
 ·
  simp only [Bool.and_eq_true] at hc
  exact bld_goes hG rfl hc.1 hc.2 hk
 ·
  rename_i t n ps
  simp only [Bool.and_eq_true,beq_iff_eq,decide_eq_true_eq] at hc
  obtain ⟨⟨⟨⟨c1,c2⟩,c3⟩,c4⟩,c5⟩:=hc
  obtain ⟨g1,g2⟩:=litOk_spec (a:=a) c4
  obtain ⟨l1,l2⟩:=xsOk_sound hG g1
  rw [stepK_litF] at hk
  cases hp:parts (xs.map s.look) with
  | none => simp [hp,optK] at hk
  | some p =>
   obtain ⟨g,ts⟩:=p
   rw [hp,optK_s] at hk
   obtain ⟨f1,f2,f3,f4,f5⟩:=parts_spec l1 l2 hp
   have hlen:((ps.toList.map (·.2)).map a.eval).length = xs.length:=by simpa using l1.symm
   have hlt:xs.length = ts.length:=by simpa using f4
   obtain ⟨e,hr⟩:=lit_run (P:=P) (w:=w) (oper:={ dst:=dst,op:=.buildSlice t n ps,type:=ty,pos:=pos,after:=after,guard:=guard }) rfl c1 c2 c3 c4 c5 f2 hlen
   refine goes_alloc hG hr hk ⟨rfl,fun _ => ?_⟩
   simp only [Rep,Fz]
   right
   refine ⟨by simp,w.heap.size,0,none,n,(ps.toList.map (·.2)).map a.eval,by rw [c2,hlt],by omega,by simp [maxLen]; omega,fun _ => ⟨okG_new hG f3,rfl⟩,f1.alloc _,fun k y hk => ?_⟩
   rw [cell_of_row (w.alloc _) w.heap.size (0 + k) _ e (0,0) (heap_alloc_new w _)]
   simpa using hk
 ·
  rename_i f g first cps
  simp only [Bool.and_eq_true,beq_iff_eq] at hc
  obtain ⟨⟨rfl,c1⟩,c2⟩:=hc
  obtain ⟨l1,l2⟩:=xsOk_sound hG c2
  rw [stepK_clo] at hk
  have hf:first = #[]:=Array.eq_empty_of_size_eq_zero c1
  cases hp:caps (xs.map s.look) with
  | none => simp [hp,optK] at hk
  | some cp =>
   rw [hp,optK_s] at hk
   obtain ⟨f1,f2⟩:=caps_spec l1 l2 hp
   refine goes_val hG (u := .func (.func f) #[] (cps.toList.map a.eval).toArray) ?_ hk ⟨rfl, fun _ => ?_⟩
   ·simp [execOp,Instr.makeFunc,hf,mapArr a.eval cps]
   ·exact ⟨_,rfl,f1,f2⟩
 ·
  rename_i f g first cps
  simp only [Bool.and_eq_true,beq_iff_eq] at hc
  obtain ⟨⟨rfl,c1⟩,c2⟩:=hc
  obtain ⟨l1,l2⟩:=xsOk_sound hG c2
  rw [stepK_cloF] at hk
  have hf:first = #[]:=Array.eq_empty_of_size_eq_zero c1
  cases hp:parts (xs.map s.look) with
  | none => simp [hp,optK] at hk
  | some p =>
   obtain ⟨g,ts⟩:=p
   rw [hp,optK_s] at hk
   obtain ⟨f1,_⟩:=parts_spec l1 l2 hp
   refine goes_val hG (u := .func (.func f) #[] (cps.toList.map a.eval).toArray) ?_ hk ⟨rfl, fun _ => ?_⟩
   ·simp [execOp,Instr.makeFunc,hf,mapArr a.eval cps]
   ·simp only [Rep,Fz]; exact ⟨_,rfl,f1⟩
 ·
  rename_i x x'
  have h2:=xOk_sound hG hc
  simp only [List.map_cons,List.map_nil,stepK] at hk
  obtain ⟨k1,k2⟩:=hk
  refine goes_val hG (u:=a.eval x') ?_ k2 h2.toV
  have : (∃ ad, a.eval x' = .pointer (some ad)) ∨ ∃ f xs, a.eval x' = .func (.func f) #[] xs := by
   generalize s.look x = wx at h2 k1
   cases wx with
   | t g r =>
    cases r <;> simp only [nilcOk] at k1 <;> (try (cases k1; done))
    ·simp only [RepW,Fz] at h2; obtain ⟨b,o,xs,e,_⟩:=h2; exact .inl ⟨_,e⟩
    ·simp only [RepW,Fz] at h2; obtain ⟨xs,e,_⟩:=h2; exact .inr ⟨_,_,e⟩
   | pc z v ts => obtain ⟨n,b,arr,ty,f0,f1,f2,f3,f4,f5,f6,f7,_⟩:=h2; exact .inl ⟨_,f7⟩
   | pe y j m nl cs => obtain ⟨_,_,b,len,cap,_,_,e⟩:=h2; exact .inl ⟨_,e⟩
   | clo f cp ts => obtain ⟨_,xs,e,_⟩:=h2; exact .inr ⟨_,_,e⟩
   | _ => simp [nilcOk] at k1
  rcases this with ⟨ad,e⟩ | ⟨f,xs,e⟩ <;> simp [execOp,e]
 ·
  rename_i ys ts
  obtain ⟨l1,l2⟩:=xsOk_sound hG hc
  rw [stepK_mn] at hk
  cases hp:minI (xs.map s.look) with
  | none => simp [hp,optK] at hk
  | some m =>
   rw [hp,optK_s] at hk
   obtain ⟨x,ns,e1,e2,e3⟩:=minI_spec l1 l2 hp
   have hm:inR m:=by rw [e2]; exact inR_foldl_min ns x e3
   refine goes_val hG (u:=.int .i64 m) ?_ hk (scal_i hm)
   have e1':(ys.map a.eval).toList = .int .i64 x :: ns.map (fun n => Value.int .i64 n):=by simpa using e1
   simp only [execOp,resolve,invoke,builtin,pure_bind,Builtin.min_,e1',foldl_min2,e2]
   rfl
 ·
  rename_i ys ts
  obtain ⟨l1,l2⟩:=xsOk_sound hG hc
  rw [stepK_mx] at hk
  cases hp:maxI (xs.map s.look) with
  | none => simp [hp,optK] at hk
  | some m =>
   rw [hp,optK_s] at hk
   obtain ⟨x,ns,e1,e2,e3⟩:=maxI_spec l1 l2 hp
   have hm:inR m:=by rw [e2]; exact inR_foldl_max ns x e3
   refine goes_val hG (u:=.int .i64 m) ?_ hk (scal_i hm)
   have e1':(ys.map a.eval).toList = .int .i64 x :: ns.map (fun n => Value.int .i64 n):=by simpa using e1
   simp only [execOp,resolve,invoke,builtin,pure_bind,Builtin.max_,e1',foldl_max2,e2]
   rfl
 ·
  rename_i f g ys ts
  simp only [Bool.and_eq_true,beq_iff_eq] at hc
  obtain ⟨rfl,c1⟩:=hc
  rw [stepK_call] at hk
  obtain ⟨R,h1,h2⟩:=hk
  refine goes_call hG ?_ h1 (xsOk_res hG c1) h2
  simp [execOp,resolve,Act.eval,Deferred.ofValue,invoke]
  rw [mapArr]
 ·
  rename_i x xs y ys ts
  simp only [Bool.and_eq_true] at hc
  have hx:=xOk_sound hG hc.1
  have hres:=xsOk_res hG hc.2
  simp only [List.map_cons] at hk
  have run : ∀ (f : FuncId) (cs : List Value), a.eval y = .func (.func f) #[] cs.toArray → (execOp a.eval { dst := dst, op := .call { callee := .value y, args := ys, argTypes := ts }, type := ty, pos := pos, after := after, guard := guard : Oper }).run P w = (callFunc f ((ys.toList.map a.eval) ++ cs).toArray).run P w := by
   intro f cs e
   simp [execOp,resolve,Deferred.ofValue,invoke,e]
   rw [mapArr]
   simp
  generalize s.look x = wx at hx hk
  cases wx with
  | t g r =>
   cases r with
   | c f ts' =>
    rw [stepK_callT] at hk
    obtain ⟨R,h1,h2⟩:=hk
    simp only [RepW,Fz] at hx
    obtain ⟨cs,e,hcs⟩:=hx
    exact goes_call hG (run f cs e) h1 (hres.app (hcs.mono fun _ _ => trivial)) h2
   | _ => simp [stepK] at hk
  | clo f cp ts' =>
   rw [stepK_callC] at hk
   obtain ⟨R,h1,h2⟩:=hk
   obtain ⟨_,cs,e,hcs⟩:=hx
   exact goes_call hG (run f cs e) h1 (hres.app hcs) h2
  | _ => simp [stepK] at hk
 ·
  rename_i k x x' k'
  simp only [Bool.and_eq_true,beq_iff_eq] at hc
  obtain ⟨rfl,c1⟩:=hc
  have h2:=xOk_sound hG c1
  simp only [List.map_cons,List.map_nil] at hk
  generalize s.look x = wx at h2 hk
  cases wx with
  | t g r =>
   cases r with
   | u vs =>
    simp only [stepK] at hk
    simp only [RepW,Fz] at h2
    obtain ⟨xs,e,hxs⟩:=h2
    obtain ⟨v,f1,f2⟩:=hxs.get k hk.1
    exact goes_val hG (u:=v) (by simp [execOp,Instr.extract,e,f1]) hk.2 (Fz.mk (fun _ h => h) f2)
   | _ => simp [stepK] at hk
  | fo z q nl cs =>
   cases q with
   | none => simp [stepK] at hk
   | some t =>
    rw [stepK_extF] at hk
    obtain ⟨hsc,u0,hfo,hr⟩:=h2
    have hts : t.scal := by
     match k,hk with
     | 0,hk => exact hk.1
     | 1,hk => exact hk.1
     | _ + 2,hk => exact hk.elim
    obtain ⟨_,u1,e,ht1⟩:=hfo.resolve_right (fun h => by rcases h with h | ⟨us,h⟩ <;> (rw [h.1] at hts; exact hts.elim))
    match k,hk with
    | 0,hk => exact goes_val hG (u:=u0) (by simp [execOp,Instr.extract,e]) hk.2 ⟨rfl,fun d => ⟨hsc,u0,rfl,hr⟩⟩
    | 1,hk => exact goes_val hG (u:=u1) (by simp [execOp,Instr.extract,e]) hk.2 ⟨by cases t <;> first | rfl | exact hts.elim,fun d => Fz.scal hts ht1⟩
    | _ + 2,hk => exact hk.elim
  | _ => simp [stepK] at hk
 ·
  rename_i x ys ts
  split at hc
  ·rename_i y t e1 e2
   simp only [Bool.and_eq_true] at hc
   exact cap_goes hG rfl e1 e2 hc.1 hc.2 hk
  ·cases hc
 ·
  rename_i x t x'
  have h2:=xOk_sound hG hc
  simp only [List.map_cons,List.map_nil] at hk
  generalize s.look x = wx at h2 hk
  cases wx with
  | t g r =>
   cases r with
   | a fs =>
    rw [stepK_boxS] at hk
    simp only [RepW,Fz] at h2
    obtain ⟨xs,e,hxs⟩:=h2
    refine goes_alloc hG (u := .pointer (some ⟨w.heap.size, 0, none⟩)) (o := .cells xs.toArray t) ?_ hk.2 ⟨rfl, fun _ => ?_⟩
    ·simp [execOp,Instr.box,newVar,newRow,e,Value.cells]
    ·simp only [Rep,Fz]
     refine ⟨w.heap.size,0,xs,rfl,fun _ => okG_new hG (by cases g <;> simp [G.bas] at hk ⊢),hxs.alloc _,fun k y hk => ?_⟩
     rw [cell_of_row (w.alloc _) w.heap.size (0 + k) xs.toArray t (0,0) (heap_alloc_new w _)]
     simpa using hk
   | _ => simp [stepK] at hk
  | _ => simp [stepK] at hk
 ·
  simp only [Bool.and_eq_true] at hc
  exact lds_goes hG rfl hc.1 hc.2 hk
 ·
  rename_i x l t x' l'
  simp only [Bool.and_eq_true] at hc
  exact subp_goes hG rfl hc.1.1 hc.1.2 hc.2 hk
 ·
  simp only [Bool.and_eq_true,beq_iff_eq] at hc
  obtain ⟨rfl,hc⟩:=hc
  rw [stepK_callO] at hk
  obtain ⟨R,h1,h2⟩:=hk
  refine callO_goes hG ?_ h1 (xsOk_res hG hc) h2
  simp [execOp,resolve,Act.eval,Deferred.ofValue,invoke]
  rw [mapArr]
 ·
  simp only [Bool.and_eq_true] at hc
  exact mkO_goes hG rfl hc.1.1 hc.1.2 hc.2 hk
 ·
  rename_i z e t n ps
  simp only [Bool.and_eq_true,beq_iff_eq] at hc
  obtain ⟨⟨⟨c1,rfl⟩,c3⟩,c4⟩:=hc
  have hps:ps = #[]:=Array.eq_empty_of_size_eq_zero c3
  subst hps
  obtain ⟨e',hr⟩:=lit_run (P:=P) (w:=w) (a:=a) (xs:=[]) (oper:={ dst:=dst,op:=.buildSlice t 0 #[],type:=ty,pos:=pos,after:=after,guard:=guard }) rfl c1 rfl (by omega) rfl c4 (by simp) rfl
  simp only [List.map_nil] at hk
  rw [stepK_litO] at hk
  refine fo_new (w1:=w) (xs:=[]) (cap:=0) (arr:=#[]) (e:=e') (vs:=[]) hG (Grow.refl _ _) rfl (by simpa using hr) rfl (by simp) (by simp [maxLen]) (by simp) (fun _ h => by cases h) (by simp [FzL]) hk ?_
  cases e
  ·rfl
  ·exact .inr (.inl ⟨rfl,rfl,_,rfl⟩)
 ·
  rename_i z n e
  split at hc
  case h_2 => cases hc
  rename_i i hi
  split at hc
  case h_2 => cases hc
  rename_i zv hz
  simp only [beq_iff_eq,Bool.and_eq_true,decide_eq_true_eq] at hc
  obtain ⟨hc,hc90⟩:=hc
  simp only [List.map_nil] at hk
  rw [stepK_newO] at hk
  intro next Q K
  unfold Oper.wp
  have hx : (execOp a.eval { dst := dst, op := Op.alloc e, type := ty, pos := pos, after := after, guard := guard }).run P w = .ok (.value (.pointer (some ⟨w.heap.size, 0, none⟩))) (w.alloc (.cells zv.cells e)) := by
   simp [execOp,Instr.alloc,zeroValue,typeInfo,hi,hz,newVar,newRow]
  rw [hx]
  have hgr:Grow (fun _ => False) w (w.alloc (.cells zv.cells e)):=Grow.alloc _ w _
  refine K (ow' := fun b' => if b' = w.heap.size then some (z, 1) else ow b') (.fo z (some (.u (List.replicate n .any))) none []) _ _ hk hgr (hG.grow hgr (fun b' hb' => if_neg (by omega)) fun b' p hb' hp => ?_) rfl
   fun d => ⟨fun _ h => (by cases h),.slice (some ⟨w.heap.size,0,none⟩) 0 (n + 1),.inr (.inr ⟨_,rfl,_,rfl,by simp⟩),.inr ⟨by simp,w.heap.size,zv.cells,e,[],by rw [hc]; rfl,if_pos rfl,heap_alloc_new w _,by simp,by rw [hc]; simp [maxLen]; omega,by simp,by simp [FzL]⟩⟩
  by_cases e' : b' = w.heap.size
  ·subst e'; exact ⟨by simp,.inl hG.low⟩
  ·simp only [e',if_false] at hp; exact absurd (hG.base b' p hp).1 (by omega)
 ·
  rename_i z x e ys ts
  split at hc
  ·rename_i x' e' t t' e1 e2
   simp only [Bool.and_eq_true,beq_iff_eq] at hc
   obtain ⟨⟨⟨rfl,c1⟩,c2⟩,c3⟩:=hc
   have hys:ys = #[x',e']:=by apply Array.ext'; simpa using e1
   have hts:ts = #[t,t]:=by apply Array.ext'; simpa using e2
   subst hys; subst hts
   exact appO_goes hG rfl c1 c2 c3 hk
  ·cases hc
 ·
  rename_i k x t t' x'
  simp only [Bool.and_eq_true] at hc
  have h2:=xOk_sound hG hc.2
  simp only [List.map_cons,List.map_nil] at hk
  generalize s.look x = wx at h2 hk
  cases wx with
  | t g r =>
   cases r with
   | i n =>
    rw [stepK_cvw] at hk
    obtain ⟨e1,i1⟩:=repI h2
    have q1:=tyI_spec hc.1.1
    have q2:=tyK_spec hc.1.2
    refine goes_val hG (u:=.int k (k.wrap n)) ?_ hk (scal_w _ _)
    simp only [execOp,e1]
    rw [Sem.run_bind,conv_run q1 q2]; rfl
   | _ => simp [stepK] at hk
  | _ => simp [stepK] at hk
 ·
  rename_i x t t' x'
  simp only [Bool.and_eq_true] at hc
  have h2:=xOk_sound hG hc.2
  simp only [List.map_cons,List.map_nil] at hk
  generalize s.look x = wx at h2 hk
  cases wx with
  | t g r =>
   cases r with
   | w k n =>
    rw [stepK_cvi] at hk
    have e1:a.eval x' = .int k n:=by simpa [RepW,Fz] using h2
    obtain ⟨k',q1⟩:=tyW_spec hc.1.1
    have q2:=tyI_spec hc.1.2
    refine goes_val hG (u:=.int .i64 n) ?_ hk.2 (scal_i hk.1)
    simp only [execOp,e1]
    rw [Sem.run_bind,conv_run q1 q2,wrap_in hk.1]; rfl
   | _ => simp [stepK] at hk
  | _ => simp [stepK] at hk
 ·
  rename_i o x y b t x' y' t2
  simp only [Bool.and_eq_true] at hc
  have h2:=xOk_sound hG hc.1.2
  have h3:=xOk_sound hG hc.2
  simp only [List.map_cons,List.map_nil] at hk
  generalize s.look x = wx at h2 hk
  generalize s.look y = wy at h3 hk
  cases wx with
  | t g r =>
   cases r with
   | w k n =>
    cases wy with
    | t g' r' =>
     cases r' with
     | w k2 m =>
      rw [stepK_ub] at hk
      obtain ⟨rfl,hk⟩:=hk
      have e1:a.eval x' = .int k n:=by simpa [RepW,Fz] using h2
      have e2:a.eval y' = .int k m:=by simpa [RepW,Fz] using h3
      obtain ⟨r,u,k1,k2,k3⟩:=run_ubin (P:=P) (w:=w) (t:=t) (X:=x') (Y:=y') hc.1.1 hk
      refine goes_val hG (u := u) ?_ k1 ?_
      ·simp only [execOp,e1,e2]
       rw [Sem.run_bind] at k3 ⊢
       simp only [Sem.run_bind,Sem.run_pure] at k3 ⊢
       rw [k3]; rfl
      ·cases r <;> simp only at k2
       ·subst k2; exact scal_b
       ·subst k2; exact scal_w _ _
     | _ => simp [stepK] at hk
    | _ => simp [stepK] at hk
   | _ => simp [stepK] at hk
  | _ => simp [stepK] at hk
 ·
  rename_i n x t x' k m t2
  simp only [Bool.and_eq_true,beq_iff_eq] at hc
  have h2:=xOk_sound hG hc.1
  simp only [List.map_cons,List.map_nil] at hk
  generalize s.look x = wx at h2 hk
  cases wx with
  | t g r =>
   cases r with
   | i q =>
    rw [stepK_shw] at hk
    obtain ⟨e1,i1⟩:=repI h2
    have k3:=run_shw (P:=P) (w:=w) (t:=t) (X:=x') (Y:=.const (.int k m)) (k:=k) (x:=q) hc.2 hk.1
    refine goes_val hG (u:=.int .i64 (q / 2 ^ n)) ?_ hk.2 (scal_i (inR_shr _ i1))
    have e2:a.eval (.const (.int k m)) = .int k m:=rfl
    simp only [execOp,e1,e2]
    rw [Sem.run_bind] at k3 ⊢
    simp only [Sem.run_bind,Sem.run_pure] at k3 ⊢
    rw [k3]; rfl
   | _ => simp [stepK] at hk
  | _ => simp [stepK] at hk
 ·
  simp only [Bool.and_eq_true] at hc
  exact mkF_goes hG rfl hc.1.1 hc.1.2 hc.2 hk
 ·cases hc
end
end Go.Vc
namespace Go.Vc
open Go
def owNew (ow:Ow) (n d:Nat):Ow:=fun b => if b = n then some (d,0) else ow b
section
variable {P:Program} {lo:Nat} {Xb:Nat → Prop} {par:Nat → Option Value} {ow ow':Ow} {tm:Array Value} {a:Act} {w w':World} {s:St}
theorem get_top_ne {d y:Nat} {v:V} (h:y ≠ d):St.get ((d,v) :: s) y = s.get y:=by rw [get_if,if_neg (Ne.symm h)]
theorem get_top {d:Nat} {v:V}:St.get ((d,v) :: s) d = v:=by rw [get_if,if_pos rfl]
theorem isAny_any:V.isAny .any = true:=rfl
theorem Gam.createOwn {d m : Nat} {nl : Option Bool} {cs : List T} {u : Value} (h : Gam lo Xb par ow s tm w) (hd : d < 1000) (hsz : d < tm.size) (hg : Grow (fun _ => False) w w')
  (ho:∀ b,b < w.heap.size → ow' b = ow b) (hb:∀ b p,w.heap.size ≤ b → ow' b = some p → b < w'.heap.size ∧ (lo ≤ b ∨ Xb b)) (hO:OwnAt lo par ow' w' d m nl cs u) :
  Gam lo Xb par ow' ((d,.own m nl cs) :: s.kill d) (tm.setIfInBounds d u) w':=by
 refine Gam.next (ds := [d]) h (Keeps.create (E := [(d, .own m nl cs)]) hd hg ho (fun p hp => by simp at hp; subst hp; exact hangs_self d)) (fun b p hp => ?_) fun y hy hl hn => ?_
 ·by_cases hlt : b < w.heap.size
  ·obtain ⟨_,h2⟩:=h.base b p (by rw [← ho b hlt]; exact hp)
   exact ⟨Nat.lt_of_lt_of_le hlt hg.size,h2⟩
  ·exact hb b p (by omega) hp
 ·obtain ⟨x,hx,hh⟩:=hy
  simp at hx; subst hx
  by_cases hyd : y = x
  ·subst hyd
   refine ⟨u,by rw [nmv_slot hd]; simp [hsz],?_⟩
   rw [get_top]
   exact hO
  ·exfalso
   rw [get_top_ne hyd,get_kill,if_pos (.inl hh)] at hn
   cases hn
theorem veil_row {cs : List T} {xs : List Value} {i b : Nat} (h : ((veil cs xs)[i]?).bind rowBlk = some b) : (veil cs xs)[i]? = xs[i]? ∧ (cs.getD i .any).isAny = false := by
 rw [veil_get] at h ⊢
 by_cases hi : i < cs.length
 ·rw [if_pos hi] at h ⊢
  cases hx:xs[i]? with
  | none => rw [hx] at h; cases h
  | some v =>
   rw [hx] at h
   simp only [Option.map_some,Option.bind_some] at h ⊢
   cases ha:(cs.getD i .any).isAny with
   | true => rw [ha] at h; cases h
   | false => rw [cond_false]; exact ⟨rfl,rfl⟩
 ·rw [if_neg hi] at h; cases h
theorem veil_id : ∀ {cs : List T} {xs : List Value}, (∀ t ∈ cs, t.isAny = false) → xs.length = cs.length → veil cs xs = xs
 | [],[],_,_ => rfl
 | [],_ :: _,_,h => by simp at h
 | _ :: _,[],_,h => by simp at h
 | t :: ts, v :: vs, h, hl => by
  simp only [veil,h t (by simp),cond_false]
  rw [veil_id (fun t ht => h t (by simp [ht])) (by simpa using hl)]
theorem veil_take : ∀ (n : Nat) (cs : List T) (xs : List Value), veil (cs.take n) (xs.take n) = (veil cs xs).take n
 | 0,_,_ => by simp [veil]
 | n + 1,[],_ => by simp [veil]
 | n + 1,_ :: _,[] => by simp [veil]
 | n + 1,t :: ts,v :: vs => by simp only [List.take_succ_cons,veil]; rw [veil_take n ts vs]
theorem veil_length : ∀ {cs : List T} {xs : List Value}, xs.length = cs.length → (veil cs xs).length = xs.length
 | [],[],_ => rfl
 | [],_ :: _,h => by simp at h
 | _ :: _,[],_ => rfl
 | t :: ts,v :: vs,h => by simp only [veil,List.length_cons]; rw [veil_length (by simpa using h)]
theorem veil_app : ∀ {cs cs' : List T} {xs xs' : List Value}, xs.length = cs.length → veil (cs ++ cs') (xs ++ xs') = veil cs xs ++ veil cs' xs'
 | [],_,[],_,_ => rfl
 | [],_,_ :: _,_,h => by simp at h
 | _ :: _,_,[],_,h => by simp at h
 | t :: ts,_,v :: vs,_,h => by simp only [List.cons_append,veil]; rw [veil_app (by simpa using h)]
theorem veil_set {r : T} {v : Value} (hr : r.isAny = false) : ∀ {cs : List T} {xs : List Value} {j : Nat}, veil (cs.set j r) (xs.set j v) = (veil cs xs).set j v
 | [],_,_ => by simp [veil]
 | _ :: _,[],j => by cases j <;> simp [veil]
 | t :: ts,v' :: vs,0 => by simp [veil,hr]
 | t :: ts,v' :: vs,j + 1 => by simp only [List.set_cons_succ,veil]; rw [veil_set hr]
theorem DeepR.sub {y : Nat} {xs ys : List Value} (h : DeepR ow y w xs) (hs : ∀ i b : Nat, (ys[i]?).bind rowBlk = some b → ys[i]? = xs[i]?) : DeepR ow y w ys :=
 ⟨fun i j b h1 h2 => h.1 i j b (by rw [← hs i b h1]; exact h1) (by rw [← hs j b h2]; exact h2),fun i b h1 => by rw [hs i b h1]; exact h.2 i b (by rw [← hs i b h1]; exact h1)⟩
theorem DeepR.veil {y:Nat} {cs:List T} {xs:List Value} (h:DeepR ow y w xs):DeepR ow y w (veil cs xs):=h.sub fun _ _ hi => (veil_row hi).1
theorem DeepR.lift {y : Nat} {cs cs' : List T} {xs : List Value} (hc : ∀ i, (cs'.getD i .any).isAny = false → (cs.getD i .any).isAny = false) (h : DeepR ow y w (Vc.veil cs xs)) : DeepR ow y w (Vc.veil cs' xs) :=
 h.sub fun i b hi => by obtain ⟨h1,h2⟩:=veil_row hi; rw [h1,veil_live (hc i h2)]
theorem T.leL_getD : ∀ {cs cs' : List T}, T.leL cs cs' → ∀ k : Nat, T.le (cs.getD k .any) (cs'.getD k .any)
 | [],[],_,k => by simp [T.le]
 | [],_ :: _,h,_ => by simp [T.leL] at h
 | _ :: _,[],h,_ => by simp [T.leL] at h
 | t :: ts,t' :: ts',h,0 => by simp only [T.leL] at h; simpa using h.1
 | t :: ts,t' :: ts',h,k + 1 => by simp only [T.leL] at h; simpa using T.leL_getD h.2 k
theorem le_live {t t' : T} (h : T.le t t') (h' : t'.isAny = false) : t.isAny = false := by
 cases t' with
 | any => cases h'
 | _ => cases t <;> first | rfl | simp [T.le] at h
theorem DeepR.weak {y : Nat} {cs cs' : List T} {xs : List Value} (hc : T.leL cs cs') (h : DeepR ow y w (Vc.veil cs xs)) : DeepR ow y w (Vc.veil cs' xs) :=
 h.lift fun i hi => le_live (T.leL_getD hc i) hi
theorem scal_live {t:T} (h:t.scal):t.isAny = false:=by cases t <;> first | rfl | simp [T.scal] at h
theorem one_live {t:T} (h:t.one = true):t.isAny = false:=by cases t <;> first | rfl | simp [T.one] at h
theorem own_laid {d m : Nat} {cs : List T} {xs : List Value} {e cap : Nat} {arr : Array Value} (ho : ow' w.heap.size = some (d, 0)) (hm : m < 10) (harr : arr.size = cap) (hl : cs.length ≤ cap) (hc : cap ≤ maxLen) (ht : arr.toList.take cs.length = xs)
  (hx:FzL (okG lo ow' (tagM m d)) (w.alloc (.cells arr e)) cs xs) (hD:m % 10 = 1 → DeepR ow' d (w.alloc (.cells arr e)) xs) :
  OwnAt lo par ow' (w.alloc (.cells arr e)) d m (some false) cs (.slice (some ⟨w.heap.size,0,none⟩) cs.length cap) :=
 ⟨fun h => absurd h (by omega),.inr ⟨by simp,w.heap.size,cap,arr,e,xs,rfl,ho,heap_alloc_new w _,harr,hl,hc,ht,hx,fun h => (hD h).veil⟩⟩
theorem owNew_old {n d b:Nat} (h:b < n):owNew ow n d b = ow b:=by unfold owNew; rw [if_neg (by omega)]
theorem owNew_new {n d:Nat}:owNew ow n d n = some (d,0):=by simp [owNew]
theorem Gam.owNone (h : Gam lo Xb par ow s tm w) {b : Nat} (hb : w.heap.size ≤ b) : ow b = none := by
 cases e:ow b with
 | none => rfl
 | some p => exact absurd (h.base b p e).1 (by omega)
theorem Gam.hbNew (h : Gam lo Xb par ow s tm w) {d : Nat} (o : Obj) : ∀ b p, w.heap.size ≤ b → owNew ow w.heap.size d b = some p → b < (w.alloc o).heap.size ∧ (lo ≤ b ∨ Xb b) := by
 intro b p hb hp
 unfold owNew at hp
 split at hp
 ·rename_i e; subst e; exact ⟨by simp,.inl h.low⟩
 ·rw [h.owNone hb] at hp; cases hp
theorem scal_rowBlk {ok : Nat → Prop} {t : T} {v : Value} (ht : t.scal) (h : Fz ok w t v) : rowBlk v = none := by
 cases t <;> simp only [T.scal] at ht
 ·obtain ⟨rfl,_⟩:v = .int .i64 _ ∧ _:=by simpa [Fz] using h
  rfl
 ·rename_i x
  have:v = .bool x:=by simpa [Fz] using h
  subst this; rfl
theorem scal_deep {ok : Nat → Prop} {y : Nat} {cs : List T} {xs : List Value} (hs : scalL cs) (h : FzL ok w cs xs) : DeepR ow y w' xs := by
 have key : ∀ i b : Nat, (xs[i]?).bind rowBlk = some b → False := by
  intro i b hi
  cases hx:xs[i]? with
  | none => simp [hx] at hi
  | some x =>
   rw [hx] at hi
   have hlt:i < cs.length:=by rw [← h.length]; exact (List.getElem?_eq_some_iff.1 hx).1
   obtain ⟨x',e,hf⟩:=h.get i hlt
   rw [hx] at e; cases e
   have hsc : (cs.getD i .any).scal := by
    rw [List.getD,List.getElem?_eq_getElem hlt]; exact hs _ (List.getElem_mem hlt)
   rw [Option.bind_some,scal_rowBlk hsc hf] at hi; cases hi
 exact ⟨fun i j b h1 _ => (key i b h1).elim,fun i b h1 => (key i b h1).elim⟩
theorem nilrow_deep {y : Nat} {xs : List Value} (h : ∀ x ∈ xs, rowBlk x = none) : DeepR ow y w' xs := by
 have key : ∀ i b : Nat, (xs[i]?).bind rowBlk = some b → False := by
  intro i b hi
  cases hx:xs[i]? with
  | none => simp [hx] at hi
  | some x =>
   rw [hx,Option.bind_some,h x (List.mem_of_getElem? hx)] at hi; cases hi
 exact ⟨fun i j b h1 _ => (key i b h1).elim,fun i b h1 => (key i b h1).elim⟩
def V.k2 (x d:Nat) (v:V):V:=if v.on d = true ∨ v.on x = true then .any else v
theorem k2_any (x d:Nat):V.k2 x d .any = .any:=by simp [V.k2]
theorem get_moved {x d : Nat} {y : Nat} : ∀ {s : St}, (∀ k, hangs x k = true → x ≤ k) → (St.moved x d s).get (y + d) = if hangs x (y + x) = true then (s.get (y + x)).k2 x d else .any
 | [],_ => by simp only [St.moved,St.get,k2_any]; split <;> rfl
 | (k, v) :: s, hx => by
  rw [moved_cons,get_if]
  by_cases hk : hangs x k = true
  ·rw [hk,cond_true,get_if,get_moved hx]
   have:=hx k hk
   by_cases hky : k = y + x
   ·subst hky
    rw [if_pos (by omega),if_pos rfl,if_pos hk]
    unfold V.k2
    by_cases h1:v.on d = true <;> by_cases h2:v.on x = true <;> simp [h1,h2]
   ·rw [if_neg (by omega),if_neg hky]
  ·simp only [Bool.not_eq_true] at hk
   rw [hk,cond_false,get_moved hx]
   by_cases hky : k = y + x
   ·subst hky; rw [hk]; simp
   ·rw [if_neg hky]
theorem moved_keys {x d : Nat} : ∀ {s : St} {p : Nat × V}, p ∈ St.moved x d s → ∃ k, hangs x k = true ∧ p.1 = k - x + d
 | [],p,h => by simp [St.moved] at h
 | (k, v) :: s, p, h => by
  rw [moved_cons] at h
  by_cases hk : hangs x k = true
  ·rw [hk,cond_true] at h
   rcases List.mem_cons.1 h with rfl | h
   ·exact ⟨k,hk,rfl⟩
   ·exact moved_keys h
  ·simp only [Bool.not_eq_true] at hk
   rw [hk,cond_false] at h
   exact moved_keys h
theorem hangs_le {x k : Nat} (h : hangs x k = true) : x ≤ k := by
 rw [hangs_iff] at h
 rcases h with rfl | ⟨h1, h2⟩
 ·exact Nat.le_refl _
 ·omega
theorem get_append_no {E s:St} {y:Nat} (h:∀ p ∈ E,p.1 ≠ y):(E ++ s).get y = s.get y:=get_app h
theorem get_append_yes {E s : St} {y : Nat} (h : ∃ p ∈ E, p.1 = y) : (E ++ s).get y = E.get y := by
 induction E with
 | nil => simp at h
 | cons p E ih =>
  obtain ⟨k,v⟩:=p
  rw [List.cons_append,get_if,get_if]
  by_cases hk : k = y
  ·rw [if_pos hk,if_pos hk]
  ·rw [if_neg hk,if_neg hk]
   obtain ⟨q,hq,e⟩:=h
   rcases List.mem_cons.1 hq with rfl | hq
   ·exact absurd e hk
   ·exact ih ⟨q,hq,e⟩
theorem get_none {s : St} {y : Nat} (h : ∀ p ∈ s, p.1 ≠ y) : s.get y = .any := by
 have:=get_app (E:=s) (s:=[]) h
 simpa [St.get] using this
def owMove (ow : Ow) (x d : Nat) : Ow := fun b => match ow b with
 | some (y,r) => if hangs x y = true then some (y - x + d,r) else some (y,r)
 | none => none
theorem owMove_none {x d b : Nat} : owMove ow x d b = none ↔ ow b = none := by
 unfold owMove; split
 ·rename_i h; rw [h]; split <;> simp
 ·rename_i h; simp [h]
theorem owMove_x {x d b y r:Nat} (h:ow b = some (y,r)) (hy:hangs x y = true):owMove ow x d b = some (y - x + d,r):=by unfold owMove; rw [h]; simp [hy]
theorem owMove_self {x d b r:Nat} (h:ow b = some (x,r)):owMove ow x d b = some (d,r):=by rw [owMove_x h (hangs_self x)]; simp
theorem owMove_ne {x d b y r:Nat} (h:ow b = some (y,r)) (hy:hangs x y = false):owMove ow x d b = some (y,r):=by unfold owMove; rw [h]; simp [hy]
theorem owMove_some {x d b : Nat} {p : Nat × Nat} (h : owMove ow x d b = some p) : ∃ q, ow b = some q := by
 unfold owMove at h; split at h
 ·rename_i y r h'; exact ⟨_,h'⟩
 ·cases h
theorem tag_move {x d : Nat} {g : G} (hx : g.on x = false) (b : Nat) (h : okG lo ow g b) : okG lo (owMove ow x d) g b := by
 cases g with
 | arg => exact owMove_none.2 h
 | fr => exact ⟨owMove_none.2 h.1,h.2⟩
 | rw y => exact owMove_ne h hx
 | sp y =>
  rcases h with h | h | h
  ·exact .inl (owMove_ne h hx)
  ·exact .inr (.inl (owMove_ne h hx))
  ·exact .inr (.inr (owMove_none.2 h))
theorem OwnAt.ren {y z m : Nat} {nl : Option Bool} {cs : List T} {u : Value} (hm : m < 10) (h0 : ∀ b r, ow b = some (y, r) → ow' b = some (z, r)) (hn : ∀ b, ow b = none → ow' b = none) (h : OwnAt lo par ow w y m nl cs u) : OwnAt lo par ow' w z m nl cs u := by
 obtain ⟨_,h⟩:=h
 refine ⟨fun h => absurd h (by omega),?_⟩
 rcases h with h | ⟨hn', b, cap, arr, ty, xs, e, ho, hb, hs, hl, hmx, ht, hx, hd⟩
 ·exact .inl h
 ·refine .inr ⟨hn', b, cap, arr, ty, xs, e, h0 b 0 ho, hb, hs, hl, hmx, ht, hx.mono fun b' hb' => ?_, fun h1 => ?_⟩
  ·unfold tagM at hb' ⊢
   by_cases m1 : (m % 10 == 1) = true
   ·simp only [m1,cond_true] at hb' ⊢; exact h0 b' 1 hb'
   ·simp only [Bool.not_eq_true] at m1
    simp only [m1,cond_false] at hb' ⊢
    by_cases m0 : (m % 10 == 0) = true
    ·simp only [m0,cond_true] at hb' ⊢; exact ⟨hn b' hb'.1,hb'.2⟩
    ·simp only [Bool.not_eq_true] at m0
     simp only [m0,cond_false] at hb' ⊢; exact hn b' hb'
  ·obtain ⟨d1,d2⟩:=hd h1
   exact ⟨d1,fun i b' hi => ⟨h0 b' 1 (d2 i b' hi).1,(d2 i b' hi).2⟩⟩
theorem rt_cases {x d : Nat} {v : V} : (V.rt x d v).isAny = true ∨ (V.rt x d v = v ∧ v.on x = false) ∨ (∃ r, v = .t (.rw x) r ∧ V.rt x d v = .t (.rw d) r) := by
 cases v with
 | t g r =>
  cases g with
  | rw z =>
   by_cases hz : z = x
   ·subst hz; exact .inr (.inr ⟨r,rfl,by simp [V.rt]⟩)
   ·have hz':(z == x) = false:=by simpa using hz
    by_cases hh : hangs x z = true
    ·left; simp [V.rt,hz',hh,V.isAny]
    ·simp only [Bool.not_eq_true] at hh
     right; left; exact ⟨by simp [V.rt,hz',hh],by simp [V.on,G.on,hh]⟩
  | sp z =>
   by_cases hh : hangs x z = true
   ·left; simp [V.rt,V.on,G.on,hh,V.isAny]
   ·simp only [Bool.not_eq_true] at hh
    right; left; simp [V.rt,V.on,G.on,hh]
  | _ => right; left; simp [V.rt,V.on,G.on]
 | _ =>
  by_cases hh : V.on x (by first | exact V.own ‹_› ‹_› ‹_› | exact V.any) = true <;> first
   | (right; left; simp [V.rt,V.on]; done)
   | (simp only [V.rt,V.on]; first | (cases hangs x _ <;> simp [V.isAny]; done) | (cases List.any _ _ <;> simp [V.isAny]; done))
theorem hangs_shift {x d k : Nat} (hd : d < 1000) (hk : hangs x k = true) : hangs d (k - x + d) = true := by
 rw [hangs_iff] at hk ⊢
 rcases hk with rfl | ⟨h1, h2⟩
 ·left; omega
 ·right; exact ⟨hd,by omega⟩
theorem Keeps.move {x d : Nat} {u : Value} (hd : d < 1000) : Keeps lo [d, x] ow (owMove ow x d) tm (tm.setIfInBounds d u) w w s (s.mvN x d) := by
 have hh : ∀ y, ¬ Hg [d, x] y → hangs d y = false ∧ hangs x y = false := fun y hy => by
  constructor
  ·rw [← Bool.not_eq_true]; exact fun h => hy ⟨d,by simp,h⟩
  ·rw [← Bool.not_eq_true]; exact fun h => hy ⟨x,by simp,h⟩
 refine ⟨Nat.le_refl _, fun y hy => ?_, fun y hy _ u' hu => ?_, fun y hy b _ r hk => ⟨owMove_ne hk (hh y hy).2, rfl⟩, fun g hg b _ hk => ⟨tag_move (hg x (by simp)) b hk, rfl⟩⟩
 ·obtain ⟨h1,h2⟩:=hh y hy
  have e : (s.mvN x d).get y = ((s.kill d).rt x d).get y := get_app fun p hp he => by
   obtain ⟨k,hk,e⟩:=moved_keys hp
   rw [e] at he
   rw [← he,hangs_shift hd hk] at h1; cases h1
  rw [e,get_rt,h2]
  simp only [Bool.false_eq_true,if_false]
  rw [get_kill,h1]
  by_cases hon : (s.get y).on d = true
  ·left; rw [if_pos (.inr hon)]; rfl
  ·simp only [Bool.not_eq_true] at hon
   simp only [Bool.false_eq_true,hon,or_self,if_false]
   rcases rt_cases (x := x) (d := d) (v := s.get y) with h | ⟨h, h'⟩ | ⟨r, h, h'⟩
   ·exact .inl h
   ·exact .inr (.inl ⟨h,fun z hz => by simp at hz; rcases hz with rfl | rfl; exact hon; exact h'⟩)
   ·exact .inr (.inr ⟨x,d,r,h,h',fun b _ hb => ⟨owMove_self hb,trivial⟩⟩)
 ·rw [nmv_put (hh y hy).1 hd]; exact hu
theorem Gam.move {x d : Nat} {u : Value} (h : Gam lo Xb par ow s tm w) (hd : d < 1000) (hsz : d < tm.size) (hx : hangs d x = false) (hl : s.lv x = true) (hu : nmv tm w x = some u)
  (hV:match s.get x with | .own m _ _ => m < 10 | .bx _ => x < 1000 | .tp _ => x < 1000 | .ag _ => x < 1000 | _ => False)
  (hch:∀ y m nl cs,y ≠ x → hangs x y = true → s.lv y = true → s.get y = .own m nl cs → m < 10):Gam lo Xb par (owMove ow x d) (s.mvN x d) (tm.setIfInBounds d u) w:=by
 have K:Keeps lo [d,x] ow (owMove ow x d) tm (tm.setIfInBounds d u) w w s (s.mvN x d):=Keeps.move hd
 have hxg:(s.get x).isAny = false:=by cases hv:s.get x <;> simp [hv] at hV <;> rfl
 have hxon : (s.get x).k2 x d = s.get x := by
  cases hv:s.get x <;> simp [hv] at hV <;> simp [V.k2,V.on]
 have gS : ∀ y, hangs x (y + x) = true → (s.mvN x d).get (y + d) = (s.get (y + x)).k2 x d := by
  intro y hy
  have hm:=get_moved (s:=s) (x:=x) (d:=d) (y:=y) (fun k => hangs_le)
  rw [if_pos hy] at hm
  by_cases hex : ∃ p ∈ St.moved x d s, p.1 = y + d
  ·unfold St.mvN; rw [get_append_yes hex,hm]
  ·have hno:∀ p ∈ St.moved x d s,p.1 ≠ y + d:=fun p hp e => hex ⟨p,hp,e⟩
   have hany:=get_none hno
   rw [hm] at hany
   rw [hany]
   unfold St.mvN
   rw [get_append_no hno,get_rt,get_kill]
   have : hangs d (y + d) = true := by
    have:=hangs_shift hd hy
    rw [show y + x - x + d = y + d from by omega] at this; exact this
   rw [this]
   simp [V.rt,V.on,G.on]
 have gd : (s.mvN x d).get d = s.get x := by
  have:=gS 0 (by simpa using hangs_self x)
  simpa [hxon] using this
 refine Gam.next h K (fun b p hp => by obtain ⟨q,hq⟩:=owMove_some hp; exact h.base b q hq) fun y hy hly hn => ?_
 have hput:nmv (tm.setIfInBounds d u) w d = some u:=by rw [nmv_slot hd]; simp [hsz]
 by_cases hyd : hangs d y = true
 ·
  have hyle:=hangs_le hyd
  obtain ⟨c,rfl⟩:∃ c,y = c + d:=⟨y - d,by omega⟩
  by_cases hc : c = 0
  ·subst hc
   simp only [Nat.zero_add] at hn hly ⊢
   refine ⟨u,hput,?_⟩
   rw [gd]
   obtain ⟨u',e,hr⟩:=h.ent x hl hxg
   rw [hu] at e; cases e
   cases hv:s.get x with
   | own m nl cs =>
    rw [hv] at hr hV
    exact OwnAt.ren hV (fun b r hb => owMove_self hb) (fun b hb => owMove_none.2 hb) hr
   | bx k =>
    rw [hv] at hr
    obtain ⟨_,b,arr,ty,e1,e2,e3⟩:=hr
    exact ⟨hd,b,arr,ty,e1,owMove_self e2,e3⟩
   | tp k => rw [hv] at hr; exact ⟨hd,hr.2⟩
   | ag k => rw [hv] at hr; exact ⟨hd,hr.2⟩
   | _ => simp [hv] at hV
  ·
   have h1000 : 1000 ≤ c := by
    rw [hangs_iff] at hyd
    rcases hyd with hyd | ⟨_,hyd⟩ <;> omega
   have hcm : c % 1000 = 0 := by
    rw [hangs_iff] at hyd
    rcases hyd with hyd | ⟨_,hyd⟩ <;> omega
   have hlc : (s.get x).cont = true := by
    rw [lv_iff] at hly
    rcases hly with hly | hly
    ·omega
    ·rw [show (c + d) % 1000 = d from by omega,gd] at hly; exact hly
   have hx1:x < 1000:=by cases hv:s.get x <;> simp [hv,V.cont] at hlc hV <;> exact hV
   have hhx:hangs x (c + x) = true:=hangs_iff.2 (.inr ⟨hx1,by omega⟩)
   have gc:=gS c hhx
   have hlx:s.lv (c + x) = true:=lv_iff.2 (.inr (by rw [show (c + x) % 1000 = x from by omega]; exact hlc))
   have hna : (s.get (c + x)).isAny = false ∧ (s.get (c + x)).on d = false ∧ (s.get (c + x)).on x = false := by
    rw [gc] at hn
    unfold V.k2 at hn
    split at hn
    ·cases hn
    ·rename_i hq; simp only [not_or,Bool.not_eq_true] at hq; exact ⟨hn,hq.1,hq.2⟩
   have hk2:(s.get (c + x)).k2 x d = s.get (c + x):=by simp [V.k2,hna.2.1,hna.2.2]
   rw [gc,hk2]
   obtain ⟨u',e,hr⟩:=h.ent (c + x) hlx hna.1
   refine ⟨u', ?_, ?_⟩
   ·have htx:tm.getD x undef = u:=by rw [nmv_slot hx1] at hu; simpa using hu
    unfold nmv at e ⊢
    rw [if_neg (by omega)] at e ⊢
    rw [show (c + x) % 1000 = x from by omega,htx] at e
    rw [show (c + d) % 1000 = d from by omega]
    have htd:(tm.setIfInBounds d u).getD d undef = u:=by simp [hsz]
    rw [htd,show (c + d) / 1000 = (c + x) / 1000 from by omega]
    exact e
   ·by_cases hnm : (s.get (c + x)).isName = false
    ·exact Rep.y hnm (K.rep (y:=c + x) hnm (fun z hz => by simp at hz; rcases hz with rfl | rfl; exact hna.2.1; exact hna.2.2) hr)
    ·cases hv:s.get (c + x) with
     | own m nl cs =>
      rw [hv] at hr
      have hm:=hch (c + x) m nl cs (by omega) hhx hlx hv
      exact OwnAt.ren hm (fun b r hb => by rw [owMove_x hb hhx,show c + x - x + d = c + d from by omega]) (fun b hb => owMove_none.2 hb) hr
     | bx k => rw [hv] at hr; exact absurd hr.1 (by omega)
     | tp k => rw [hv] at hr; exact absurd hr.1 (by omega)
     | ag k => rw [hv] at hr; exact absurd hr.1 (by omega)
     | _ => simp [hv,V.isName] at hnm
 ·
  exfalso
  simp only [Bool.not_eq_true] at hyd
  obtain ⟨z,hz,hh⟩:=hy
  simp at hz
  rcases hz with rfl | rfl
  ·rw [hyd] at hh; cases hh
  ·have e : (s.mvN z d).get y = ((s.kill d).rt z d).get y := get_app fun p hp he => by
    obtain ⟨k,hk,e⟩:=moved_keys hp
    rw [e] at he
    rw [← he,hangs_shift hd hk] at hyd; cases hyd
   rw [e,get_rt,hh] at hn
   cases hn
end
end Go.Vc
namespace Go.Vc
open Go
section
variable {P:Program} {lo:Nat} {Xb:Nat → Prop} {par:Nat → Option Value} {ow ow':Ow} {tm:Array Value} {a:Act} {w w':World} {s s':St}
theorem Gam.nmKeep (h : Gam lo Xb par ow s tm w) {z : Nat} {u : Value} (hl : s.lv z = true) (hb : ∀ b, b < w.heap.size → ow b = some (z % 1000, 0) → 1000 ≤ z → w'.heap[b]? = w.heap[b]?) (hu : nmv tm w z = some u) : nmv tm w' z = some u := by
 refine nmv_heap (fun b hlt hp h1000 => ?_) hu
 refine hb b hlt ?_ h1000
 rw [lv_iff] at hl
 have hl:=hl.resolve_left (by omega)
 have hz:z % 1000 < 1000:=by omega
 obtain ⟨o,sp,hp⟩:=hp
 cases hv:s.get (z % 1000) with
 | bx n =>
  obtain ⟨b',arr,ty,e1,_,e3,_⟩:=h.box hv hz
  rw [nmv_slot hz,hp] at e1
  cases e1; exact e3
 | tp k =>
  obtain ⟨u',e,hr⟩:=h.ent (z % 1000) (lv_iff.2 (.inl hz)) (by rw [hv]; rfl)
  rw [hv] at hr; obtain ⟨_,xs,e',_⟩:=hr
  rw [nmv_slot hz,hp] at e; cases e; cases e'
 | ag k =>
  obtain ⟨u',e,hr⟩:=h.ent (z % 1000) (lv_iff.2 (.inl hz)) (by rw [hv]; rfl)
  rw [hv] at hr; obtain ⟨_,xs,e',_⟩:=hr
  rw [nmv_slot hz,hp] at e; cases e; cases e'
 | _ => rw [hv] at hl; cases hl
theorem Grow.setCell (w : World) (ad : Addr) (v : Value) : Grow (fun k => k = ad.block) w (w.setCell ad v) :=
 ⟨rfl,rfl,rfl,by simp,fun k _ hk => heap_setCell_other w ad k v hk,Nat.le_refl _⟩
theorem setCell_row {w : World} {b j : Nat} {arr : Array Value} {ty : TypeId} {v : Value} (hb : w.heap[b]? = some (.cells arr ty (0, 0))) :
  (w.setCell ⟨b,j,none⟩ v).heap[b]? = some (.cells (arr.setIfInBounds j v) ty (0,0)):=heap_setCell_same w b j arr ty v hb
theorem deep_set {y : Nat} {xs : List Value} {j : Nat} {v : Value} (h : DeepR ow y w xs) (hv : rowBlk v = none) (hw : ∀ b, ow b = some (y, 1) → b < w.heap.size → w'.heap[b]? = w.heap[b]?) : DeepR ow y w' (xs.set j v) := by
 have key' : ∀ (i b : Nat), ((xs.set j v)[i]?).bind rowBlk = some b → (xs.set j v)[i]? = xs[i]? := by
  intro i b hi
  rw [List.getElem?_set] at hi ⊢
  split at hi
  ·split at hi
   ·rw [Option.bind_some,hv] at hi; cases hi
   ·cases hi
  ·rename_i h0; rw [if_neg h0]
 have key:∀ (i b:Nat),((xs.set j v)[i]?).bind rowBlk = some b → (xs[i]?).bind rowBlk = some b:=fun i b hi => by rw [← key' i b hi]; exact hi
 refine ⟨fun i k b h1 h2 => h.1 i k b (key i b h1) (key k b h2),fun i b hi => ?_⟩
 obtain ⟨e,arr,ty,len,hb,hx⟩:=h.2 i b (key i b hi)
 refine ⟨e,arr,ty,len,by rw [hw b e (Array.getElem?_eq_some_iff.1 hb).1]; exact hb,?_⟩
 rw [key' i b hi]; exact hx
theorem tagM_sp {m y z : Nat} : (tagM m y).onSp z = false := by
 unfold tagM; cases m % 10 == 1 <;> cases m % 10 == 0 <;> rfl
theorem okG_ne {g : G} {y b b' : Nat} (hb : ow b = some (y, 0)) (hg : g.onSp y = false) (h : okG lo ow g b') : b' ≠ b := by
 rintro rfl
 cases g with
 | arg => simp only [okG] at h; rw [hb] at h; cases h
 | fr => simp only [okG] at h; rw [hb] at h; cases h.1
 | rw z => simp only [okG] at h; rw [hb] at h; cases h
 | sp z =>
  have hz:(z == y) = false:=hg
  simp only [okG] at h; rw [hb] at h
  rcases h with h | h | h
  ·cases h; simp at hz
  ·cases h
  ·cases h
theorem get_top_sp {y z : Nat} {v : V} : St.get ((y, v) :: St.killSp y s) z = if z = y then v else if (s.get z).onSp y = true then .any else s.get z := by
 rw [get_if]
 by_cases h : z = y
 ·rw [if_pos h.symm,if_pos h]
 ·rw [if_neg (Ne.symm h),if_neg h,get_killSp]
theorem Gam.store {y j m : Nat} {nl : Option Bool} {cs : List T} {r : T} {g : G} {v hdr : Value} {b len cap : Nat} (h : Gam lo Xb par ow s tm w) (hy : s.get y = .own m nl cs) (hl : s.lv y = true) (hn : nmv tm w y = some hdr)
  (he:hdr = .slice (some ⟨b,0,none⟩) len cap) (hj:j < cs.length) (hr:r.scal ∨ (g = .fr ∧ m % 10 = 0 ∧ r.one = true)) (hv:Fz (okG lo ow g) w r v) :
  Gam lo Xb par ow ((y,.own m nl (cs.set j r)) :: s.killSp y) tm (w.setCell ⟨b,j,none⟩ v) ∧ v.oneCell' = true ∧ (∃ x,w.cell? ⟨b,j,none⟩ = some x) ∧ w.frozen? ⟨b,j,none⟩ = false ∧ ow b = some (y,0):=by
 obtain ⟨u0,e0,hO⟩:=h.ent y hl (by rw [hy]; rfl)
 rw [hn] at e0; cases e0
 rw [hy] at hO
 obtain ⟨hp,hO⟩:=hO
 rcases hO with hO | ⟨hnl, b', cap', arr, ty, xs, e, ho, hb, hs, hle, hm, ht, hx, hd⟩
 ·rw [he] at hO; cases hO.1
 rw [he] at e; cases e
 have hone : v.oneCell' = true := by
  rcases hr with hr | hr
  ·exact hv.one (by cases r <;> simp [T.scal] at hr ⊢)
  ·exact hv.one (by cases r <;> first | exact hr.2.2 | (simp [T.one] at hr ⊢; done))
 have hjs:j < arr.size:=by omega
 refine ⟨?_,hone,⟨arr[j],by rw [cell_of_row w b j arr ty (0,0) hb]; exact Array.getElem?_eq_getElem hjs⟩,frozen_of_row w b j arr ty hb,ho⟩
 have oth:∀ k,k ≠ b → (w.setCell ⟨b,j,none⟩ v).heap[k]? = w.heap[k]?:=fun k hk => heap_setCell_other w _ k v hk
 have nm : ∀ z, s.lv z = true → ∀ u, nmv tm w z = some u → nmv tm (w.setCell ⟨b, j, none⟩ v) z = some u := fun z hz u hu =>
  h.nmKeep hz (fun b' _ hb' h1000 => oth b' (by
   rintro rfl
   rw [ho] at hb'
   have:y = z % 1000:=by cases hb'; rfl
   subst this
   rw [lv_iff,hy] at hz
   rcases hz with hz | hz
   ·omega
   ·cases hz)) hu
 have lvs : ∀ z, St.lv ((y, .own m nl (cs.set j r)) :: s.killSp y) z = true → s.lv z = true := by
  intro z hz
  rw [lv_iff] at hz ⊢
  rcases hz with hz | hz
  ·exact .inl hz
  ·rw [get_top_sp] at hz
   split at hz
   ·cases hz
   ·split at hz
    ·cases hz
    ·exact .inr hz
 have al : ∀ z, okAl ((y, .own m nl (cs.set j r)) :: s.killSp y) z → okAl s z := by
  intro z hz
  rw [okAl_iff,get_top_sp] at hz
  rw [okAl_iff]
  by_cases hzy : z = y
  ·subst hzy; exact .inl ⟨⟨m,nl,cs,hy⟩,hl⟩
  ·simp only [hzy,if_false] at hz
   split at hz
   ·rcases hz with ⟨⟨_,_,_,e⟩,_⟩ | ⟨⟨_,e⟩,_⟩ <;> cases e
   ·rcases hz with ⟨e, hz⟩ | e
    ·exact .inl ⟨e,lvs z hz⟩
    ·exact .inr e
 have pe : ∀ z, okPe ((y, .own m nl (cs.set j r)) :: s.killSp y) z → okPe s z := by
  intro z hz
  rw [okPe_iff,get_top_sp] at hz
  rw [okPe_iff]
  by_cases hzy : z = y
  ·subst hzy; exact ⟨⟨m,nl,cs,hy⟩,hl⟩
  ·simp only [hzy,if_false] at hz
   split at hz
   ·obtain ⟨⟨_,_,_,e⟩,_⟩:=hz; cases e
   ·exact ⟨hz.1,lvs z hz.2⟩
 refine Gam.step (M := fun _ => True) (MG := fun g => g.onSp y = false) (I := fun z => z ≠ y ∧ s.lv z = true) h (by simpa using h.base) (by simp) (fun z hz hnz => ?_) (fun z hz => nm z hz.2)
  (fun z hz b' _ r' hb' => ⟨hb', oth b' (by rintro rfl; rw [ho] at hb'; cases hb'; exact hz.1 rfl)⟩) ⟨rfl, rfl⟩ (fun z _ hz => ⟨al z hz, fun u => nm z (by
   have:=al z hz; rw [okAl_iff] at this; rcases this with h | h; exact h.2; exact lv_iff.2 (.inl h.2)) u⟩) (fun z _ hz => pe z hz)
  (fun x hx _ hz => ⟨?_,fun u hu => nm x (lv_iff.2 (.inl hx)) u hu⟩) (fun g' hg' b' _ hb' => ⟨hb',oth b' (okG_ne ho hg' hb')⟩)
 ·by_cases hzy : z = y
  ·subst hzy
   left
   refine ⟨hdr,nm z hl hdr hn,?_⟩
   rw [get_top]
   refine ⟨hp, .inr ⟨hnl, b, cap, arr.setIfInBounds j v, ty, xs.set j v, by rw [he]; simp, ho, setCell_row hb, by simpa using hs, by simpa using hle, hm, ?_, ?_, fun h1 => ?_⟩⟩
   ·subst ht; simp [List.take_set]
   ·have hx':FzL (okG lo ow (tagM m z)) (w.setCell ⟨b,j,none⟩ v) cs xs:=FzL.imp (fun b' _ hb' => ⟨hb',oth b' (okG_ne ho tagM_sp hb')⟩) cs xs hx
    refine hx'.set j ?_
    rcases hr with hr | ⟨rfl, h0, _⟩
    ·exact hv.scal hr
    ·have ht0:tagM m z = .fr:=by simp [tagM,h0]
     rw [ht0]
     exact Fz.imp (fun b' _ hb' => ⟨hb',oth b' (okG_ne ho rfl hb')⟩) r v hv
   ·rcases hr with hr | ⟨_, h0, _⟩
    ·rw [veil_set (scal_live hr)]
     exact deep_set (hd h1) (scal_rowBlk hr hv) (fun b' hb' _ => oth b' (by rintro rfl; rw [ho] at hb'; cases hb'))
    ·omega
  ·right
   rw [get_top_sp,if_neg hzy] at hnz ⊢
   split at hnz
   ·cases hnz
   ·rename_i hsp
    simp only [Bool.not_eq_true] at hsp
    rw [hsp]
    exact ⟨⟨hzy,lvs z hz⟩,by simp,lvs z hz,V.onSp_not hsp⟩
 ·rw [okPc_iff,get_top_sp] at hz
  obtain ⟨k,hz⟩:=hz
  split at hz
  ·cases hz
  ·split at hz
   ·cases hz
   ·exact okPc_iff.2 ⟨k,hz⟩
end
end Go.Vc
namespace Go.Vc
open Go
section
variable {P:Program} {lo:Nat} {Xb:Nat → Prop} {par:Nat → Option Value} {ow ow':Ow} {tm:Array Value} {a:Act} {w w':World} {s s':St}
def AppRes (w w' : World) (b0 : Option Nat) (xs news : List Value) (u : Value) : Prop :=
 (u = .slice none 0 0 ∧ xs ++ news = [] ∧ b0 = none ∧ w' = w) ∨
 ∃ b cap arr ty, u = .slice (some ⟨b, 0, none⟩) (xs ++ news).length cap ∧ w'.heap[b]? = some (.cells arr ty (0, 0)) ∧ arr.size = cap ∧ (xs ++ news).length ≤ cap ∧ cap ≤ maxLen ∧ arr.toList.take (xs ++ news).length = xs ++ news ∧
  ((b0 = some b ∧ Grow (fun k => k = b) w w' ∧ w'.heap.size = w.heap.size) ∨ (b = w.heap.size ∧ news ≠ [] ∧ Grow (fun _ => False) w w' ∧ w'.heap.size = w.heap.size + 1))
theorem run_app {t e : TypeId} {ty0 : TypeId} {i : TypeInfo} {z : Value} (ht : P.underlying t = some (.slice e)) (hi : P.info? e = some i) (hz : i.zero = some z) (hs : i.size = 1) (hby : i.bytes ≤ 64) (hzs : z.cells.size = 1)
  {hdr xv:Value} {b0:Option Nat} {xs news:List Value}
  (hh:(hdr = .slice none 0 0 ∧ xs = [] ∧ b0 = none) ∨ ∃ b cap arr ty,hdr = .slice (some ⟨b,0,none⟩) xs.length cap ∧ b0 = some b ∧ w.heap[b]? = some (.cells arr ty (0,0)) ∧ arr.size = cap ∧ xs.length ≤ cap ∧ cap ≤ maxLen ∧ arr.toList.take xs.length = xs)
  (hx:(xv = .slice none 0 0 ∧ news = []) ∨ ∃ ad c,xv = .slice (some ad) news.length c ∧ ∀ j v,news[j]? = some v → w.cell? (ad.add j) = some v)
  (h1:∀ v ∈ news,v.oneCell' = true) (hlen:xs.length + news.length ≤ 1099511627776) :
  ∃ u w',(Builtin.append_ #[t,t] ty0 #[hdr,xv]).run P w = .ok u w' ∧ AppRes w w' b0 xs news u:=by
 have hml:∀ n,n ≤ 1099511627776 → n ≤ maxLen:=fun n hn => by simp only [maxLen]; omega
 have hzc:∀ n,(Builtin.zeroCells z.cells n).size = n:=fun n => by rw [size_zeroCells,hzs]; omega
 have fcx : ∀ w1 : World, w1.heap = w.heap → (Builtin.firstCells 1 news.length xv).run P w1 = .ok news.toArray w1 := by
  intro w1 hw1
  rcases hx with ⟨rfl, rfl⟩ | ⟨ad, c, rfl, hc⟩
  ·simp [Builtin.firstCells]
  ·exact run_firstCells_some (P := P) w1 1 news.length ad news.length c news (by omega) fun j v hj => by
    rw [World.cell?_of_block (w:=w) (by rw [hw1])]; exact hc j v hj
 have lenx : (Builtin.lenOf xv).run P w = .ok news.length w := by
  rcases hx with ⟨rfl,rfl⟩ | ⟨ad,c,rfl,hc⟩ <;> simp [Builtin.lenOf]
 have shape : ∀ {k cap : Nat} {a0 : Option Addr}, hdr = .slice a0 k cap → k + news.length ≤ cap → (Builtin.append_ #[t, t] ty0 #[hdr, xv]).run P w =
   (do (if let some a:=a0 then storeCells (a.add (k * 1)) news else pure ()); pure (.slice a0 (k + news.length) cap):Sem Value).run P w:=by
  intro k cap a0 hd hroom
  subst hd
  cases a0 <;> simp [Builtin.append_,run_underlying ht,sizeOf,typeInfo,hi,hs,lenx,hroom,fcx w rfl]
 have grow : ∀ {k cap : Nat} {a0 : Option Addr}, hdr = .slice a0 k cap → xs.length = k → k ≤ cap → cap < k + news.length → (∀ w1 : World, w1.heap = w.heap → (Builtin.firstCells 1 k hdr).run P w1 = .ok xs.toArray w1) →
   ∃ u w',(Builtin.append_ #[t,t] ty0 #[hdr,xv]).run P w = .ok u w' ∧ AppRes w w' b0 xs news u:=by
  intro k cap a0 hd hk hkc hroom hold
  subst hk
  have hge:=grownCap_ge w (xs.length + news.length) cap e
  have hle:=grownCap_le_maxLen w (xs.length + news.length) cap e (hml _ hlen)
  refine ⟨.slice (some ⟨w.heap.size, 0, none⟩) (xs.length + news.length) (grownCap w (xs.length + news.length) cap e),
   w.drew.alloc (.cells (xs.toArray ++ news.toArray ++ Builtin.zeroCells z.cells (grownCap w (xs.length + news.length) cap e - (xs.length + news.length))) e),?_,.inr ⟨w.heap.size,_,_,e,by simp,heap_alloc_new w.drew _,?_,by simpa using hge,hle,?_,.inr ⟨rfl,(by rintro rfl; simp at hroom; omega),?_,by simp⟩⟩⟩
  ·have h63':¬ (9223372036854775807 < ((xs.length:Int) + (news.length:Int))):=by omega
   have hn:¬ (xs.length + news.length ≤ cap):=by omega
   have h48 : Builtin.nextslicecap (xs.length + news.length) cap * i.bytes ≤ 281474976710656 := growslice_fits hroom (by
    calc (xs.length + news.length) * i.bytes ≤ 1099511627776 * 64 := Nat.mul_le_mul hlen hby
     _ ≤ 140737488355328:=by decide)
   have h48':¬ (281474976710656 < Builtin.nextslicecap (xs.length + news.length) cap * i.bytes):=by omega
   have f1:=fcx w.drew rfl
   have f2:=hold w.drew rfl
   subst hd
   simp [Builtin.append_,run_underlying ht,sizeOf,typeInfo,zeroValue,hi,hz,hs,lenx,hn,h63',h48',Question.forced,f1,f2,newRow,grownCap]
   congr 2
   apply Array.ext'
   simp [List.append_assoc]
  ·simp only [Array.size_append,List.size_toArray,hzc]; omega
  ·simp only [Array.toList_append,List.append_assoc]
   rw [← List.append_assoc]
   exact List.take_left
  ·exact (Grow.drew _ w).trans (Grow.alloc _ w.drew _)
 rcases hh with ⟨rfl, rfl, rfl⟩ | ⟨b, cap, arr, ty, rfl, rfl, hb, hsz, hle, hm, ht'⟩
 ·by_cases h0 : news.length = 0
  ·have:news = []:=List.eq_nil_of_length_eq_zero h0
   subst this
   refine ⟨.slice none 0 0,w,?_,.inl ⟨rfl,rfl,rfl,rfl⟩⟩
   rw [shape (k:=0) (cap:=0) (a0:=none) rfl (by simp)]
   simp
  ·exact grow (k:=0) (cap:=0) (a0:=none) rfl rfl (Nat.le_refl _) (by omega) fun w1 _ => by simp [Builtin.firstCells]
 ·by_cases hroom : xs.length + news.length ≤ cap
  ·refine ⟨.slice (some ⟨b, 0, none⟩) (xs.length + news.length) cap, w.setRow b (arr.toList.take xs.length ++ news ++ arr.toList.drop (xs.length + news.length)).toArray, ?_,
    .inr ⟨b,cap,_,ty,by simp,setRow_heap w b arr _ ty _ hb,?_,by simpa using hroom,hm,?_,.inl ⟨rfl,⟨rfl,rfl,rfl,by simp,fun k _ hk => setRow_other w b k _ hk,Nat.le_refl _⟩,by simp⟩⟩⟩
   ·rw [shape (k:=xs.length) (cap:=cap) (a0:=some ⟨b,0,none⟩) rfl hroom]
    have hst:=run_storeCells_at P b xs.length ty news 0 arr w hb (by omega) h1
    simp only [Nat.add_zero] at hst
    have hadd : (⟨b, 0, none⟩ : Addr).add (xs.length * 1) = ⟨b, xs.length, none⟩ := by
     rw [Nat.mul_one]; unfold Addr.add; split
     ·rename_i h; rw [h]
     ·simp
    simp only [hadd,Sem.run_bind,hst,Result.andThen_ok,Sem.run_pure]
   ·simp; omega
   ·rw [ht']
    simp only [List.append_assoc]
    rw [← List.append_assoc]
    exact List.take_left
  ·refine grow (k:=xs.length) (cap:=cap) (a0:=some ⟨b,0,none⟩) rfl rfl hle (by omega) fun w1 hw1 => ?_
   exact run_firstCells_some (P := P) w1 1 xs.length ⟨b, 0, none⟩ xs.length cap xs (by omega) fun j v hj => by
    rw [World.cell?_of_block (w:=w) (by rw [hw1])]
    have : (⟨b, 0, none⟩ : Addr).add j = ⟨b, j, none⟩ := by
     unfold Addr.add; split
     ·rename_i h; rw [h]
     ·simp
    rw [this,cell_of_row w b j arr ty (0,0) hb]
    have hj':j < xs.length:=(List.getElem?_eq_some_iff.1 hj).1
    rw [← ht',List.getElem?_take,if_pos (by omega)] at hj
    simpa using hj
end
end Go.Vc
namespace Go.Vc
open Go
def St.rtL : List Nat → Nat → St → St
 | [],_,s => s
 | z :: zs,d,s => St.rtL zs d (s.rt z d)
def owL : List Nat → Nat → Ow → Ow
 | [],_,ow => ow
 | z :: zs,d,ow => owL zs d (owMove ow z d)
section
variable {P:Program} {lo:Nat} {Xb:Nat → Prop} {par:Nat → Option Value} {ow ow':Ow} {tm:Array Value} {a:Act} {w w':World} {s s':St}
theorem owL_none {zs : List Nat} {d b : Nat} : ∀ {ow : Ow}, owL zs d ow b = none ↔ ow b = none := by
 induction zs with
 | nil => intro ow; rfl
 | cons z zs ih => intro ow; simp only [owL]; rw [ih,owMove_none]
theorem owL_ne {zs : List Nat} {d b y r : Nat} (hz : ∀ z ∈ zs, hangs z y = false) : ∀ {ow : Ow}, ow b = some (y, r) → owL zs d ow b = some (y, r) := by
 induction zs with
 | nil => intro ow h; exact h
 | cons z zs ih =>
  intro ow h
  simp only [owL]
  exact ih (fun z' h' => hz z' (by simp [h'])) (owMove_ne h (hz z (by simp)))
theorem owL_d {zs:List Nat} {d b r:Nat} (hz:∀ z ∈ zs,hangs z d = false) {ow:Ow} (h:ow b = some (d,r)):owL zs d ow b = some (d,r):=owL_ne hz h
theorem owL_mem {d b r : Nat} : ∀ {zs : List Nat} {x : Nat} {ow : Ow}, (∀ z ∈ zs, hangs z d = false) → (∀ z ∈ zs, z ≠ x → hangs z x = false) → x ∈ zs → ow b = some (x, r) → owL zs d ow b = some (d, r)
 | [],_,_,_,_,hx,_ => by simp at hx
 | z :: zs, x, ow, hz, hzx, hx, h => by
  simp only [owL]
  by_cases e : z = x
  ·subst e
   exact owL_d (fun z' h' => hz z' (by simp [h'])) (owMove_self h)
  ·have hx' : x ∈ zs := by
    rcases List.mem_cons.1 hx with h | h
    ·exact absurd h.symm e
    ·exact h
   exact owL_mem (fun z' h' => hz z' (by simp [h'])) (fun z' h' => hzx z' (by simp [h'])) hx' (owMove_ne h (hzx z (by simp) e))
theorem owL_some {zs : List Nat} {d b : Nat} {p : Nat × Nat} (h : owL zs d ow b = some p) : ∃ q, ow b = some q := by
 cases e:ow b with
 | none => rw [owL_none.2 e] at h; cases h
 | some q => exact ⟨q,rfl⟩
theorem tag_owL {zs : List Nat} {d : Nat} {g : G} (hg : ∀ z ∈ zs, g.on z = false) (b : Nat) (h : okG lo ow g b) : okG lo (owL zs d ow) g b := by
 cases g with
 | arg => exact owL_none.2 h
 | fr => exact ⟨owL_none.2 h.1,h.2⟩
 | rw y => exact owL_ne hg h
 | sp y =>
  rcases h with h | h | h
  ·exact .inl (owL_ne hg h)
  ·exact .inr (.inl (owL_ne hg h))
  ·exact .inr (.inr (owL_none.2 h))
theorem rt_any {x d:Nat}:V.rt x d .any = .any:=by simp [V.rt,V.on,G.on]
theorem rtL_get {d y : Nat} : ∀ {zs : List Nat} {s : St}, (∀ z ∈ zs, hangs z d = false) → (∀ z ∈ zs, hangs z y = false) →
  ((St.rtL zs d s).get y).isAny = true ∨ ((St.rtL zs d s).get y = s.get y ∧ ∀ z ∈ zs,(s.get y).on z = false) ∨ (∃ x r,(x ∈ zs ∨ x = d) ∧ s.get y = .t (.rw x) r ∧ (St.rtL zs d s).get y = .t (.rw d) r)
 | [],s,_,_ => .inr (.inl ⟨rfl,by simp⟩)
 | z :: zs, s, hd, hy => by
  simp only [St.rtL]
  have hzy:=hy z (by simp)
  have e:(s.rt z d).get y = (s.get y).rt z d:=by rw [get_rt,hzy]; simp
  have ih:=rtL_get (d:=d) (y:=y) (zs:=zs) (s:=s.rt z d) (fun z' h' => hd z' (by simp [h'])) (fun z' h' => hy z' (by simp [h']))
  rw [e] at ih
  rcases rt_cases (x := z) (d := d) (v := s.get y) with h | ⟨h, h'⟩ | ⟨r, h, h'⟩
  ·left
   obtain ⟨g,e'⟩:=isAny_eq h
   rw [e'] at ih
   rcases ih with ih | ⟨ih, _⟩ | ⟨x, r, _, e1, e2⟩
   ·exact ih
   ·rw [ih]; rfl
   ·rw [e2]; cases e1; rfl
  ·rw [h] at ih
   rcases ih with ih | ⟨ih, ih'⟩ | ⟨x, r, hx, e1, e2⟩
   ·exact .inl ih
   ·exact .inr (.inl ⟨ih,fun z' hz' => by rcases List.mem_cons.1 hz' with rfl | hz'; exact h'; exact ih' z' hz'⟩)
   ·exact .inr (.inr ⟨x,r,by rcases hx with hx | hx; exact .inl (by simp [hx]); exact .inr hx,e1,e2⟩)
  ·rw [h'] at ih
   rcases ih with ih | ⟨ih, ih'⟩ | ⟨x, r', hx, e1, e2⟩
   ·exact .inl ih
   ·exact .inr (.inr ⟨z,r,.inl (by simp),h,ih⟩)
   ·cases e1
    exact .inr (.inr ⟨z,r,.inl (by simp),h,e2⟩)
theorem rtL_hang {d y : Nat} : ∀ {zs : List Nat} {s : St}, (∃ z ∈ zs, hangs z y = true) ∨ (s.get y).isAny = true → ((St.rtL zs d s).get y).isAny = true
 | [], s, h => by
  rcases h with ⟨z, hz, _⟩ | h
  ·simp at hz
  ·exact h
 | z :: zs, s, h => by
  simp only [St.rtL]
  refine rtL_hang ?_
  by_cases hzy : hangs z y = true
  ·right; rw [get_rt,if_pos hzy]; rfl
  ·rcases h with ⟨z', hz', hh⟩ | h
   ·rcases List.mem_cons.1 hz' with rfl | hz'
    ·exact absurd hh hzy
    ·exact .inl ⟨z',hz',hh⟩
   ·right
    rw [get_rt,if_neg hzy]
    obtain ⟨g,e⟩:=isAny_eq h
    rw [e]
    cases g <;> simp only [V.rt]
    ·rfl
    ·rfl
    ·rename_i q; cases q == z <;> cases hangs z q <;> rfl
    ·rename_i q; simp only [V.on,G.on]; cases hangs z q <;> rfl
theorem Keeps.absorb {d : Nat} {zs : List Nat} {E : St} {tm' : Array Value} (h : Gam lo Xb par ow s tm w) (hzd : ∀ z ∈ zs, hangs d z = false) (hzd' : ∀ z ∈ zs, hangs z d = false)
  (hzz:∀ z ∈ zs,∀ z' ∈ zs,z ≠ z' → hangs z z' = false) (hE:∀ p ∈ E,hangs d p.1 = true) (htm:∀ y,hangs d y = false → ∀ w1,nmv tm' w1 y = nmv tm w1 y)
  (hsize:w.heap.size ≤ w'.heap.size) (ho:∀ b,b < w.heap.size → ow' b = owL zs d ow b)
  (hw:∀ b,b < w.heap.size → (∀ z ∈ zs,ow b ≠ some (z,0)) → w'.heap[b]? = w.heap[b]?):Keeps lo (d :: zs) ow ow' tm tm' w w' s (E ++ St.rtL zs d (s.kill d)):=by
 have hh : ∀ y, ¬ Hg (d :: zs) y → hangs d y = false ∧ ∀ z ∈ zs, hangs z y = false := fun y hy => by
  constructor
  ·rw [← Bool.not_eq_true]; exact fun h => hy ⟨d,by simp,h⟩
  ·intro z hz; rw [← Bool.not_eq_true]; exact fun h => hy ⟨z,by simp [hz],h⟩
 have nz:∀ {y z:Nat},hangs z y = false → y ≠ z:=fun h e => by subst e; rw [hangs_self] at h; cases h
 refine ⟨hsize, fun y hy => ?_, fun y hy hl u hu => ?_, fun y hy b hb r hk => ?_, fun g hg b hb hk => ?_⟩
 ·obtain ⟨h1,h2⟩:=hh y hy
  have e : (E ++ St.rtL zs d (s.kill d)).get y = (St.rtL zs d (s.kill d)).get y := get_app fun p hp he => by
   have:=hE p hp; rw [he,h1] at this; cases this
  rw [e]
  have ek:(s.kill d).get y = if (s.get y).on d = true then .any else s.get y:=by rw [get_kill,h1]; simp
  rcases rtL_get (d := d) (y := y) (zs := zs) (s := s.kill d) hzd' h2 with h | ⟨h, h'⟩ | ⟨x, r, hx, e1, e2⟩
  ·exact .inl h
  ·rw [ek] at h h'
   by_cases hon : (s.get y).on d = true
   ·left; rw [h,if_pos hon]; rfl
   ·rw [if_neg hon] at h h'
    refine .inr (.inl ⟨h,fun z hz => ?_⟩)
    rcases List.mem_cons.1 hz with rfl | hz
    ·simpa using hon
    ·exact h' z hz
  ·rw [ek] at e1
   by_cases hon : (s.get y).on d = true
   ·rw [if_pos hon] at e1; cases e1
   ·rw [if_neg hon] at e1
    refine .inr (.inr ⟨x,d,r,e1,e2,fun b hb hk => ?_⟩)
    have hx0:∀ z ∈ zs,ow b ≠ some (z,0):=fun z _ e => by rw [hk] at e; cases e
    refine ⟨?_,hw b hb hx0⟩
    rw [ho b hb]
    rcases hx with hx | rfl
    ·exact owL_mem hzd' (fun z hz hne => hzz z hz x hx hne) hx hk
    ·exact owL_d hzd' hk
 ·obtain ⟨h1,h2⟩:=hh y hy
  rw [htm y h1]
  refine h.nmKeep hl (fun b hb hk h1000 => hw b hb fun z hz e => ?_) hu
  rw [hk] at e
  have:y % 1000 = z:=by cases e; rfl
  have:=h2 z hz
  rw [hangs_false] at this
  exact this.2 (by omega) (by omega)
 ·obtain ⟨h1,h2⟩:=hh y hy
  exact ⟨by rw [ho b hb]; exact owL_ne h2 hk,hw b hb fun z hz e => by rw [hk] at e; cases e; exact nz (h2 _ hz) rfl⟩
 ·have hgz:∀ z ∈ zs,g.on z = false:=fun z hz => hg z (by simp [hz])
  have k1:okG lo (owL zs d ow) g b:=tag_owL hgz b hk
  refine ⟨?_, hw b hb fun z hz e => ?_⟩
  ·cases g <;> simp only [okG,ho b hb] at k1 ⊢ <;> exact k1
  ·cases g with
   | arg => simp only [okG] at hk; rw [e] at hk; cases hk
   | fr => simp only [okG] at hk; rw [e] at hk; cases hk.1
   | rw q => simp only [okG] at hk; rw [e] at hk; cases hk
   | sp q =>
    simp only [okG] at hk
    rw [e] at hk
    rcases hk with hk | hk | hk
    ·have:z = q:=by cases hk; rfl
     subst this
     have:=hgz z hz
     simp only [G.on] at this
     rw [hangs_self] at this; cases this
    ·cases hk
    ·cases hk
theorem Gam.absorb {d : Nat} {zs : List Nat} {m : Nat} {nl : Option Bool} {cs : List T} {u : Value} (h : Gam lo Xb par ow s tm w) (hd : d < 1000) (hsz : d < tm.size) (hzd : ∀ z ∈ zs, hangs d z = false) (hzd' : ∀ z ∈ zs, hangs z d = false)
  (hzz:∀ z ∈ zs,∀ z' ∈ zs,z ≠ z' → hangs z z' = false) (hsize:w.heap.size ≤ w'.heap.size) (ho:∀ b,b < w.heap.size → ow' b = owL zs d ow b)
  (hn:∀ b p,w.heap.size ≤ b → ow' b = some p → b < w'.heap.size ∧ (lo ≤ b ∨ Xb b)) (hw:∀ b,b < w.heap.size → (∀ z ∈ zs,ow b ≠ some (z,0)) → w'.heap[b]? = w.heap[b]?)
  (hO:OwnAt lo par ow' w' d m nl cs u):Gam lo Xb par ow' ((d,.own m nl cs) :: St.rtL zs d (s.kill d)) (tm.setIfInBounds d u) w':=by
 have K : Keeps lo (d :: zs) ow ow' tm (tm.setIfInBounds d u) w w' s ([(d, V.own m nl cs)] ++ St.rtL zs d (s.kill d)) :=
  Keeps.absorb h hzd hzd' hzz (fun p hp => by simp at hp; subst hp; exact hangs_self d) (fun y hy w1 => nmv_put hy hd) hsize ho hw
 refine Gam.next (ds := d :: zs) h K (fun b p hp => ?_) fun y hy hl hny => ?_
 ·by_cases hlt : b < w.heap.size
  ·rw [ho b hlt] at hp
   obtain ⟨q,hq⟩:=owL_some hp
   obtain ⟨_,h2⟩:=h.base b q hq
   exact ⟨Nat.lt_of_lt_of_le hlt hsize,h2⟩
  ·exact hn b p (by omega) hp
 ·by_cases hyd : y = d
  ·subst hyd
   refine ⟨u,by rw [nmv_slot hd]; simp [hsz],?_⟩
   rw [get_top]
   exact hO
  ·exfalso
   rw [get_top_ne hyd] at hny
   obtain ⟨x,hx,hh⟩:=hy
   have : ((St.rtL zs d (s.kill d)).get y).isAny = true := by
    refine rtL_hang ?_
    rcases List.mem_cons.1 hx with rfl | hx
    ·right; rw [get_kill,if_pos (.inl hh)]; rfl
    ·exact .inl ⟨x,hx,hh⟩
   rw [this] at hny; cases hny
end
end Go.Vc
namespace Go.Vc
open Go
section
variable {P:Program} {lo:Nat} {Xb:Nat → Prop} {par:Nat → Option Value} {ow ow':Ow} {tm tm':Array Value} {a:Act} {w w':World} {s s':St}
theorem Keeps.drop {ds : List Nat} {E s1 : St} (hE : ∀ p ∈ E, Hg ds p.1) (hsz : w.heap.size ≤ w'.heap.size)
  (hs:∀ y,¬ Hg ds y → (s1.get y).isAny = true ∨ (s1.get y = s.get y ∧ ∀ x ∈ ds,(s.get y).on x = false) ∨ (∃ x r,s.get y = .t (.rw x) r ∧ s1.get y = .t (.rw x) r))
  (hrw:∀ x b,b < w.heap.size → ow b = some (x,1) → ow' b = some (x,1) ∧ w'.heap[b]? = w.heap[b]?)
  (hnm:∀ y,¬ Hg ds y → s.lv y = true → ∀ u,nmv tm w y = some u → nmv tm' w' y = some u)
  (hown:∀ y,¬ Hg ds y → ∀ b,b < w.heap.size → ∀ r,ow b = some (y,r) → ow' b = some (y,r) ∧ w'.heap[b]? = w.heap[b]?)
  (hnone:∀ b,b < w.heap.size → ow b = none → ow' b = none ∧ w'.heap[b]? = w.heap[b]?):Keeps lo ds ow ow' tm tm' w w' s (E ++ s1):=by
 refine ⟨hsz, fun y hy => ?_, hnm, hown, fun g hg b hb hk => ?_⟩
 ·have e:(E ++ s1).get y = s1.get y:=get_app fun p hp he => hy (he ▸ hE p hp)
  rw [e]
  rcases hs y hy with h | h | ⟨x, r, h1, h2⟩
  ·exact .inl h
  ·exact .inr (.inl h)
  ·exact .inr (.inr ⟨x,x,r,h1,h2,fun b hb hk => hrw x b hb hk⟩)
 ·have hz:∀ z,(∀ x ∈ ds,hangs x z = false) → ¬ Hg ds z:=fun z h ⟨x,hx,hh⟩ => by rw [h x hx] at hh; cases hh
  cases g with
  | arg => obtain ⟨h1,h2⟩:=hnone b hb hk; exact ⟨h1,h2⟩
  | fr => obtain ⟨h1,h2⟩:=hnone b hb hk.1; exact ⟨⟨h1,hk.2⟩,h2⟩
  | rw z => obtain ⟨h1,h2⟩:=hown z (hz z hg) b hb 1 hk; exact ⟨h1,h2⟩
  | sp z =>
   rcases hk with hk | hk | hk
   ·obtain ⟨h1,h2⟩:=hown z (hz z hg) b hb 0 hk; exact ⟨.inl h1,h2⟩
   ·obtain ⟨h1,h2⟩:=hown z (hz z hg) b hb 1 hk; exact ⟨.inr (.inl h1),h2⟩
   ·obtain ⟨h1,h2⟩:=hnone b hb hk; exact ⟨.inr (.inr h1),h2⟩
theorem Gam.kill (h : Gam lo Xb par ow s tm w) (y : Nat) : Gam lo Xb par ow (s.kill y) tm w := by
 have K : Keeps lo [y] ow ow tm tm w w s ([] ++ s.kill y) := Keeps.drop (by simp) (Nat.le_refl _) (fun z hz => by
   have hh:hangs y z = false:=by rw [← Bool.not_eq_true]; exact fun h => hz ⟨y,by simp,h⟩
   rw [get_kill]
   by_cases hon : (s.get z).on y = true
   ·left; simp [hon]; rfl
   ·simp only [Bool.not_eq_true] at hon
    right; left; simp [hh,hon]) (fun _ _ _ h => ⟨h,rfl⟩) (fun _ _ _ _ h => h) (fun _ _ _ _ _ h => ⟨h,rfl⟩) (fun _ _ h => ⟨h,rfl⟩)
 refine Gam.next h K h.base fun z ⟨x,hx,hh⟩ hl hn => ?_
 simp at hx; subst hx
 rw [get_kill,if_pos (.inl hh)] at hn; cases hn
def Kd (d:Nat) (s:St):Prop:=∀ y,(hangs d y = true → (s.get y).isAny = true) ∧ ((s.get y).on d = true → ∃ z r,s.get y = .t (.rw z) r)
theorem Kd.kill (d : Nat) (s : St) : Kd d (s.kill d) := fun y => by
 rw [get_kill]
 refine ⟨fun h => by rw [if_pos (.inl h)]; rfl,fun h => ?_⟩
 split at h
 ·cases h
 ·rename_i hq; simp only [not_or] at hq; exact absurd h hq.2
theorem rt_or {x e : Nat} {v : V} : V.rt x e v = .any ∨ V.rt x e v = v ∨ ∃ r, V.rt x e v = .t (.rw e) r := by
 cases v with
 | t g r =>
  cases g <;> simp only [V.rt]
  ·exact .inr (.inl rfl)
  ·exact .inr (.inl rfl)
  ·rename_i q
   cases q == x <;> cases hangs x q <;> simp
  ·rename_i q
   simp only [V.on,G.on]; cases hangs x q <;> simp
 | _ => simp only [V.rt]; generalize V.on x _ = c; cases c <;> simp
theorem Kd.rt {d x e : Nat} (h : Kd d s) : Kd d (s.rt x e) := fun y => by
 rw [get_rt]
 obtain ⟨h1,h2⟩:=h y
 split
 ·exact ⟨fun _ => rfl,fun h => by cases h⟩
 ·refine ⟨fun hh => ?_, fun hh => ?_⟩
  ·obtain ⟨g,hg⟩:=isAny_eq (h1 hh)
   rw [hg]
   cases g <;> simp only [V.rt]
   ·rfl
   ·rfl
   ·rename_i q; cases q == x <;> cases hangs x q <;> rfl
   ·rename_i q; simp only [V.on,G.on]; cases hangs x q <;> rfl
  ·rcases rt_or (x := x) (e := e) (v := s.get y) with h | h | ⟨r, h⟩
   ·rw [h] at hh; cases hh
   ·rw [h] at hh ⊢; exact h2 hh
   ·exact ⟨e,r,h⟩
theorem Gam.make {d : Nat} {E : St} {u : Value} (h : Gam lo Xb par ow s tm w) (hk : Kd d s) (hd : d < 1000) (hg : Grow (fun _ => False) w w')
  (ho:∀ b,b < w.heap.size → ow' b = ow b) (hb:∀ b p,w.heap.size ≤ b → ow' b = some p → b < w'.heap.size ∧ (lo ≤ b ∨ Xb b)) (hE:∀ p ∈ E,hangs d p.1 = true)
  (he:∀ y,hangs d y = true → (∃ p ∈ E,p.1 = y) → St.lv (E ++ s) y = true → (E.get y).isAny = false → ∃ x,nmv (tm.setIfInBounds d u) w' y = some x ∧ Rep lo par ow' (tm.setIfInBounds d u) w' (E ++ s) y (E.get y) x) :
  Gam lo Xb par ow' (E ++ s) (tm.setIfInBounds d u) w':=by
 have hh : ∀ y, ¬ Hg [d] y → hangs d y = false := fun y hy => by
  rw [← Bool.not_eq_true]; exact fun h => hy ⟨d,by simp,h⟩
 have K : Keeps lo [d] ow ow' tm (tm.setIfInBounds d u) w w' s (E ++ s) := Keeps.drop (fun p hp => ⟨d, by simp, hE p hp⟩) hg.size (fun y hy => by
   by_cases hon : (s.get y).on d = true
   ·obtain ⟨z,r,e⟩:=(hk y).2 hon; exact .inr (.inr ⟨z,r,e,e⟩)
   ·simp only [Bool.not_eq_true] at hon
    exact .inr (.inl ⟨rfl,by simpa using hon⟩)) (fun x b hb hk => ⟨by rw [ho b hb]; exact hk,hg.blk hb⟩)
  (fun y hy _ x hx => nmv_grow hg (by rw [nmv_put (hh y hy) hd]; exact hx)) (fun y _ b hb r hk => ⟨by rw [ho b hb]; exact hk,hg.blk hb⟩) (fun b hb hk => ⟨by rw [ho b hb]; exact hk,hg.blk hb⟩)
 refine Gam.next h K (fun b p hp => ?_) fun y hy hl hn => ?_
 ·by_cases hlt : b < w.heap.size
  ·obtain ⟨_,h2⟩:=h.base b p (by rw [← ho b hlt]; exact hp)
   exact ⟨Nat.lt_of_lt_of_le hlt hg.size,h2⟩
  ·exact hb b p (by omega) hp
 ·obtain ⟨x,hx,hx'⟩:=hy
  simp at hx; subst hx
  by_cases hex : ∃ p ∈ E, p.1 = y
  ·rw [get_append_yes hex] at hn ⊢
   exact he y hx' hex hl hn
  ·exfalso
   rw [get_app (fun p hp e => hex ⟨p,hp,e⟩),(hk y).1 hx'] at hn
   cases hn
theorem Gam.lookN (h : Gam lo Xb par ow s tm w) {x : Nat} {u : Value} (hl : s.lv x = true) (hu : nmv tm w x = some u) : RepW lo par ow tm w s (s.enr x (s.get x)) u := by
 by_cases hx : x < 1000
 ·have:=h.look hx
  rw [look_s] at this
  rw [nmv_slot hx] at hu
  rw [← Option.some.inj hu]; exact this
 by_cases ha : (s.get x).isAny = true
 ·obtain ⟨g,e⟩:=isAny_eq ha; rw [e,enr_t]; simp [RepW,Fz]
 simp only [Bool.not_eq_true] at ha
 obtain ⟨u',e,hr⟩:=h.ent x hl ha
 rw [hu] at e; cases e
 cases hv:s.get x with
 | t g r => rw [hv] at hr; exact hr
 | own m nl cs => rw [hv] at hr; exact ⟨hv,hl,hu,hr⟩
 | fo z k nl cs => rw [hv] at hr; exact hr
 | bx k => rw [hv] at hr; exact absurd hr.1 hx
 | tp k => rw [enr_tp]; simp only [RepW]
 | ag k => rw [hv] at hr; exact absurd hr.1 hx
 | al z =>
  rw [hv] at hr
  rw [enr_al]
  cases hz:s.get z with
  | own m nl cs =>
   rw [alW_own]
   cases hlz:s.lv z with
   | false => simp only [cond_false,RepW]
   | true =>
    simp only [cond_true]
    obtain ⟨u',e',hr'⟩:=h.ent z hlz (by rw [hz]; rfl)
    have hc:=hr (by simp [hz,hlz])
    rw [hc] at e'; cases e'
    rw [hz] at hr'
    exact ⟨hz,hlz,hc,hr'⟩
  | ag k =>
   rw [alW_ag]
   by_cases hz1 : z < 1000
   ·simp only [hz1,decide_true,cond_true]
    have hc:=hr (by simp [hz,hz1])
    have htm:tm.getD z undef = u:=by rw [nmv_slot hz1] at hc; simpa using hc
    have:=h.look hz1
    rw [look_s,hz,enr_ag,htm] at this
    exact this
   ·simp only [hz1,decide_false,cond_false,RepW]
  | _ => simp only [alW,RepW]
 | pc z => rw [hv] at hr; rw [enr_pc]; exact h.pcW hr
 | pe z j =>
  rw [hv] at hr
  rw [enr_pe]
  cases hz:s.get z with
  | own m nl cs =>
   rw [peW_own]
   cases hlz:s.lv z with
   | false => simp only [cond_false,RepW]
   | true =>
    simp only [cond_true]
    obtain ⟨u',e',hr'⟩:=h.ent z hlz (by rw [hz]; rfl)
    obtain ⟨b,len,cap,f1,f2⟩:=hr (by simp [hz,hlz])
    rw [f1] at e'; cases e'
    rw [hz] at hr'
    exact ⟨hz,hlz,b,len,cap,f1,hr',f2⟩
  | _ => simp only [peW,RepW]
 | er z j =>
  rw [hv] at hr
  rw [enr_er]
  cases hz:s.get z with
  | own m nl cs =>
   rw [erW_own]
   cases hlz:s.lv z with
   | false => simp only [cond_false,RepW]
   | true =>
    simp only [cond_true]
    obtain ⟨u',e',hr'⟩:=h.ent z hlz (by rw [hz]; rfl)
    obtain ⟨b,len,cap,f1,_,f2⟩:=hr (by simp [hz,hlz])
    rw [f1] at e'; cases e'
    rw [hz] at hr'
    exact ⟨hz,hlz,b,len,cap,f1,hr',f2⟩
  | _ => simp only [erW,RepW]
 | sl z l h' =>
  rw [hv] at hr
  rw [enr_sl]
  cases hz:s.get z with
  | own m nl cs =>
   rw [slW_own]
   cases hlz:s.lv z with
   | false => simp only [cond_false,RepW]
   | true =>
    simp only [cond_true]
    obtain ⟨u',e',hr'⟩:=h.ent z hlz (by rw [hz]; rfl)
    obtain ⟨a0,len,cap,f1,f2⟩:=hr (by simp [hz,hlz])
    rw [f1] at e'; cases e'
    rw [hz] at hr'
    exact ⟨hz,hlz,a0,len,cap,f1,hr',f2⟩
  | _ => simp only [slW,RepW]
 | bv z =>
  rw [hv] at hr
  rw [enr_bv]
  cases hz:s.get z with
  | bx n =>
   rw [bvW_bx]
   obtain ⟨hz1,hr⟩:=hr
   simp only [hz1,decide_true,cond_true]
   obtain ⟨b,arr,ty,e1,e2,e3,e4,e5,_⟩:=h.box hz hz1
   obtain ⟨b',arr',ty',f1,_,f3,f4⟩:=hr (by simp [hz])
   rw [e1] at f1; cases f1
   rw [e2] at f3; cases f3
   exact ⟨hz,hz1,b,arr,ty,e1,e2,e3,e4,f4,e5⟩
  | _ => simp only [bvW,RepW]
 | clo f cp =>
  rw [hv] at hr
  rw [enr_clo]
  refine ⟨hr.y rfl,?_⟩
  obtain ⟨xs,e1,e2,hc⟩:=hr
  refine ⟨xs,e1,FzL.of_get (by simpa using e2) fun k x hk => ?_⟩
  have hk':k < cp.length:=by rw [← e2]; exact (List.getElem?_eq_some_iff.1 hk).1
  have hcp:cp[k]? = some cp[k]:=List.getElem?_eq_getElem hk'
  have hx:=hc k _ x hcp hk
  rw [List.getD,List.getElem?_map,hcp]
  simp only [Option.map_some,Option.getD_some]
  revert hx
  cases cp[k] with
  | t g r => intro hx; exact Fz.mono (fun _ _ => trivial) hx
  | p z =>
   intro hx
   rw [capT_p]
   cases hz:s.get (z % 1000) with
   | bx n =>
    rw [capV_bx]
    obtain ⟨b,arr,ty,f1,f2,f3,f4,f5,f6⟩:=h.box hz (by omega)
    obtain ⟨b',g1,g2⟩:=hx (by simp [hz])
    rw [f1] at g1; cases g1
    simp only [Fz]
    refine ⟨b,0,arr.toList,by simpa using g2,fun _ => trivial,f5,fun j y hj => ?_⟩
    rw [cell_of_row w b (0 + j) arr ty (0,0) f2]; simpa using hj
   | _ => simp [capV,Fz]
end
end Go.Vc
namespace Go.Vc
open Go
section
variable {P:Program} {lo:Nat} {Xb:Nat → Prop} {par:Nat → Option Value} {ow ow':Ow} {tm tm':Array Value} {a:Act} {w w':World} {s s':St} {K:St → Prop} {oper:Oper}
def GoI (P : Program) (lo : Nat) (Xb : Nat → Prop) (par : Nat → Option Value) (a : Act) (w : World) (K : St → Prop) (oper : Oper) : Prop :=
 ∀ (next : Act → World → Prop) (Q : Exit → Act → World → Prop),
  (∀ s' a' w' ow',K s' → Grow (fun k => lo ≤ k ∨ Xb k) w w' → Gam lo Xb par ow' s' a'.tmps w' → a'.tmps.size = a.tmps.size → a'.defers = a.defers → next a' w') → oper.wp P a w next Q
theorem put_some {d:Nat} {u:Value}:(a.put (some d) u) = { a with tmps:=a.tmps.setIfInBounds d u }:=rfl
theorem goi_val {d : Nat} {u : Value} (hd : oper.dst = some d) (hr : (execOp a.eval oper).run P w = .ok (.value u) w') (hk : K s') (hg : Grow (fun k => lo ≤ k ∨ Xb k) w w')
  (hG:Gam lo Xb par ow' s' (a.tmps.setIfInBounds d u) w'):GoI P lo Xb par a w K oper:=by
 intro next Q N
 unfold Oper.wp
 rw [hr]
 simp only [Oper.upon]
 rw [hd,put_some]
 exact N s' _ w' ow' hk hg hG (by simp) rfl
theorem Grow.any {X:Nat → Prop} (h:Grow (fun _ => False) w w'):Grow X w w':=h.mono fun _ _ h => h.elim
theorem get_mem {E : St} {y : Nat} (h : ∃ p ∈ E, p.1 = y) : ∃ p ∈ E, p.1 = y ∧ E.get y = p.2 := by
 induction E with
 | nil => obtain ⟨p,hp,_⟩:=h; simp at hp
 | cons q E ih =>
  obtain ⟨k,v⟩:=q
  rw [get_if]
  by_cases hk : k = y
  ·exact ⟨(k,v),by simp,hk,by rw [if_pos hk]⟩
  ·rw [if_neg hk]
   obtain ⟨p,hp,e⟩:=h
   have : p ∈ E := by
    rcases List.mem_cons.1 hp with rfl | hp
    ·exact absurd e hk
    ·exact hp
   obtain ⟨q,hq,e1,e2⟩:=ih ⟨p,this,e⟩
   exact ⟨q,by simp [hq],e1,e2⟩
theorem kOk1_row {t : T} {v : Value} (h : kOk1 t v = true) : rowBlk v = none := by
 unfold kOk1 at h; split at h <;> first | rfl | cases h
theorem mkn_goi {d : Nat} (hG : Gam lo Xb par ow s a.tmps w) (hd : oper.dst = some d) (hd1 : d < 1000) (hsz : d < a.tmps.size)
  (ho:oper.op = .move (.const (.slice none 0 0)) ∨ oper.op = .assign (.const (.slice none 0 0))) (hk:wpI P (.mkn d) K s):GoI P lo Xb par a w K oper:=by
 rw [wpI_mkn] at hk
 refine goi_val (u := .slice none 0 0) hd (w' := w) ?_ hk (Grow.refl _ _) (Gam.createOwn hG hd1 hsz (Grow.refl _ _) (fun _ _ => rfl) (fun b p hb hp => absurd (hG.base b p hp).1 (by omega)) ?_)
 ·rcases ho with ho | ho <;> simp [execOp,ho,Act.eval]
 ·exact ⟨fun h => absurd h (by omega),.inl ⟨rfl,rfl,by simp⟩⟩
theorem mk_goi {d : Nat} {z : T} {l c : X} {l' c' : Operand} {t : TypeId} (hG : Gam lo Xb par ow s a.tmps w) (hd : oper.dst = some d) (hd1 : d < 1000) (hsz : d < a.tmps.size)
  (ho:oper.op = .makeSlice t l' c') (h1:xOk l l' = true) (h2:xOk c c' = true) (hz:(match P.underlying t with | some (.slice e) => zOk P e z | _ => false) = true) (hk:wpI P (.mk d z l c) K s):GoI P lo Xb par a w K oper:=by
 rw [wpI_mk] at hk
 have r1:=xOk_sound hG h1
 have r2:=xOk_sound hG h2
 generalize s.look l = wl at r1 hk
 generalize s.look c = wc at r2 hk
 cases wl with
 | t g r =>
  cases r with
  | i n =>
   cases wc with
   | t g' r' =>
    cases r' with
    | i k =>
     rw [mkK_e] at hk
     obtain ⟨k1,k2,k3,k4⟩:=hk
     obtain ⟨e1,_⟩:=repI r1
     obtain ⟨e2,_⟩:=repI r2
     split at hz
     ·rename_i e he
      obtain ⟨i,zv,hi,hs1,hby,hzv,hone,hkk⟩:=zOk_spec hz
      have hcells:=oneCell_cells hone
      have hb : (i.bytes : Int) * k ≤ 281474976710656 := by
       have:(i.bytes:Int) ≤ 64:=by omega
       calc (i.bytes : Int) * k ≤ 64 * k := Int.mul_le_mul_of_nonneg_right this (by omega)
        _ ≤ 281474976710656:=by omega
      have hr:=run_make (P:=P) w t e i zv he hi hzv .i64 .i64 n k k1 k2 hb (by omega)
      rw [hcells,hs1,Nat.mul_one] at hr
      refine goi_val hd (w' := w.alloc (.cells (madeCells #[zv] k.toNat) e)) (u := .slice (some ⟨w.heap.size, 0, none⟩) n.toNat k.toNat) ?_ k4 ((Grow.alloc _ w _)) ?_ (ow' := owNew ow w.heap.size d)
      ·simp [execOp,ho,e1,e2,hr]
      ·refine Gam.createOwn hG hd1 hsz (Grow.alloc _ w _) (fun b hb => owNew_old hb) (hG.hbNew _) ?_
       have hfz:FzL (okG lo (owNew ow w.heap.size d) (tagM 1 d)) (w.alloc (.cells (madeCells #[zv] k.toNat) e)) (List.replicate n.toNat z) (List.replicate n.toNat zv):=FzL.replicate (kOk1_sound hkk) _
       have := own_laid (lo := lo) (par := par) (ow' := owNew ow w.heap.size d) (d := d) (m := 1) (cs := List.replicate n.toNat z) (xs := List.replicate n.toNat zv) (e := e) (cap := k.toNat) (arr := madeCells #[zv] k.toNat) (w := w)
        owNew_new (by omega) (size_madeCells _ _) (by simp; omega) (by simp only [maxLen]; omega) (by rw [toList_madeCells_one]; simp; omega) hfz (fun _ => nilrow_deep fun x hx => by rw [(List.mem_replicate.1 hx).2]; exact kOk1_row hkk)
       simpa using this
     ·cases hz
    | _ => exact hk.elim
   | _ => exact hk.elim
  | _ => exact hk.elim
 | _ => exact hk.elim
end
end Go.Vc
namespace Go.Vc
open Go
section
variable {P:Program} {lo:Nat} {Xb:Nat → Prop} {par:Nat → Option Value} {ow ow':Ow} {tm tm':Array Value} {a:Act} {w w':World} {s s':St} {K:St → Prop} {oper:Oper}
def litChk (P : Program) (xs : List X) (op : Op) : Bool := match op with
 | .buildSlice t n ps => tyS1 P t && n == xs.length && decide (n ≤ 1000) && litOk 0 xs ps.toList && tyZ P t
 | _ => false
def owGive (ow:Ow) (x d:Nat):Ow:=fun b => if ow b = some (x,0) then some (d,1) else ow b
theorem owGive_none {x d b : Nat} : owGive ow x d b = none ↔ ow b = none := by
 unfold owGive; split
 ·rename_i h; simp [h]
 ·rfl
theorem owGive_ne {x d b:Nat} (h:ow b ≠ some (x,0)):owGive ow x d b = ow b:=by unfold owGive; rw [if_neg h]
theorem goesI_lit {d k : Nat} {xs : List X} (hG : Gam lo Xb par ow s a.tmps w) (hd : oper.dst = some d) (hd1 : d < 1000) (hsz : d < a.tmps.size) (ho : litChk P xs oper.op = true)
  (hk:wpI P (.lit d xs k) K s):GoI P lo Xb par a w K oper:=by
 unfold litChk at ho
 split at ho
 case h_2 => cases ho
 rename_i t n ps hop
 simp only [Bool.and_eq_true,beq_iff_eq,decide_eq_true_eq] at ho
 obtain ⟨⟨⟨⟨h1,hn⟩,hn2⟩,h2⟩,hz⟩:=ho
 obtain ⟨g1,g2⟩:=litOk_spec (a:=a) h2
 obtain ⟨l1,l2⟩:=xsOk_sound hG g1
 have hlen:((ps.toList.map (·.2)).map a.eval).length = xs.length:=by simpa using l1.symm
 rw [wpI_lit] at hk
 have lay : ∀ {g : G} {ts : List T} {m : Nat}, parts (xs.map s.look) = some (g, ts) → (m = 1 ∧ scalL ts) ∨ (m = 0 ∧ g = .fr) → K ((d, .own m (some false) ts) :: s.kill d) → GoI P lo Xb par a w K oper := by
  intro g ts m hp hm hK
  obtain ⟨f1,f2,f3,f4,f5⟩:=parts_spec l1 l2 hp
  obtain ⟨e,hr⟩:=lit_run (P:=P) (w:=w) hop h1 hn hn2 h2 hz f2 hlen
  have hts:ts.length = xs.length:=by rw [← hlen]; exact f1.length.symm
  refine goi_val hd hr hK (Grow.alloc _ w _) (ow':=owNew ow w.heap.size d) (Gam.createOwn hG hd1 hsz (Grow.alloc _ w _) (fun b hb => owNew_old hb) (hG.hbNew _) ?_)
  have htake : (((ps.toList.map (·.2)).map a.eval).toArray.toList).take ts.length = (ps.toList.map (·.2)).map a.eval := by
   simp only [List.take_of_length_le,hts,hlen,Nat.le_refl]
  have hx : FzL (okG lo (owNew ow w.heap.size d) (tagM m d)) (w.alloc (.cells ((ps.toList.map (·.2)).map a.eval).toArray e)) ts ((ps.toList.map (·.2)).map a.eval) := by
   rcases hm with ⟨rfl, hs⟩ | ⟨rfl, rfl⟩
   ·exact f1.scal hs
   ·exact FzL.imp (fun b hb hk => ⟨hk.grow (fun b hb => owNew_old hb) hb,(Grow.alloc (fun _ => False) w _).blk hb⟩) _ _ f1
  have := own_laid (lo := lo) (par := par) (ow' := owNew ow w.heap.size d) (d := d) (m := m) (cs := ts) (e := e) (cap := n) (w := w)
   owNew_new (by omega) (by rw [List.size_toArray, hlen, hn]) (by omega) (by simp only [maxLen]; omega) htake hx (fun hm1 => by
    rcases hm with ⟨rfl, hs⟩ | ⟨rfl, rfl⟩
    ·exact scal_deep hs f1
    ·cases hm1)
  rw [hn,← hts]
  rw [hn,← hts] at this
  exact this
 match k with
 | 0 =>
  rw [litK_0] at hk
  cases hp:parts (xs.map s.look) with
  | none => simp [hp,optK] at hk
  | some p => obtain ⟨g,ts⟩:=p; rw [hp,optK_s] at hk; exact lay hp (.inl ⟨rfl,hk.1⟩) hk.2
 | 2 =>
  rw [litK_2] at hk
  cases hp:parts (xs.map s.look) with
  | none => simp [hp,optK] at hk
  | some p => obtain ⟨g,ts⟩:=p; rw [hp,optK_s] at hk; exact lay hp (.inr ⟨rfl,hk.1⟩) hk.2
 | k + 3 => cases hw:xs.map s.look <;> rw [hw] at hk <;> exact hk.elim
 | 1 =>
  cases hw:xs.map s.look with
  | nil => rw [hw] at hk; exact hk.elim
  | cons wx ws =>
   cases ws with
   | cons _ _ => rw [hw] at hk; cases wx <;> exact hk.elim
   | nil =>
    rw [hw] at hk l1 l2
    cases wx with
    | own x m nl cs =>
     rw [litK_1] at hk
     obtain ⟨hdx,hm,hcs,hK⟩:=hk
     cases hps:(ps.toList.map (·.2)).map a.eval with
     | nil => rw [hps] at l1; simp at l1
     | cons u us =>
      have hus:us = []:=by rw [hps] at l1; simpa using l1.symm
      subst hus
      have hR:RepW lo par ow a.tmps w s (.own x m nl cs) u:=l2 0 _ _ (by simp) (by rw [hps]; simp)
      obtain ⟨hx,hlx,hnx,hO⟩:=hR
      have hone : u.oneCell' = true := by
       rcases hO.2 with ⟨rfl,_⟩ | ⟨_,b,cap,arr,ty,zs,rfl,_⟩ <;> rfl
      have f2:∀ v ∈ (ps.toList.map (·.2)).map a.eval,v.oneCell' = true:=by rw [hps]; simpa using hone
      obtain ⟨e,hr⟩:=lit_run (P:=P) (w:=w) hop h1 hn hn2 h2 hz f2 hlen
      rw [hps] at hr
      have hn1:n = 1:=by rw [hn,← hlen,hps]; rfl
      subst hn1
      have hg:Grow (fun _ => False) w (w.alloc (.cells #[u] e)):=Grow.alloc _ w _
      have hne : ∀ b, b < w.heap.size → ∀ p, ow b = some p → p ≠ (x, 0) → owNew (owGive ow x d) w.heap.size d b = some p := fun b hb p hp hne => by
       rw [owNew_old hb,owGive_ne (by rw [hp]; simpa using hne)]; exact hp
      have hng : ∀ b, b < w.heap.size → ow b = none → owNew (owGive ow x d) w.heap.size d b = none := fun b hb hp => by
       rw [owNew_old hb]; exact owGive_none.2 hp
      have hxd : hangs x d = false := by
       rw [hangs_false] at hdx ⊢
       refine ⟨fun e => hdx.1 e.symm,fun h => ?_⟩
       rw [Nat.mod_eq_of_lt hd1]; exact fun e => hdx.1 e.symm
      have hh : ∀ y, ¬ Hg [d, x] y → hangs d y = false ∧ hangs x y = false := fun y hy => by
       constructor
       ·rw [← Bool.not_eq_true]; exact fun h => hy ⟨d,by simp,h⟩
       ·rw [← Bool.not_eq_true]; exact fun h => hy ⟨x,by simp,h⟩
      have Kp : Keeps lo [d, x] ow (owNew (owGive ow x d) w.heap.size d) a.tmps (a.tmps.setIfInBounds d (.slice (some ⟨w.heap.size, 0, none⟩) 1 1)) w (w.alloc (.cells #[u] e)) s
        ([(d,.own 1 (some false) [.s nl cs]),(x,.t (.rw d) (.s nl cs))] ++ (s.kill d).kill x):=by
       refine Keeps.drop (fun p hp => ?_) hg.size (fun y hy => ?_) (fun z b hb hk => ⟨hne b hb _ hk (by simp), hg.blk hb⟩) (fun y hy _ u' hu => nmv_grow hg (by rw [nmv_put (hh y hy).1 hd1]; exact hu)) (fun y hy b hb r hk => ⟨hne b hb _ hk ?_, hg.blk hb⟩) (fun b hb hk => ⟨hng b hb hk, hg.blk hb⟩)
       ·simp at hp
        rcases hp with rfl | rfl
        ·exact ⟨d,by simp,hangs_self d⟩
        ·exact ⟨x,by simp,hangs_self x⟩
       ·obtain ⟨q1,q2⟩:=hh y hy
        rw [get_kill,get_kill]
        by_cases o1 : (s.get y).on d = true
        ·left; simp [o1]; rfl
        ·simp only [Bool.not_eq_true] at o1
         simp only [q1,o1,Bool.false_eq_true,or_self,if_false,q2,false_or]
         by_cases o2 : (s.get y).on x = true
         ·left; rw [if_pos o2]; rfl
         ·simp only [Bool.not_eq_true] at o2
          right; left
          rw [o2]; exact ⟨by simp,fun z hz => by simp at hz; rcases hz with rfl | rfl; exact o1; exact o2⟩
       ·intro e; cases e; have:=(hh x hy).2; rw [hangs_self] at this; cases this
      refine goi_val hd hr (by rw [take1_eq] at hK; exact hK) hg.any (ow' := owNew (owGive ow x d) w.heap.size d) (Gam.next hG Kp (fun b p hp => ?_) fun y hy hly hny => ?_)
      ·by_cases hlt : b < w.heap.size
       ·rw [owNew_old hlt] at hp
        have : ∃ q, ow b = some q := by
         cases e:ow b with
         | none => rw [owGive_none.2 e] at hp; cases hp
         | some q => exact ⟨q,rfl⟩
        obtain ⟨q,hq⟩:=this
        obtain ⟨_,q2⟩:=hG.base b q hq
        exact ⟨Nat.lt_of_lt_of_le hlt hg.size,q2⟩
       ·unfold owNew at hp
        split at hp
        ·rename_i hb; subst hb; exact ⟨by simp,.inl hG.low⟩
        ·unfold owGive at hp
         rw [hG.owNone (by omega)] at hp; simp at hp
      ·have hfx : Fz (okG lo (owNew (owGive ow x d) w.heap.size d) (.rw d)) (w.alloc (.cells #[u] e)) (.s nl cs) u := by
        rcases hO.2 with h | ⟨hnl, b, cap, arr, ty, zs, e1, ho', hb, hs', hl', hm', ht', hx', hd'⟩
        ·simp only [Fz]; exact .inl h
        ·have hbl:b < w.heap.size:=(Array.getElem?_eq_some_iff.1 hb).1
         simp only [Fz]
         refine .inr ⟨hnl, b, 0, none, cap, zs, e1, hl', hm', fun _ => ⟨?_, rfl⟩, hx'.scal hcs, fun k v hk => ?_⟩
         ·simp only [okG]; rw [owNew_old hbl]; unfold owGive; rw [if_pos ho']
         ·rw [World.cell?_of_block (w:=w) (hg.blk hbl),cell_of_row w b (0 + k) arr ty (0,0) hb]
          subst ht'
          rw [List.getElem?_take] at hk
          split at hk
          ·simpa using hk
          ·cases hk
       by_cases hyd : y = d
       ·subst hyd
        refine ⟨.slice (some ⟨w.heap.size,0,none⟩) 1 1,by rw [nmv_slot hd1]; simp [hsz],?_⟩
        have : St.get ([(y, V.own 1 (some false) [T.s nl cs]), (x, V.t (.rw y) (.s nl cs))] ++ (s.kill y).kill x) y = .own 1 (some false) [T.s nl cs] := by
         rw [List.cons_append,get_top]
        rw [this]
        have := own_laid (lo := lo) (par := par) (ow' := owNew (owGive ow x y) w.heap.size y) (d := y) (m := 1) (cs := [.s nl cs]) (xs := [u]) (e := e) (cap := 1) (arr := #[u]) (w := w)
         owNew_new (by omega) rfl (by simp) (by decide) rfl (by simp only [FzL]; exact ⟨u, [], rfl, hfx, rfl⟩) (fun _ => by
          refine ⟨fun i j b hi hj => ?_, fun i b hi => ?_⟩
          ·cases i with
           | zero =>
            cases j with
            | zero => rfl
            | succ j => simp at hj
           | succ i => simp at hi
          ·cases i with
           | succ i => simp at hi
           | zero =>
            simp at hi
            rcases hO.2 with h | ⟨hnl, b', cap, arr, ty, zs, e1, ho', hb, hsz', _⟩
            ·rw [h.1] at hi; cases hi
            ·rw [e1] at hi; cases hi
             have hbl:b' < w.heap.size:=(Array.getElem?_eq_some_iff.1 hb).1
             refine ⟨?_,arr,ty,cs.length,by rw [hg.blk hbl]; exact hb,by rw [hsz',e1]; rfl⟩
             rw [owNew_old hbl]; unfold owGive; rw [if_pos ho'])
        exact this
       ·by_cases hyx : y = x
        ·subst hyx
         refine ⟨u,nmv_grow hg (by rw [nmv_put (by rw [hangs_false] at hdx ⊢; exact hdx) hd1]; exact hnx),?_⟩
         have : St.get ([(d, V.own 1 (some false) [T.s nl cs]), (y, V.t (.rw d) (.s nl cs))] ++ (s.kill d).kill y) y = .t (.rw d) (.s nl cs) := by
          rw [List.cons_append,get_top_ne hyd,List.cons_append,get_top]
         rw [this]
         exact hfx
        ·exfalso
         have e0 : St.get ([(d, V.own 1 (some false) [T.s nl cs]), (x, V.t (.rw d) (.s nl cs))] ++ (s.kill d).kill x) y = ((s.kill d).kill x).get y := by
          rw [List.cons_append,get_top_ne hyd,List.cons_append,get_top_ne hyx]; rfl
         rw [e0] at hny
         obtain ⟨z,hz,hhz⟩:=hy
         simp at hz
         rcases hz with rfl | rfl
         ·rw [get_kill] at hny
          split at hny
          ·cases hny
          ·rw [get_kill,if_pos (.inl hhz)] at hny; cases hny
         ·rw [get_kill,if_pos (.inl hhz)] at hny; cases hny
    | _ => exact hk.elim
end
end Go.Vc
namespace Go.Vc
open Go
section
variable {P:Program} {lo:Nat} {Xb:Nat → Prop} {par:Nat → Option Value} {ow ow':Ow} {tm tm':Array Value} {a:Act} {w w':World} {s s':St} {K:St → Prop} {oper:Oper}
def CellRep (lo : Nat) (par : Nat → Option Value) (ow : Ow) (w : World) (y : Nat) : V → Value → Prop
 | .t g r,x => Fz (okG lo ow g) w r x
 | .own m nl cs,x => OwnAt lo par ow w y m nl cs x
 | _,_ => False
theorem Gam.mkBox {d n : Nat} {E : St} {arr : Array Value} {ty : TypeId} (h : Gam lo Xb par ow s tm w) (hk : Kd d s) (hd : d < 1000) (hsz : d < tm.size) (hn : arr.size = n)
  (hE:∀ p ∈ E,∃ j x,1 + j < 100 ∧ p.1 = d + 1000 * (1 + j) ∧ arr[j]? = some x ∧ CellRep lo par ow w (d + 1000 * (1 + j)) p.2 x) :
  Gam lo Xb par (owNew ow w.heap.size d) ((d,.bx n) :: (E ++ s)) (tm.setIfInBounds d (.pointer (some ⟨w.heap.size,0,none⟩))) (w.alloc (.cells arr ty)):=by
 have hg:Grow (fun _ => False) w (w.alloc (.cells arr ty)):=Grow.alloc _ w _
 have hh:∀ j,hangs d (d + 1000 * (1 + j)) = true:=fun j => hangs_iff.2 (.inr ⟨hd,by omega⟩)
 refine Gam.make (E := (d, .bx n) :: E) h hk hd hg (fun b hb => owNew_old hb) (h.hbNew _) (fun p hp => ?_) fun y hy hex hl hna => ?_
 ·rcases List.mem_cons.1 hp with rfl | hp
  ·exact hangs_self d
  ·obtain ⟨j,x,_,e,_⟩:=hE p hp; rw [e]; exact hh j
 ·by_cases hyd : y = d
  ·subst hyd
   refine ⟨.pointer (some ⟨w.heap.size,0,none⟩),by rw [nmv_slot hd]; simp [hsz],?_⟩
   rw [get_top]
   exact ⟨hd,w.heap.size,arr,ty,rfl,owNew_new,heap_alloc_new w _,hn⟩
  ·have hex' : ∃ p ∈ E, p.1 = y := by
    obtain ⟨p,hp,e⟩:=hex
    rcases List.mem_cons.1 hp with rfl | hp
    ·exact absurd e.symm hyd
    ·exact ⟨p,hp,e⟩
   obtain ⟨p,hp,e,hget⟩:=get_mem hex'
   obtain ⟨j,x,hj,e1,hx,hc⟩:=hE p hp
   rw [get_top_ne hyd,hget]
   refine ⟨x, ?_, ?_⟩
   ·rw [← e,e1]
    unfold nmv
    rw [if_neg (by omega),show (d + 1000 * (1 + j)) % 1000 = d from by omega]
    have:(tm.setIfInBounds d (.pointer (some ⟨w.heap.size,0,none⟩))).getD d undef = .pointer (some ⟨w.heap.size,0,none⟩):=by simp [hsz]
    rw [this]
    simp only
    rw [show (d + 1000 * (1 + j)) / 1000 = 1 + j from by omega,if_pos hj,show 1 + j - 1 = j from by omega,cell_of_row _ _ j arr ty (0,0) (heap_alloc_new w _)]
    exact hx
   ·have tg:∀ (g:G) (b:Nat),b < w.heap.size → okG lo ow g b → okG lo (owNew ow w.heap.size d) g b ∧ (w.alloc (.cells arr ty)).heap[b]? = w.heap[b]?:=fun g b hb hk => ⟨hk.grow (fun b hb => owNew_old hb) hb,hg.blk hb⟩
    rw [← e,e1]
    cases hv:p.2 with
    | t g r => rw [hv] at hc; exact Fz.imp (tg g) r x hc
    | own m nl cs =>
     rw [hv] at hc
     exact OwnAt.imp (fun b hb hk => ⟨by rw [owNew_old hb]; exact hk,hg.blk hb⟩) (tg _) hc
    | _ => rw [hv] at hc; exact hc.elim
theorem Gam.congr (h : Gam lo Xb par ow s tm w) (e : ∀ y, s'.get y = s.get y) : Gam lo Xb par ow s' tm w := by
 have e':St.get s' = St.get s:=funext e
 have el:St.lv s' = St.lv s:=by funext y; simp only [St.lv,e']
 refine ⟨h.base,h.low,fun y hl hn => ?_⟩
 rw [el] at hl
 rw [e'] at hn ⊢
 obtain ⟨u,h1,h2⟩:=h.ent y hl hn
 refine ⟨u,h1,?_⟩
 cases hv:s.get y <;> rw [hv] at h2 <;> simp only [Rep,e',el] at h2 ⊢ <;> exact h2
def kOkA : List T → List Value → Bool
 | [],[] => true
 | t :: ts,v :: vs => (match t with | .any => true | t => kOk1 t v) && kOkA ts vs
 | _,_ => false
theorem kOkA_sound {ok : Nat → Prop} : ∀ {ts : List T} {vs : List Value}, kOkA ts vs = true → FzL ok w ts vs
 | [],[],_ => by simp [FzL]
 | t :: ts, v :: vs, h => by
  simp only [kOkA,Bool.and_eq_true] at h
  simp only [FzL]
  refine ⟨v,vs,rfl,?_,kOkA_sound h.2⟩
  cases t with
  | any => simp [Fz]
  | _ => exact kOk1_sound h.1
 | [],_ :: _,h => by simp [kOkA] at h
 | _ :: _,[],h => by simp [kOkA] at h
def newChk (P : Program) (zs : List T) (op : Op) : Bool := match op with
 | .alloc e => (match P.info? e with | some i => (match i.zero with | some zv => kOkA zs zv.cells.toList && decide (zs.length < 90) | none => false) | none => false)
 | _ => false
theorem boxG_mem {g : G} {d : Nat} : ∀ {ts : List T} {j : Nat} {p : Nat × V}, p ∈ boxG g d j ts → ∃ i t, ts[i]? = some t ∧ p = (d + 1000 * (1 + (j + i)), V.mk g t)
 | [],_,_,h => by simp [boxG] at h
 | t :: ts, j, p, h => by
  simp only [boxG,List.mem_cons] at h
  rcases h with rfl | h
  ·exact ⟨0,t,rfl,rfl⟩
  ·obtain ⟨i,t',h1,h2⟩:=boxG_mem h
   exact ⟨i + 1,t',by simpa using h1,by rw [h2,show j + 1 + i = j + (i + 1) from by omega]⟩
theorem boxN_G {d : Nat} : ∀ {ts : List T} {j : Nat}, boxN d j ts = boxG .fr d j ts
 | [],_ => rfl
 | t :: ts,j => by simp only [boxN,boxG]; rw [boxN_G]
theorem mk_cell {g : G} {t : T} {y : Nat} {x : Value} (h : Fz (okG lo ow g) w t x) : CellRep lo par ow w y (V.mk g t) x := by
 cases t <;> simp only [V.mk,CellRep] <;> first | exact h | simpa [Fz] using h
theorem boxG_cells {g : G} {d : Nat} {ts : List T} {xs : List Value} (h : FzL (okG lo ow g) w ts xs) (hl : ts.length < 90) :
  ∀ p ∈ boxG g d 0 ts,∃ j x,1 + j < 100 ∧ p.1 = d + 1000 * (1 + j) ∧ xs.toArray[j]? = some x ∧ CellRep lo par ow w (d + 1000 * (1 + j)) p.2 x:=by
 intro p hp
 obtain ⟨i,t,h1,rfl⟩:=boxG_mem hp
 have hi:i < ts.length:=(List.getElem?_eq_some_iff.1 h1).1
 obtain ⟨x,hx,hf⟩:=h.get i hi
 refine ⟨i,x,by omega,by simp,by simpa using hx,?_⟩
 have:ts.getD i .any = t:=by rw [List.getD,h1]; rfl
 rw [this] at hf
 exact mk_cell hf
theorem new_goi {d : Nat} {zs : List T} (hG : Gam lo Xb par ow s a.tmps w) (hd : oper.dst = some d) (hd1 : d < 1000) (hsz : d < a.tmps.size) (ho : newChk P zs oper.op = true)
  (hk:wpI P (.new d zs) K s):GoI P lo Xb par a w K oper:=by
 rw [wpI_new] at hk
 unfold newChk at ho
 split at ho
 case h_2 => cases ho
 rename_i e hop
 split at ho
 case h_2 => cases ho
 rename_i i hi
 split at ho
 case h_2 => cases ho
 rename_i zv hz
 simp only [Bool.and_eq_true,decide_eq_true_eq] at ho
 have hf:FzL (okG lo ow .fr) w zs zv.cells.toList:=kOkA_sound ho.1
 refine goi_val hd (u := .pointer (some ⟨w.heap.size, 0, none⟩)) (w' := w.alloc (.cells zv.cells e)) ?_ hk (Grow.alloc _ w _)
  (Gam.mkBox (hG.kill d) (Kd.kill d s) hd1 hsz (by rw [← hf.length]; simp) (by
   rw [boxN_G]
   have:=boxG_cells (par:=par) (d:=d) hf ho.2
   simpa using this))
 simp [execOp,hop,Instr.alloc,zeroValue,typeInfo,hi,hz,newVar,newRow]
theorem box_goi {d : Nat} {x : X} {x' : Operand} {e : TypeId} (hG : Gam lo Xb par ow s a.tmps w) (hd : oper.dst = some d) (hd1 : d < 1000) (hsz : d < a.tmps.size) (ho : oper.op = .box e x') (hx : xOk x x' = true)
  (hna:∀ y n ts,s.look x ≠ .ag y n ts) (hk:wpI P (.box d x) K s):GoI P lo Xb par a w K oper:=by
 have r1:=xOk_sound hG hx
 have hk:boxK d s K (s.look x):=by cases x <;> exact hk
 generalize s.look x = wx at r1 hk hna
 have fin : ∀ {E s1 : St} {ow1 : Ow} {n : Nat}, K ((d, .bx n) :: (E ++ s1)) → Gam lo Xb par ow1 s1 a.tmps w → Kd d s1 → (a.eval x').cells.size = n →
   (∀ p ∈ E,∃ j v,1 + j < 100 ∧ p.1 = d + 1000 * (1 + j) ∧ (a.eval x').cells[j]? = some v ∧ CellRep lo par ow1 w (d + 1000 * (1 + j)) p.2 v) → GoI P lo Xb par a w K oper:=by
  intro E s1 ow1 n hK h1 hkd hn hE
  refine goi_val hd (u:=.pointer (some ⟨w.heap.size,0,none⟩)) (w':=w.alloc (.cells (a.eval x').cells e)) ?_ hK (Grow.alloc _ w _) (Gam.mkBox h1 hkd hd1 hsz hn hE)
  simp [execOp,ho,Instr.box,newVar,newRow]
 cases wx with
 | t g r =>
  have one : r.one = true → K ((d, .bx 1) :: (d + 1000, .t g r) :: s.kill d) → GoI P lo Xb par a w K oper := by
   intro h1 hK
   have hc:=oneCell_cells (Fz.one (r1:Fz _ _ _ _) (by cases r <;> first | exact h1 | (simp [T.one] at h1 ⊢; done)))
   refine fin (E:=[(d + 1000,.t g r)]) hK (hG.kill d) (Kd.kill d s) (by rw [hc]; rfl) fun p hp => ?_
   simp at hp; subst hp
   exact ⟨0,a.eval x',by omega,rfl,by rw [hc]; rfl,r1⟩
  cases r with
  | a fs =>
   rw [boxK_a] at hk
   have hf:∃ xs:List Value,a.eval x' = .agg xs.toArray ∧ FzL (okG lo ow g) w fs xs:=r1
   obtain ⟨xs,e1,e2⟩:=hf
   refine fin hk.2 (hG.kill d) (Kd.kill d s) (by rw [e1]; simp [Value.cells,e2.length]) ?_
   rw [e1]
   exact boxG_cells e2 hk.1
  | any => simp [boxK,T.one] at hk
  | u vs => simp [boxK,T.one] at hk
  | i n => rw [boxK_i] at hk; exact one rfl hk
  | b n => rw [boxK_b] at hk; exact one rfl hk
  | s nl cs => rw [boxK_s] at hk; exact one rfl hk
  | q cs k => rw [boxK_q] at hk; exact one rfl hk
  | c f cs => rw [boxK_c] at hk; exact one rfl hk
  | w k n => exact one rfl (by simpa [boxK,T.one] using hk)
  | xv u t => exact one hk.1 hk.2
 | own z m nl cs =>
  rw [boxK_o] at hk
  obtain ⟨hdz,hm,hK⟩:=hk
  obtain ⟨hz,hlz,hnz,hO⟩:=r1
  have hone : (a.eval x').oneCell' = true := by
   rcases hO.2 with ⟨h,_⟩ | ⟨_,b,cap,arr,ty,zs,h,_⟩ <;> rw [h] <;> rfl
  have hc:=oneCell_cells hone
  have hzd : hangs z d = false := by
   rw [hangs_false] at hdz ⊢
   exact ⟨fun e => hdz.1 e.symm,fun h => by rw [Nat.mod_eq_of_lt hd1]; exact fun e => hdz.1 e.symm⟩
  have hz2 : hangs z (d + 1000) = false := by
   rw [hangs_false] at hdz ⊢
   exact ⟨fun e => hdz.2 hd1 (by omega),fun h e => hdz.1 (by omega)⟩
  have hdz2 : hangs (d + 1000) z = false := by
   rw [hangs_false]
   exact ⟨fun e => by rw [hangs_false] at hdz; exact hdz.2 hd1 (by omega),fun h => by omega⟩
  have h1:=hG.kill d
  have Kp : Keeps lo [d + 1000, z] ow (owMove ow z (d + 1000)) a.tmps a.tmps w w (s.kill d) ([] ++ St.rtL [z] (d + 1000) ((s.kill d).kill (d + 1000))) :=
   Keeps.absorb h1 (by simpa using hdz2) (by simpa using hz2) (by simp) (by simp) (fun _ _ _ => rfl) (Nat.le_refl _) (fun _ _ => rfl) (fun _ _ _ => rfl)
  have kk : ∀ y, ((s.kill d).kill (d + 1000)).get y = (s.kill d).get y := by
   intro y
   rw [get_kill]
   split
   ·rename_i hq
    rcases hq with hq | hq
    ·rw [hangs_iff] at hq
     rcases hq with rfl | ⟨hq, _⟩
     ·rw [get_kill,if_pos (.inl (hangs_iff.2 (.inr ⟨hd1,by omega⟩)))]
     ·omega
    ·exfalso
     rw [get_kill] at hq
     split at hq
     ·cases hq
     ·rename_i hq'
      simp only [not_or,Bool.not_eq_true] at hq'
      have : ∀ {c : Nat}, hangs (d + 1000) c = true → hangs d c = true := fun hc => by
       rw [hangs_iff] at hc ⊢; rcases hc with rfl | ⟨hc, _⟩
       ·exact .inr ⟨hd1,by omega⟩
       ·omega
      have hno:=V.not_on hq'.2
      revert hq hno
      cases s.get y with
      | t g r => cases g <;> simp only [V.on,G.on,V.ment,Bool.false_eq_true,false_imp_iff] <;> intro h1 h2 <;> rw [this h1] at h2 <;> cases h2
      | al q => simp only [V.on,V.ment]; intro h1 h2; rw [this h1] at h2; cases h2
      | pc q => simp only [V.on,V.ment]; intro h1 h2; rw [this h1] at h2; cases h2
      | pe q j => simp only [V.on,V.ment]; intro h1 h2; rw [this h1] at h2; cases h2
      | er q j => simp only [V.on,V.ment]; intro h1 h2; rw [this h1] at h2; cases h2.1
      | sl q j h => simp only [V.on,V.ment]; intro h1 h2; rw [this h1] at h2; cases h2
      | bv q => simp only [V.on,V.ment]; intro h1 h2; rw [this h1] at h2; cases h2.1
      | fo q nl cs => simp only [V.on,V.ment,G.on]; intro h1 h2; rw [this h1] at h2; cases h2
      | clo f cp =>
       simp only [V.on,V.ment]
       intro h1 h2
       obtain ⟨c,hc,h1⟩:=List.any_eq_true.1 h1
       have h2:=h2 c hc
       cases c with
       | p q => simp only [Cap.on,Cap.ment] at h1 h2; rw [this h1] at h2; cases h2
       | t g r => cases g <;> simp only [Cap.on,Cap.ment,G.on,Bool.false_eq_true] at h1 h2 <;> rw [this h1] at h2 <;> cases h2
      | _ => simp [V.on]
   ·rfl
  have h2 : Gam lo Xb par (owMove ow z (d + 1000)) (((s.kill d).kill (d + 1000)).rt z (d + 1000)) a.tmps w := by
   refine Gam.next (ds := [d + 1000, z]) h1 Kp (fun b p hp => ?_) fun y hy hl hn => ?_
   ·obtain ⟨q,hq⟩:=owMove_some hp; exact hG.base b q hq
   ·exfalso
    have : ((St.rtL [z] (d + 1000) ((s.kill d).kill (d + 1000))).get y).isAny = true := by
     refine rtL_hang ?_
     obtain ⟨q,hq,hh⟩:=hy
     simp at hq
     rcases hq with rfl | rfl
     ·right; rw [get_kill,if_pos (.inl hh)]; rfl
     ·exact .inl ⟨q,by simp,hh⟩
    exact absurd (this.symm.trans hn) (by simp)
  have h3:Gam lo Xb par (owMove ow z (d + 1000)) ((s.kill d).rt z (d + 1000)) a.tmps w:=h2.congr fun y => by rw [get_rt,get_rt,kk]
  refine fin (E:=[(d + 1000,.own m nl cs)]) hK h3 (Kd.kill d s).rt (by rw [hc]; rfl) fun p hp => ?_
  simp at hp; subst hp
  exact ⟨0,a.eval x',by omega,rfl,by rw [hc]; rfl,OwnAt.ren hm (fun b r hb => owMove_self hb) (fun b hb => owMove_none.2 hb) hO⟩
 | ag y n ts => exact absurd rfl (hna y n ts)
 | _ => exact hk.elim
theorem co_goi {d f : Nat} {ts : List T} {vs : List Value} {R : St} (hG : Gam lo Xb par ow s a.tmps w) (hd : oper.dst = some d) (hd1 : d < 1000) (hsz : d < a.tmps.size)
  (hr:(execOp a.eval oper).run P w = (callFunc f vs.toArray).run P w) (hc:CallOk P f ts R) (hv:FzL (fun _ => True) w ts vs) (hk:K (R.shift d ++ s.kill d)):GoI P lo Xb par a w K oper:=by
 intro next Q N
 unfold Oper.wp
 rw [hr,hc.1]
 simp only [Oper.upon]
 refine (hc.2 w vs hv).mono ?_
 rintro e w' ⟨u,rfl,hg,hRg,ow2,hR⟩
 simp only
 rw [hd,put_some]
 let ow':Ow:=fun b => if b < w.heap.size then ow b else (ow2 b).map fun p => (p.1 + d,p.2)
 have ho:∀ b,b < w.heap.size → ow' b = ow b:=fun b hb => if_pos hb
 have hnew:∀ b,w.heap.size ≤ b → ow' b = (ow2 b).map fun p => (p.1 + d,p.2):=fun b hb => if_neg (by omega)
 have h2 : ∀ b p, ow2 b = some p → w.heap.size ≤ b ∧ b < w'.heap.size := fun b p hp => by
  obtain ⟨q1,q2⟩:=hR.base b p hp
  rcases q2 with q2 | q2
  ·exact ⟨q2,q1⟩
  ·exact q2.elim
 have h2n:∀ b,ow2 b = none → w.heap.size ≤ b → ow' b = none:=fun b hb hl => by rw [hnew b hl,hb]; rfl
 refine N _ _ w' ow' hk hg.any (Gam.make (hG.kill d) (Kd.kill d s) hd1 hg ho (fun b p hb hp => ?_) (fun p hp => ?_) fun y hy hex hl hna => ?_) (by simp) rfl
 ·rw [hnew b hb] at hp
  cases e:ow2 b with
  | none => rw [e] at hp; cases hp
  | some q => exact ⟨(h2 b q e).2,.inl (Nat.le_trans hG.low hb)⟩
 ·have hk : ∀ {R : St}, RGood R → ∀ p ∈ R.shift d, hangs d p.1 = true := by
   intro R
   induction R with
   | nil => intro _ p hp; simp [St.shift] at hp
   | cons q R ih =>
    intro hg p hp
    obtain ⟨k,v⟩:=q
    simp only [St.shift,List.mem_cons] at hp
    rcases hp with rfl | hp
    ·have:=(hg (k,v) (by simp)).1
     exact hangs_iff.2 (.inr ⟨hd1,by simp only at this ⊢; omega⟩)
    ·exact ih (fun q hq => hg q (by simp [hq])) p hp
  exact hk hRg p hp
 ·have hget : ∀ {R : St} {k : Nat}, (R.shift d).get (k + d) = R.get k := by
   intro R
   induction R with
   | nil => intro k; rfl
   | cons q R ih =>
    intro k
    obtain ⟨j,v⟩:=q
    simp only [St.shift]
    rw [get_if,get_if,ih]
    by_cases hjk : j = k
    ·rw [if_pos hjk,if_pos (by omega)]
    ·rw [if_neg hjk,if_neg (by omega)]
  obtain ⟨k,rfl⟩:∃ k,y = k + d:=⟨y - d,by have:=hangs_le hy; omega⟩
  have hk1:k % 1000 = 0:=by rw [hangs_iff] at hy; rcases hy with hy | ⟨_,hy⟩ <;> omega
  rw [hget] at hna ⊢
  have hin : ∃ p ∈ R, p.1 = k := by
   refine Classical.byContradiction fun hno => ?_
   rw [get_none (fun p hp e => hno ⟨p,hp,e⟩)] at hna; cases hna
  obtain ⟨p,hp,e1,e2⟩:=get_mem hin
  obtain ⟨_,hgood⟩:=hRg p hp
  have hlv : R.lv k = true := by
   rw [lv_iff] at hl ⊢
   rcases hl with hl | hl
   ·exact .inl (by omega)
   ·by_cases hk0 : k = 0
    ·exact .inl (by omega)
    ·rw [show (k + d) % 1000 = 0 + d from by omega] at hl
     by_cases h0 : ∃ p ∈ R, p.1 = 0
     ·have : ∃ p ∈ R.shift d, p.1 = 0 + d := by
       clear hR hl hna e2 hp hk hc hgood hex hin hRg
       induction R with
       | nil => obtain ⟨p,hp,_⟩:=h0; simp at hp
       | cons q R ih =>
        obtain ⟨j,v⟩:=q
        simp only [St.shift]
        obtain ⟨p,hp,e⟩:=h0
        rcases List.mem_cons.1 hp with rfl | hp
        ·exact ⟨_,by simp; left; rfl,by simp at e ⊢; omega⟩
        ·obtain ⟨r,hr1,hr2⟩:=ih ⟨p,hp,e⟩
         exact ⟨r,by simp [hr1],hr2⟩
      rw [get_append_yes this,hget] at hl
      right; rw [hk1]; exact hl
     ·exfalso
      have : ∀ p ∈ R.shift d, p.1 ≠ 0 + d := by
       clear hR hl hna e2 hp hk hc hgood hex hin hRg
       induction R with
       | nil => intro p hp; simp [St.shift] at hp
       | cons q R ih =>
        obtain ⟨j,v⟩:=q
        intro p hp
        simp only [St.shift,List.mem_cons] at hp
        rcases hp with rfl | hp
        ·intro e; exact h0 ⟨(j,v),by simp,by simp at e ⊢; omega⟩
        ·exact ih (fun ⟨p,hp,e⟩ => h0 ⟨p,by simp [hp],e⟩) p hp
      rw [get_app this,get_kill,if_pos (.inl (by rw [Nat.zero_add]; exact hangs_self d))] at hl
      cases hl
  obtain ⟨x,hx,hr⟩:=hR.ent k hlv hna
  refine ⟨x, ?_, ?_⟩
  ·unfold nmv at hx ⊢
   by_cases hk0 : k = 0
   ·subst hk0
    simp only [Nat.zero_add,hd1,if_true]
    have:(0:Nat) < 1000:=by omega
    rw [if_pos this] at hx
    have hx:u = x:=by simpa using hx
    simp [hsz,hx]
   ·rw [if_neg (by omega)] at hx ⊢
    rw [hk1] at hx
    rw [show (k + d) % 1000 = d from by omega,show (k + d) / 1000 = k / 1000 from by omega]
    have h1:(a.tmps.setIfInBounds d u).getD d undef = u:=by simp [hsz]
    have h2:(#[u]:Array Value).getD 0 undef = u:=rfl
    rw [h1]; rw [h2] at hx; exact hx
  ·have tgf:∀ b,b < w'.heap.size → okG w.heap.size ow2 .fr b → okG lo ow' .fr b ∧ w'.heap[b]? = w'.heap[b]?:=fun b _ hb => ⟨⟨h2n b hb.1 hb.2,Nat.le_trans hG.low hb.2⟩,rfl⟩
   have own:∀ b r,ow2 b = some (k,r) → ow' b = some (k + d,r):=fun b r hb => by rw [hnew b (h2 b _ hb).1,hb]; rfl
   rw [e2] at hr ⊢
   cases hv:p.2 with
   | t g r =>
    rw [hv] at hr hgood
    cases g with
    | fr => exact Fz.imp tgf r x hr
    | _ => exact hgood.elim
   | own m nl cs =>
    rw [hv] at hr hgood
    simp only at hgood
    refine ⟨fun h => absurd h (by omega),?_⟩
    rcases hr.2 with h | ⟨hn, b, cap, arr, ty, xs, e, ho1, hb, hs, hl1, hmx, ht, hx1, hd2⟩
    ·exact .inl h
    ·refine .inr ⟨hn, b, cap, arr, ty, xs, e, own b 0 ho1, hb, hs, hl1, hmx, ht, ?_, fun hm1 => ?_⟩
     ·have:m = 0 ∨ m = 1:=by omega
      rcases this with rfl | rfl
      ·exact FzL.imp tgf cs xs hx1
      ·exact FzL.imp (fun b _ hb => ⟨own b 1 hb,rfl⟩) cs xs hx1
     ·obtain ⟨q1,q2⟩:=hd2 hm1
      exact ⟨q1,fun i b hi => by obtain ⟨z1,z2⟩:=q2 i b hi; exact ⟨own b 1 z1,z2⟩⟩
   | tp n => rw [hv] at hr; exact ⟨by have:=hr.1; omega,hr.2⟩
   | ag n => rw [hv] at hr; exact ⟨by have:=hr.1; omega,hr.2⟩
   | _ => rw [hv] at hgood; exact hgood.elim
end
end Go.Vc
