/-
  Own work, laid by a program of the author's: effects keep what a state says. No condition.
-/
import Derived.Test.YtllcbempbdibhaaV2
import Derived.Laws.CopyRow
import Derived.StillTail
set_option linter.unusedSimpArgs false
set_option linter.unusedVariables false
namespace Go.Vc
open Go
section
variable {P:Program} {lo:Nat} {Xb:Nat → Prop} {par:Nat → Option Value} {ow ow':Ow} {tm tm':Array Value} {a:Act} {w w':World} {s s':St} {K:St → Prop} {oper:Oper}
theorem own_apart {y z m m' : Nat} {nl nl' : Option Bool} {cs cs' : List T} (hy : s.get y = .own m nl cs) (hz : s.get z = .own m' nl' cs') (hl : s.lv z = true) (hne : y ≠ z) : hangs y z = false := by
 rw [hangs_false]
 refine ⟨fun e => hne e.symm,fun h1 e => ?_⟩
 rw [lv_iff] at hl
 rcases hl with hl | hl
 ·omega
 ·rw [e,hy] at hl; cases hl
theorem off_sym {d y : Nat} (hd : d < 1000) (h : hangs d y = false) : hangs y d = false := by
 rw [hangs_false] at h ⊢
 exact ⟨fun e => h.1 e.symm,fun h1 e => by rw [Nat.mod_eq_of_lt hd] at e; exact h.1 e.symm⟩
theorem one_cells {ok : Nat → Prop} {xs : List T} {news : List Value} (h : FzL ok w xs news) (h1 : ∀ t ∈ xs, t.scal ∨ t.one = true) : ∀ v ∈ news, v.oneCell' = true := by
 intro v hv
 obtain ⟨k,hk,e⟩:=List.getElem_of_mem hv
 have hk':k < xs.length:=by rw [← h.length]; exact hk
 obtain ⟨x,hx,hf⟩:=h.get k hk'
 have:x = v:=by rw [List.getElem?_eq_getElem hk,e] at hx; exact (Option.some.inj hx).symm
 subst this
 have hm:xs.getD k .any ∈ xs:=by rw [List.getD,List.getElem?_eq_getElem hk']; exact List.getElem_mem hk'
 have hor:=h1 _ hm
 revert hf hor
 generalize xs.getD k .any = t
 intro hf hor
 refine hf.one ?_
 rcases hor with h | h <;> cases t <;> first | exact h | (simp [T.scal,T.one] at h ⊢; done)
theorem Gam.app {d mr : Nat} {zs : List Nat} {nl : Option Bool} {cs xs : List T} {news olds : List Value} {u : Value} {b0 : Option Nat} (h : Gam lo Xb par ow s tm w) (hd : d < 1000) (hsz : d < tm.size)
  (hzd:∀ z ∈ zs,hangs d z = false) (hzz:∀ z ∈ zs,∀ z' ∈ zs,z ≠ z' → hangs z z' = false) (hy:∀ b,b0 = some b → ∃ z,z ∈ zs ∧ ow b = some (z,0))
  (hr:AppRes w w' b0 olds news u) (hmr:mr < 10) (hl:olds.length = cs.length) (hxl:news.length = xs.length) (hnl:b0 = none → nl ≠ some false) (hb0:∀ b,b0 = some b → nl ≠ some true)
  (hold : ∀ {ow' : Ow} {w1 : World}, (∀ b, b < w.heap.size → ow' b = owL zs d ow b) → w.heap.size ≤ w1.heap.size → (∀ b, b < w.heap.size → (∀ z ∈ zs, ow b ≠ some (z, 0)) → w1.heap[b]? = w.heap[b]?) →
   FzL (okG lo ow' (tagM mr d)) w1 cs olds ∧ FzL (okG lo ow' (tagM mr d)) w1 xs news ∧ (mr % 10 = 1 → DeepR ow' d w1 (veil (cs ++ xs) (olds ++ news)))) :
  ∃ ow',Gam lo Xb par ow' ((d,.own mr (nlApp nl xs) (cs ++ xs)) :: St.rtL zs d (s.kill d)) (tm.setIfInBounds d u) w' ∧ Grow (fun k => lo ≤ k ∨ Xb k) w w':=by
 have hzd':∀ z ∈ zs,hangs z d = false:=fun z hz => off_sym hd (hzd z hz)
 have hnl' : ∀ nl', (xs = [] → nl' = nl) → (xs ≠ [] → nl' = some false) → nlApp nl xs = nl' := fun nl' h1 h2 => by
  unfold nlApp
  cases xs with
  | nil => simpa using (h1 rfl).symm
  | cons x xs => simpa using (h2 (by simp)).symm
 rcases hr with ⟨hu, hnil, hbn, rfl⟩ | ⟨b, cap, arr, ty, hu, hb, hs, hle, hm, ht, hcase⟩
 ·have h1:olds = [] ∧ news = []:=List.append_eq_nil_iff.1 hnil
  have hcs:cs = []:=List.eq_nil_of_length_eq_zero (by rw [← hl,h1.1]; rfl)
  have hxs:xs = []:=List.eq_nil_of_length_eq_zero (by rw [← hxl,h1.2]; rfl)
  refine ⟨owL zs d ow, Gam.absorb h hd hsz hzd hzd' hzz (Nat.le_refl _) (fun _ _ => rfl) (fun b p hb hp => ?_) (fun _ _ _ => rfl) ⟨fun h => absurd h (by omega), .inl ⟨hu, by rw [hcs, hxs]; rfl, ?_⟩⟩, Grow.refl _ _⟩
  ·obtain ⟨q,hq⟩:=owL_some hp
   exact absurd (h.base b q hq).1 (by omega)
  ·rw [hnl' nl (fun _ => rfl) (fun h => absurd hxs h)]; exact hnl hbn
 ·have hlen:(cs ++ xs).length = (olds ++ news).length:=by simp [hl,hxl]
  have fin : ∀ ow' : Ow, (∀ b, b < w.heap.size → ow' b = owL zs d ow b) → ow' b = some (d, 0) → w.heap.size ≤ w'.heap.size → (∀ b, b < w.heap.size → (∀ z ∈ zs, ow b ≠ some (z, 0)) → w'.heap[b]? = w.heap[b]?) →
    OwnAt lo par ow' w' d mr (nlApp nl xs) (cs ++ xs) u:=by
   intro ow' ho hbd hsize hw
   obtain ⟨f1,f2,f3⟩:=hold ho hsize hw
   refine ⟨fun h => absurd h (by omega),.inr ⟨?_,b,cap,arr,ty,olds ++ news,by rw [hu,hlen],hbd,hb,hs,by rw [hlen]; exact hle,hm,by rw [hlen]; exact ht,f1.app f2,f3⟩⟩
   cases xs with
   | nil =>
    rw [hnl' nl (fun _ => rfl) (fun h => absurd rfl h)]
    rcases hcase with ⟨h0, _⟩ | ⟨_, h0, _⟩
    ·exact hb0 b h0
    ·exact absurd (List.eq_nil_of_length_eq_zero (by rw [hxl]; rfl)) h0
   | cons x xs => simp [nlApp]
  rcases hcase with ⟨h0, hg, hsz'⟩ | ⟨hbn, _, hg, hsz'⟩
  ·obtain ⟨z,hz,hbz⟩:=hy b h0
   have hblt:b < w.heap.size:=(h.base b _ hbz).1
   have hw:∀ b',b' < w.heap.size → (∀ z ∈ zs,ow b' ≠ some (z,0)) → w'.heap[b']? = w.heap[b']?:=fun b' hb' hno => hg.block b' hb' (by rintro rfl; exact hno z hz hbz)
   refine ⟨owL zs d ow, Gam.absorb h hd hsz hzd hzd' hzz hg.size (fun _ _ => rfl) (fun b p hb hp => ?_) hw (fin _ (fun _ _ => rfl) (owL_mem hzd' (fun z1 h1 hne => hzz z1 h1 z hz hne) hz hbz) hg.size hw), hg.mono fun k hk e => ?_⟩
   ·obtain ⟨q,hq⟩:=owL_some hp
    exact absurd (h.base b q hq).1 (by omega)
   ·rw [e]; exact (h.base b _ hbz).2
  ·have hw:∀ b',b' < w.heap.size → (∀ z ∈ zs,ow b' ≠ some (z,0)) → w'.heap[b']? = w.heap[b']?:=fun b' hb' _ => hg.blk hb'
   have ho:∀ b',b' < w.heap.size → owNew (owL zs d ow) w.heap.size d b' = owL zs d ow b':=fun b' hb' => owNew_old hb'
   refine ⟨owNew (owL zs d ow) w.heap.size d,Gam.absorb h hd hsz hzd hzd' hzz hg.size ho (fun b' p hb' hp => ?_) hw (fin _ ho (by rw [hbn]; exact owNew_new) hg.size hw),hg.any⟩
   unfold owNew at hp
   split at hp
   ·rename_i e; rw [e]; exact ⟨by rw [hsz']; omega,.inl h.low⟩
   ·obtain ⟨q,hq⟩:=owL_some hp
    exact absurd (h.base b' q hq).1 (by omega)
end
end Go.Vc
namespace Go.Vc
open Go
section
variable {P:Program} {lo:Nat} {Xb:Nat → Prop} {par:Nat → Option Value} {ow ow':Ow} {tm tm':Array Value} {a:Act} {w w' w1:World} {s s':St} {K:St → Prop} {oper:Oper}
theorem tag_app {zs : List Nat} {y d m : Nat} (hzd' : ∀ z ∈ zs, hangs z d = false) (hzz : ∀ z ∈ zs, ∀ z' ∈ zs, z ≠ z' → hangs z z' = false) (hy : y ∈ zs) (ho : ∀ b, b < w.heap.size → ow' b = owL zs d ow b)
  (hw:∀ b,b < w.heap.size → (∀ z ∈ zs,ow b ≠ some (z,0)) → w1.heap[b]? = w.heap[b]?) {b:Nat} (hb:b < w.heap.size) (hk:okG lo ow (tagM m y) b):okG lo ow' (tagM (m % 10) d) b ∧ w1.heap[b]? = w.heap[b]?:=by
 unfold tagM at hk ⊢
 rw [Nat.mod_mod]
 by_cases m1 : (m % 10 == 1) = true
 ·simp only [m1,cond_true,okG] at hk ⊢
  rw [ho b hb]
  exact ⟨owL_mem hzd' (fun z hz hne => hzz z hz y hy hne) hy hk,hw b hb fun z _ e => by rw [hk] at e; cases e⟩
 ·simp only [Bool.not_eq_true] at m1
  simp only [m1,cond_false] at hk ⊢
  by_cases m0 : (m % 10 == 0) = true
  ·simp only [m0,cond_true,okG] at hk ⊢
   rw [ho b hb]
   exact ⟨⟨owL_none.2 hk.1,hk.2⟩,hw b hb fun z _ e => by rw [hk.1] at e; cases e⟩
  ·simp only [Bool.not_eq_true] at m0
   simp only [m0,cond_false,okG] at hk ⊢
   rw [ho b hb]
   exact ⟨owL_none.2 hk,hw b hb fun z _ e => by rw [hk] at e; cases e⟩
theorem deep_app {y d : Nat} {olds news : List Value} (h1 : DeepR ow y w olds) (ht : ∀ b, b < w.heap.size → ow b = some (y, 1) → ow' b = some (d, 1) ∧ w1.heap[b]? = w.heap[b]?)
  (b1:∀ i j b:Nat,(news[i]?).bind rowBlk = some b → (news[j]?).bind rowBlk = some b → i = j)
  (b2:∀ i b:Nat,(news[i]?).bind rowBlk = some b → ow b ≠ some (y,1) ∧ ow' b = some (d,1) ∧ ∃ arr ty len,w1.heap[b]? = some (.cells arr ty (0,0)) ∧ news[i]? = some (.slice (some ⟨b,0,none⟩) len arr.size)):DeepR ow' d w1 (olds ++ news):=by
 obtain ⟨a1,a2⟩:=h1
 have get : ∀ i b, ((olds ++ news)[i]?).bind rowBlk = some b → (i < olds.length ∧ (olds[i]?).bind rowBlk = some b) ∨ (olds.length ≤ i ∧ (news[i - olds.length]?).bind rowBlk = some b) := by
  intro i b h
  by_cases hi : i < olds.length
  ·rw [List.getElem?_append_left hi] at h; exact .inl ⟨hi,h⟩
  ·rw [List.getElem?_append_right (by omega)] at h; exact .inr ⟨by omega,h⟩
 refine ⟨fun i j b hi hj => ?_, fun i b hi => ?_⟩
 ·rcases get i b hi with ⟨i1, i2⟩ | ⟨i1, i2⟩ <;> rcases get j b hj with ⟨j1, j2⟩ | ⟨j1, j2⟩
  ·exact a1 i j b i2 j2
  ·exact absurd (a2 i b i2).1 (b2 _ b j2).1
  ·exact absurd (a2 j b j2).1 (b2 _ b i2).1
  ·have:=b1 _ _ b i2 j2; omega
 ·rcases get i b hi with ⟨i1, i2⟩ | ⟨i1, i2⟩
  ·obtain ⟨e1,arr,ty,len,e2,e3⟩:=a2 i b i2
   obtain ⟨f1,f2⟩:=ht b (Array.getElem?_eq_some_iff.1 e2).1 e1
   exact ⟨f1,arr,ty,len,f2.trans e2,by rw [List.getElem?_append_left i1]; exact e3⟩
  ·obtain ⟨f1,arr,ty,len,e2,e3⟩:=(b2 _ b i2).2
   exact ⟨f1,arr,ty,len,e2,by rw [List.getElem?_append_right i1]; exact e3⟩
theorem scal_norow {ok : Nat → Prop} {cs : List T} {xs : List Value} (hs : scalL cs) (h : FzL ok w cs xs) (i b : Nat) : (xs[i]?).bind rowBlk ≠ some b := by
 intro e
 cases hx:xs[i]? with
 | none => rw [hx] at e; cases e
 | some v =>
  rw [hx] at e
  have hi:i < cs.length:=by rw [← h.length]; exact (List.getElem?_eq_some_iff.1 hx).1
  obtain ⟨v',hv',hf⟩:=h.get i hi
  rw [hx] at hv'; cases hv'
  have hm:cs.getD i .any ∈ cs:=by rw [List.getD,List.getElem?_eq_getElem hi]; exact List.getElem_mem hi
  have:=scal_rowBlk (hs _ hm) hf
  simp [this] at e
theorem deep_nil {y:Nat}:DeepR ow y w []:=nilrow_deep (by simp)
def appChk (P : Program) (x e : X) (op : Op) : Bool := match op with
 | .call { callee:=.builtin .append,args:=ys,argTypes:=ts } => (match ys.toList,ts.toList with | [x',e'],[t,t'] => t == t' && tyA P t && xOk x x' && xOk e e' | _,_ => false)
 | _ => false
structure Base (lo : Nat) (ow : Ow) (w : World) (y : Option Nat) (m : Nat) (nl : Option Bool) (cs : List T) (hdr : Value) (olds : List Value) (b0 : Option Nat) : Prop where
 hh:(hdr = .slice none 0 0 ∧ olds = [] ∧ b0 = none) ∨ ∃ b cap arr ty,hdr = .slice (some ⟨b,0,none⟩) olds.length cap ∧ b0 = some b ∧ w.heap[b]? = some (.cells arr ty (0,0)) ∧ arr.size = cap ∧ olds.length ≤ cap ∧ cap ≤ maxLen ∧ arr.toList.take olds.length = olds
 len:olds.length = cs.length
 blk:∀ b,b0 = some b → ∃ z,y = some z ∧ ow b = some (z,0)
 nl1:b0 = none → nl ≠ some false
 nl2:∀ b,b0 = some b → nl ≠ some true
 rows:∀ z,y = some z → FzL (okG lo ow (tagM m z)) w cs olds ∧ (m % 10 = 1 → DeepR ow z w (veil cs olds))
 no:y = none → cs = []
theorem base_ok {q : Option Nat × Nat × Option Bool × List T} {wx : W} {u : Value} (h : appBase wx = some q) (hR : RepW lo par ow tm w s wx u) :
  (∃ olds b0,Base lo ow w q.1 q.2.1 q.2.2.1 q.2.2.2 u olds b0) ∧ (∀ z,q.1 = some z → ∃ m',s.get z = .own m' q.2.2.1 q.2.2.2 ∧ s.lv z = true) ∧ q.2.1 < 10:=by
 cases wx with
 | own y m nl cs =>
  rw [base_own] at h; cases h
  obtain ⟨h1,h2,h3,h4⟩:=hR
  refine ⟨?_,fun z hz => by cases hz; exact ⟨m,h1,h2⟩,Nat.mod_lt _ (by omega)⟩
  have tg:tagM (m % 10) y = tagM m y:=by unfold tagM; rw [Nat.mod_mod]
  rcases h4.2 with ⟨e, hc, hn⟩ | ⟨hn, b, cap, arr, ty, xs, e, ho, hb, hs, hl, hm, ht, hx, hd⟩
  ·refine ⟨[],.none,.inl ⟨e,rfl,rfl⟩,by rw [hc]; rfl,by simp,fun _ => hn,by simp,fun z hz => ?_,by simp⟩
   rw [hc]; exact ⟨by simp [FzL],fun _ => deep_nil⟩
  ·refine ⟨xs, some b, .inr ⟨b, cap, arr, ty, by rw [hx.length]; exact e, rfl, hb, hs, by rw [hx.length]; exact hl, hm, by rw [hx.length]; exact ht⟩, hx.length, fun b' e' => ?_, by simp, fun _ _ => hn, fun z hz => ?_, by simp⟩
   ·cases e'; exact ⟨y,rfl,ho⟩
   ·cases hz; simp only; rw [tg,Nat.mod_mod]; exact ⟨hx,hd⟩
 | t g r =>
  cases r with
  | s nl cs =>
   match nl,cs,h with
   | some true, [], h =>
    cases h
    simp only [RepW,Fz] at hR
    rcases hR with ⟨e, _⟩ | ⟨hn, _⟩
    ·exact ⟨⟨[],.none,.inl ⟨e,rfl,rfl⟩,rfl,by simp,by simp,by simp,by simp,fun _ => rfl⟩,by simp,by simp⟩
    ·exact absurd rfl hn
   | some true,_ :: _,h => cases h
   | some false,_,h => cases h
   | .none,_,h => cases h
  | _ => cases h
 | _ => cases h
theorem app_goi {d k : Nat} {x e : X} (hG : Gam lo Xb par ow s a.tmps w) (hd : oper.dst = some d) (hd1 : d < 1000) (hsz : d < a.tmps.size) (ho : appChk P x e oper.op = true)
  (hk:wpI P (.app d x e k) K s):GoI P lo Xb par a w K oper:=by
 unfold appChk at ho
 split at ho
 case h_2 => cases ho
 rename_i ys ts hop
 split at ho
 case h_2 => cases ho
 rename_i x' e' t t' hys hts
 simp only [Bool.and_eq_true,beq_iff_eq] at ho
 obtain ⟨⟨⟨rfl,hty⟩,hx⟩,he⟩:=ho
 obtain ⟨el,i,zv,ht,hi,hs1,hby,hzv,hzs⟩:=tyA_spec hty
 have hys':ys = #[x',e']:=by apply Array.ext'; simpa using hys
 have hts':ts = #[t,t]:=by apply Array.ext'; simpa using hts
 subst hys'; subst hts'
 have r1:=xOk_sound hG hx
 have r2:=xOk_sound hG he
 rw [wpI_app] at hk
 cases hq:appBase (s.look x) with
 | none => rw [hq] at hk; exact hk.elim
 | some q =>
  rw [hq,optK_s] at hk
  obtain ⟨⟨olds,b0,B⟩,hbase,hm10⟩:=base_ok hq r1
  obtain ⟨y,m,nl,cs⟩:=q
  simp only at hk B hbase hm10
  have go : ∀ {zs : List Nat} {xs : List T} {news : List Value} {mr : Nat}, (∀ z, y = some z → z ∈ zs) → (∀ z ∈ zs, hangs d z = false) → (∀ z ∈ zs, ∀ z' ∈ zs, z ≠ z' → hangs z z' = false) → mr < 10 → news.length = xs.length →
    ((a.eval e' = .slice none 0 0 ∧ news = []) ∨ ∃ ad c,a.eval e' = .slice (some ad) news.length c ∧ ∀ j v,news[j]? = some v → w.cell? (ad.add j) = some v) → (∀ v ∈ news,v.oneCell' = true) → cs.length + xs.length ≤ 1099511627776 →
    (∀ {ow' : Ow} {w1 : World}, (∀ b, b < w.heap.size → ow' b = owL zs d ow b) → w.heap.size ≤ w1.heap.size → (∀ b, b < w.heap.size → (∀ z ∈ zs, ow b ≠ some (z, 0)) → w1.heap[b]? = w.heap[b]?) →
     FzL (okG lo ow' (tagM mr d)) w1 cs olds ∧ FzL (okG lo ow' (tagM mr d)) w1 xs news ∧ (mr % 10 = 1 → DeepR ow' d w1 (veil (cs ++ xs) (olds ++ news)))) →
    K ((d,.own mr (nlApp nl xs) (cs ++ xs)) :: St.rtL zs d (s.kill d)) → GoI P lo Xb par a w K oper:=by
   intro zs xs news mr hyz hzd hzz hmr hnl hnews h1 hle hold hK
   obtain ⟨u,w',hr,hA⟩:=run_app (P:=P) (w:=w) (ty0:=oper.type) ht hi hzv hs1 hby hzs B.hh hnews h1 (by rw [B.len,hnl]; exact hle)
   obtain ⟨ow',hG',hgr⟩:=Gam.app (par:=par) hG hd1 hsz hzd hzz (fun b hb => by obtain ⟨z,h1,h2⟩:=B.blk b hb; exact ⟨z,hyz z h1,h2⟩) hA hmr B.len hnl B.nl1 B.nl2 hold
   refine goi_val hd ?_ hK hgr hG'
   unfold execOp
   simp only [hop,resolve,invoke,builtin,Sem.run_bind,Sem.run_pure,Result.andThen_ok,List.map_toArray,List.map_cons,List.map_nil,hr]
  have offd:∀ {y:Option Nat},offO d y = true → ∀ z,y = some z → hangs d z = false:=fun h z e => by subst e; rw [offO_s] at h; simpa using h
  have rowsB : ∀ {zs : List Nat} {ow' : Ow} {w1 : World}, (∀ z ∈ zs, hangs d z = false) → (∀ z ∈ zs, ∀ z' ∈ zs, z ≠ z' → hangs z z' = false) → (∀ z, y = some z → z ∈ zs) → (∀ b, b < w.heap.size → ow' b = owL zs d ow b) →
    (∀ b,b < w.heap.size → (∀ z ∈ zs,ow b ≠ some (z,0)) → w1.heap[b]? = w.heap[b]?) → FzL (okG lo ow' (tagM m d)) w1 cs olds:=by
   intro zs ow' w1 hzd hzz hyz ho' hw'
   cases hy:y with
   | none => rw [B.no hy] at *; have:=B.len; simp only [FzL]; exact List.eq_nil_of_length_eq_zero (by simpa using this)
   | some z =>
    have:=(B.rows z hy).1
    refine FzL.imp (fun b hb hk => ?_) _ _ this
    have:=tag_app (m:=m) (fun z hz => off_sym hd1 (hzd z hz)) hzz (hyz z hy) ho' hw' hb hk
    rwa [Nat.mod_eq_of_lt hm10] at this
  have nilO:cs = [] → olds = []:=fun h => List.eq_nil_of_length_eq_zero (by rw [B.len,h]; rfl)
  have zzO : ∀ z ∈ y.toList, ∀ z' ∈ y.toList, z ≠ z' → hangs z z' = false := fun z hz z' hz' hne => by
   cases y with
   | none => simp at hz
   | some v => simp at hz hz'; subst hz; subst hz'; exact absurd rfl hne
  have mem:∀ z,y = some z → z ∈ y.toList:=fun z hz => by simp [hz]
  have deepO : ∀ {zs : List Nat} {news : List Value} {ow' : Ow} {w1 : World} {xs : List T} {ok : Nat → Prop}, (∀ z ∈ zs, hangs d z = false) → (∀ z ∈ zs, ∀ z' ∈ zs, z ≠ z' → hangs z z' = false) → (∀ z, y = some z → z ∈ zs) → (∀ b, b < w.heap.size → ow' b = owL zs d ow b) →
    (∀ b,b < w.heap.size → (∀ z ∈ zs,ow b ≠ some (z,0)) → w1.heap[b]? = w.heap[b]?) → m % 10 = 1 → scalL xs → FzL ok w xs news → DeepR ow' d w1 (veil (cs ++ xs) (olds ++ news)):=by
   intro zs news ow' w1 xs ok hzd hzz hyz ho' hw' hm1 hsc n1
   cases hy:y with
   | none => rw [nilO (B.no hy),B.no hy]; exact (scal_deep hsc n1).veil
   | some z =>
    rw [veil_app B.len,veil_id (fun t ht => scal_live (hsc t ht)) n1.length]
    refine deep_app ((B.rows z hy).2 hm1) (fun b hb hk => tag_app (lo:=lo) (m:=1) (fun z hz => off_sym hd1 (hzd z hz)) hzz (hyz z hy) ho' hw' hb (show okG lo ow (tagM 1 z) b from hk)) (fun i j b hi => absurd hi (scal_norow hsc n1 i b)) fun i b hi => absurd hi (scal_norow hsc n1 i b)
  have k0 : ∀ {nx : Option Bool} {xs : List T} {ok : Nat → Prop}, Fz ok w (.s nx xs) (a.eval e') → offO d y = true → scalL xs → cs.length + xs.length ≤ 1099511627776 → K ((d, .own m (nlApp nl xs) (cs ++ xs)) :: rtO y d (s.kill d)) → GoI P lo Xb par a w K oper := by
   intro nx xs ok hf hoff hsc hle hK
   obtain ⟨news,n1,n2⟩:=app_news hf
   have hzd:∀ z ∈ y.toList,hangs d z = false:=fun z hz => offd hoff z (by simpa using hz)
   exact go (zs:=y.toList) (news:=news) mem hzd zzO hm10 n1.length n2 (one_cells n1 fun t ht => .inl (hsc t ht)) hle (fun {ow' w1} ho' hsz' hw' => ⟨rowsB hzd zzO mem ho' hw',n1.scal hsc,fun hm1 => deepO hzd zzO mem ho' hw' hm1 hsc n1⟩) (by cases y <;> exact hK)
  have k2 : ∀ {nx : Option Bool} {xs : List T}, Fz (okG lo ow .fr) w (.s nx xs) (a.eval e') ∨ (∃ z, s.get z = .own 0 nx xs ∧ s.lv z = true ∧ OwnAt lo par ow w z 0 nx xs (a.eval e')) → offO d y = true → xs.all T.one = true → (m = 0 ∨ cs = []) → cs.length + xs.length ≤ 1099511627776 →
    K ((d,.own 0 (nlApp nl xs) (cs ++ xs)) :: rtO y d (s.kill d)) → GoI P lo Xb par a w K oper:=by
   intro nx xs hf hoff hone hm0 hle hK
   have hzd:∀ z ∈ y.toList,hangs d z = false:=fun z hz => offd hoff z (by simpa using hz)
   have hnews : ∃ news, FzL (okG lo ow .fr) w xs news ∧ ((a.eval e' = .slice none 0 0 ∧ news = []) ∨ ∃ ad c, a.eval e' = .slice (some ad) news.length c ∧ ∀ j v, news[j]? = some v → w.cell? (ad.add j) = some v) := by
    rcases hf with hf | ⟨z, h1, h2, hO⟩
    ·exact app_news hf
    ·rcases hO.2 with ⟨e, hc, hn⟩ | ⟨hn, b, cap, arr, ty, vs, e, ho, hb, hs, hl, hm, ht, hx, hd⟩
     ·exact ⟨[],by rw [hc]; simp [FzL],.inl ⟨e,rfl⟩⟩
     ·refine ⟨vs,hx,.inr ⟨⟨b,0,none⟩,cap,by rw [hx.length]; exact e,fun j v hj => ?_⟩⟩
      have : (⟨b, 0, none⟩ : Addr).add j = ⟨b, j, none⟩ := by
       unfold Addr.add; split
       ·rename_i h; rw [h]
       ·simp
      rw [this,cell_of_row w b j arr ty (0,0) hb]
      subst ht
      rw [List.getElem?_take] at hj
      split at hj
      ·simpa using hj
      ·cases hj
   obtain ⟨news,n1,n2⟩:=hnews
   have h1:∀ t ∈ xs,t.scal ∨ t.one = true:=fun t ht => .inr (List.all_eq_true.1 hone t ht)
   have tgf : ∀ {ow' : Ow} {w1 : World}, (∀ b, b < w.heap.size → ow' b = owL y.toList d ow b) → (∀ b, b < w.heap.size → (∀ z ∈ y.toList, ow b ≠ some (z, 0)) → w1.heap[b]? = w.heap[b]?) → ∀ b, b < w.heap.size → okG lo ow .fr b → okG lo ow' .fr b ∧ w1.heap[b]? = w.heap[b]? := by
    intro ow' w1 ho' hw' b hb hk
    exact ⟨⟨by rw [ho' b hb]; exact owL_none.2 hk.1,hk.2⟩,hw' b hb fun z _ e => by rw [hk.1] at e; cases e⟩
   refine go (zs:=y.toList) (mr:=0) (news:=news) mem hzd zzO (by omega) n1.length n2 (one_cells n1 h1) hle (fun {ow' w1} ho' hsz' hw' => ⟨?_,FzL.imp (tgf ho' hw') _ _ n1,fun hm1 => by omega⟩) (by cases y <;> exact hK)
   rcases hm0 with rfl | hcs
   ·exact rowsB hzd zzO mem ho' hw'
   ·rw [nilO hcs,hcs]; simp [FzL]
  generalize s.look e = we at r2 hk
  match k with
  | 0 =>
   cases we with
   | t g r =>
    cases r with
    | s nx xs => rw [appK_0t] at hk; obtain ⟨h1,h2,h3,h4⟩:=hk; exact k0 (r2:Fz _ _ _ _) h1 h2 h3 h4
    | _ => exact hk.elim
   | own z mz nx xs => rw [appK_0o] at hk; obtain ⟨h1,h2,h3,h4⟩:=hk; exact k0 (OwnAt.fz r2.2.2.2) h1 h2 h3 h4
   | _ => exact hk.elim
  | 2 =>
   cases we with
   | t g r =>
    cases r with
    | s nx xs =>
     cases g with
     | fr => rw [appK_2t] at hk; obtain ⟨h1,h2,h3,h4,h5⟩:=hk; exact k2 (.inl r2) h1 h2 h3 h4 h5
     | _ => exact hk.elim
    | _ => cases g <;> exact hk.elim
   | own z mz nx xs =>
    match mz with
    | 0 => rw [appK_2o] at hk; obtain ⟨h1,h2,h3,h4,h5⟩:=hk; exact k2 (.inr ⟨z,r2.1,r2.2.1,r2.2.2.2⟩) h1 h2 h3 h4 h5
    | _ + 1 => exact hk.elim
   | _ => exact hk.elim
  | 1 =>
   cases we with
   | own z mz nx xs =>
    match mz with
    | 0 => exact hk.elim
    | _ + 2 => exact hk.elim
    | 1 =>
     rw [appK_1] at hk
     obtain ⟨hoff,hdz,hyz,hone,hm1,hle,hK⟩:=hk
     obtain ⟨hz,hlz,hnz,hO⟩:=r2
     have hnews : ∃ news, FzL (okG lo ow (.rw z)) w xs news ∧ DeepR ow z w news ∧ ((a.eval e' = .slice none 0 0 ∧ news = []) ∨ ∃ ad c, a.eval e' = .slice (some ad) news.length c ∧ ∀ j v, news[j]? = some v → w.cell? (ad.add j) = some v) := by
      rcases hO.2 with ⟨e, hc, hn⟩ | ⟨hn, b, cap, arr, ty, vs, e, ho, hb, hs, hl, hm, ht, hx, hd⟩
      ·exact ⟨[],by rw [hc]; simp [FzL],deep_nil,.inl ⟨e,rfl⟩⟩
      ·refine ⟨vs,hx,by rw [← veil_id (fun t ht => one_live (List.all_eq_true.1 hone t ht)) hx.length]; exact hd rfl,.inr ⟨⟨b,0,none⟩,cap,by rw [hx.length]; exact e,fun j v hj => ?_⟩⟩
       have : (⟨b, 0, none⟩ : Addr).add j = ⟨b, j, none⟩ := by
        unfold Addr.add; split
        ·rename_i h; rw [h]
        ·simp
       rw [this,cell_of_row w b j arr ty (0,0) hb]
       subst ht
       rw [List.getElem?_take] at hj
       split at hj
       ·simpa using hj
       ·cases hj
     obtain ⟨news,n1,hD,n2⟩:=hnews
     have h1:∀ t ∈ xs,t.scal ∨ t.one = true:=fun t ht => .inr (List.all_eq_true.1 hone t ht)
     have hzd : ∀ v ∈ z :: y.toList, hangs d v = false := fun v hv => by
      rcases List.mem_cons.1 hv with rfl | hv
      ·exact hdz
      ·exact offd hoff v (by simpa using hv)
     have hzz : ∀ v ∈ z :: y.toList, ∀ v' ∈ z :: y.toList, v ≠ v' → hangs v v' = false := by
      have : ∀ v ∈ z :: y.toList, ∃ m nl cs, s.get v = .own m nl cs ∧ s.lv v = true := fun v hv => by
       rcases List.mem_cons.1 hv with rfl | hv
       ·exact ⟨1,nx,xs,hz,hlz⟩
       ·obtain ⟨m',e1,e2⟩:=hbase v (by simpa using hv); exact ⟨m',nl,cs,e1,e2⟩
      intro v hv v' hv' hne
      obtain ⟨_,_,_,e1,_⟩:=this v hv
      obtain ⟨_,_,_,e2,e3⟩:=this v' hv'
      exact own_apart e1 e2 e3 hne
     have mem':∀ v,y = some v → v ∈ z :: y.toList:=fun v hv => by simp [hv]
     refine go (zs:=z :: y.toList) (mr:=1) (news:=news) mem' hzd hzz (by omega) n1.length n2 (one_cells n1 h1) hle (fun {ow' w1} ho' hsz' hw' => ?_) (by cases y <;> exact hK)
     have tz:∀ b,b < w.heap.size → ow b = some (z,1) → ow' b = some (d,1) ∧ w1.heap[b]? = w.heap[b]?:=fun b hb hk => tag_app (lo:=lo) (m:=1) (fun v hv => off_sym hd1 (hzd v hv)) hzz (by simp) ho' hw' hb (show okG lo ow (tagM 1 z) b from hk)
     refine ⟨?_, FzL.imp tz _ _ n1, fun _ => ?_⟩
     ·rcases hm1 with rfl | hcs
      ·exact rowsB hzd hzz mem' ho' hw'
      ·rw [nilO hcs,hcs]; simp [FzL]
     ·have hvn:veil xs news = news:=veil_id (fun t ht => one_live (List.all_eq_true.1 hone t ht)) n1.length
      rw [veil_app B.len,hvn]
      have hB2 : ∀ i b : Nat, (news[i]?).bind rowBlk = some b → ow b = some (z, 1) ∧ ow' b = some (d, 1) ∧ ∃ arr ty len, w1.heap[b]? = some (.cells arr ty (0, 0)) ∧ news[i]? = some (.slice (some ⟨b, 0, none⟩) len arr.size) := fun i b hi => by
       obtain ⟨q1,arr,ty,len,q2,q5⟩:=hD.2 i b hi
       obtain ⟨q3,q4⟩:=tz b (Array.getElem?_eq_some_iff.1 q2).1 q1
       exact ⟨q1,q3,arr,ty,len,q4.trans q2,q5⟩
      have nilCase : olds = [] → DeepR ow' d w1 (veil cs olds ++ news) := fun h => by
       have:veil cs olds = []:=by rw [h]; cases cs <;> rfl
       rw [this,List.nil_append]; exact ⟨hD.1,fun i b hi => (hB2 i b hi).2⟩
      rcases hm1 with rfl | hcs
      ·cases hy:y with
       | none => exact nilCase (nilO (B.no hy))
       | some v =>
        refine deep_app ((B.rows v hy).2 rfl) (fun b hb hk => tag_app (lo:=lo) (m:=1) (fun v hv => off_sym hd1 (hzd v hv)) hzz (mem' v hy) ho' hw' hb (show okG lo ow (tagM 1 v) b from hk)) hD.1 fun i b hi => ⟨?_,(hB2 i b hi).2⟩
        rw [(hB2 i b hi).1]
        intro e; cases e; exact hyz hy
      ·exact nilCase (nilO hcs)
   | _ => exact hk.elim
  | k + 3 => cases we <;> exact hk.elim
end
end Go.Vc
namespace Go.Vc
open Go
section
variable {P:Program} {lo:Nat} {Xb:Nat → Prop} {par:Nat → Option Value} {ow ow':Ow} {tm tm':Array Value} {a:Act} {w w' w1:World} {s s':St} {K:St → Prop} {oper:Oper}
theorem st_run {t : TypeId} {p' v' : Operand} {ad : Addr} {v x : Value} (ho : oper.op = .store t p' v') (h1 : one1 P t = true) (hp : a.eval p' = .pointer (some ad)) (hv : a.eval v' = v) (hone : v.oneCell' = true) (hc : w.cell? ad = some x) (hf : w.frozen? ad = false) :
  (execOp a.eval oper).run P w = .ok .skip (w.setCell ad v):=by
 obtain ⟨i,hi,hs⟩:=one1_spec h1
 have hcells:=oneCell_cells hone
 have ha:ad.add 0 = ad:=by unfold Addr.add; split <;> simp_all
 simp [execOp,ho,Instr.storeAt,Instr.sureAddr,hp,hv,storeVar,sizeOf,typeInfo,hi,hs,hcells,storeCells,ha,run_store P w ad v _ hone,hc,hf]
theorem goi_skip {ad : Addr} {v : Value} (hd : oper.dst = none) (hr : (execOp a.eval oper).run P w = .ok .skip (w.setCell ad v)) (hk : K s') (hb : lo ≤ ad.block ∨ Xb ad.block) (hG : Gam lo Xb par ow' s' a.tmps (w.setCell ad v)) : GoI P lo Xb par a w K oper := by
 intro next Q N
 unfold Oper.wp
 rw [hr]
 simp only [Oper.upon]
 rw [hd]
 exact N s' a _ ow' hk ((Grow.setCell w ad v).mono fun k _ e => by rw [e]; exact hb) hG rfl rfl
theorem Gam.storeRow {y j m x mx : Nat} {nl nx : Option Bool} {cs cx : List T} {v hdr : Value} {b len cap : Nat} (h : Gam lo Xb par ow s tm w) (hy : s.get y = .own m nl cs) (hl : s.lv y = true) (hn : nmv tm w y = some hdr)
  (he:hdr = .slice (some ⟨b,0,none⟩) len cap) (hj:j < cs.length) (hm:m % 10 = 1) (hx:s.get x = .own mx nx cx) (hlx:s.lv x = true) (hnx:nmv tm w x = some v) (hxy:hangs x y = false) (hcx:scalL cx) :
  Gam lo Xb par (owGive ow x y) ((y,.own m nl (cs.set j (.s nx cx))) :: (s.take1 x y nx cx).killSp y) tm (w.setCell ⟨b,j,none⟩ v) ∧ v.oneCell' = true ∧ (∃ x,w.cell? ⟨b,j,none⟩ = some x) ∧ w.frozen? ⟨b,j,none⟩ = false ∧ ow b = some (y,0):=by
 obtain ⟨u0,e0,hO⟩:=h.ent y hl (by rw [hy]; rfl)
 rw [hn] at e0; cases e0
 rw [hy] at hO
 obtain ⟨u1,e1,hX⟩:=h.ent x hlx (by rw [hx]; rfl)
 rw [hnx] at e1; cases e1
 rw [hx] at hX
 obtain ⟨hp,hO⟩:=hO
 rcases hO with hO | ⟨hnl, b', cap', arr, ty, xs, e, ho, hb, hs, hle, hmx, ht, hxs, hd⟩
 ·rw [he] at hO; cases hO.1
 rw [he] at e; cases e
 have hxny:x ≠ y:=fun e => by subst e; rw [hangs_self] at hxy; cases hxy
 have hone : v.oneCell' = true := by
  rcases hX.2 with ⟨rfl,_⟩ | ⟨_,_,_,_,_,_,rfl,_⟩ <;> rfl
 have hjs:j < arr.size:=by omega
 refine ⟨?_,hone,⟨arr[j],by rw [cell_of_row w b j arr ty (0,0) hb]; exact Array.getElem?_eq_getElem hjs⟩,frozen_of_row w b j arr ty hb,ho⟩
 have oth:∀ k,k ≠ b → (w.setCell ⟨b,j,none⟩ v).heap[k]? = w.heap[k]?:=fun k hk => heap_setCell_other w _ k v hk
 have nm : ∀ z, s.lv z = true → ∀ u, nmv tm w z = some u → nmv tm (w.setCell ⟨b, j, none⟩ v) z = some u := fun z hz u hu =>
  h.nmKeep hz (fun b' _ hb' h1000 => oth b' (by
   rintro rfl
   rw [ho] at hb'
   have:y = z % 1000:=by cases hb'; rfl
   subst this
   rw [lv_iff,hy] at hz
   rcases hz with hz | hz
   ·omega
   ·cases hz)) hu
 have get : ∀ z, St.get ((y, .own m nl (cs.set j (.s nx cx))) :: (s.take1 x y nx cx).killSp y) z = if z = y then .own m nl (cs.set j (.s nx cx)) else if z = x then .t (.rw y) (.s nx cx) else if hangs x z = true ∨ (s.get z).on x = true ∨ (s.get z).onSp y = true then .any else s.get z := by
  intro z
  rw [get_top_sp]
  by_cases hzy : z = y
  ·rw [if_pos hzy,if_pos hzy]
  ·rw [if_neg hzy,if_neg hzy,take1_eq]
   by_cases hzx : z = x
   ·rw [if_pos hzx,hzx,get_top,vonSp_rw]; simp
   ·rw [if_neg hzx,get_top_ne hzx,get_kill]
    by_cases h1 : hangs x z = true ∨ (s.get z).on x = true
    ·have e3:hangs x z = true ∨ (s.get z).on x = true ∨ (s.get z).onSp y = true:=by rcases h1 with h | h; exact .inl h; exact .inr (.inl h)
     rw [if_pos h1,if_pos e3]; split <;> rfl
    ·rw [if_neg h1]
     simp only [not_or] at h1
     by_cases h2 : (s.get z).onSp y = true
     ·rw [if_pos h2,if_pos (.inr (.inr h2))]
     ·rw [if_neg h2,if_neg (by rintro (h | h | h); exact h1.1 h; exact h1.2 h; exact h2 h)]
 have lvs : ∀ z, St.lv ((y, .own m nl (cs.set j (.s nx cx))) :: (s.take1 x y nx cx).killSp y) z = true → s.lv z = true := by
  intro z hz
  rw [lv_iff] at hz ⊢
  rcases hz with hz | hz
  ·exact .inl hz
  ·rw [get] at hz
   split at hz
   ·cases hz
   ·split at hz
    ·cases hz
    ·split at hz
     ·cases hz
     ·exact .inr hz
 have al : ∀ z, hangs x z = false → okAl ((y, .own m nl (cs.set j (.s nx cx))) :: (s.take1 x y nx cx).killSp y) z → okAl s z := by
  intro z hxz hz
  rw [okAl_iff,get] at hz
  rw [okAl_iff]
  by_cases hzy : z = y
  ·subst hzy; exact .inl ⟨⟨m,nl,cs,hy⟩,hl⟩
  ·simp only [hzy,if_false] at hz
   by_cases hzx : z = x
   ·subst hzx; rw [hangs_self] at hxz; cases hxz
   ·simp only [hzx,if_false] at hz
    split at hz
    ·rcases hz with ⟨⟨_,_,_,e⟩,_⟩ | ⟨⟨_,e⟩,_⟩ <;> cases e
    ·rcases hz with ⟨e, hz⟩ | e
     ·exact .inl ⟨e,lvs z hz⟩
     ·exact .inr e
 have pe : ∀ z, hangs x z = false → okPe ((y, .own m nl (cs.set j (.s nx cx))) :: (s.take1 x y nx cx).killSp y) z → okPe s z := by
  intro z hxz hz
  have hal:=al z hxz hz.al
  rw [okPe_iff,get] at hz
  rw [okPe_iff]
  by_cases hzy : z = y
  ·subst hzy; exact ⟨⟨m,nl,cs,hy⟩,hl⟩
  ·simp only [hzy,if_false] at hz
   by_cases hzx : z = x
   ·subst hzx; rw [hangs_self] at hxz; cases hxz
   ·simp only [hzx,if_false] at hz
    split at hz
    ·obtain ⟨⟨_,_,_,e⟩,_⟩:=hz; cases e
    ·exact ⟨hz.1,lvs z hz.2⟩
 have give:∀ b' p,ow b' = some p → p ≠ (x,0) → owGive ow x y b' = some p:=fun b' p h1 h2 => by rw [owGive_ne (by rw [h1]; simpa using h2)]; exact h1
 have tag : ∀ g : G, g.onSp y = false → g.on x = false → ∀ b', b' < w.heap.size → okG lo ow g b' → okG lo (owGive ow x y) g b' ∧ (w.setCell ⟨b, j, none⟩ v).heap[b']? = w.heap[b']? := by
  intro g hg1 hg2 b' _ hk
  have hne:=okG_ne ho hg1 hk
  refine ⟨?_,oth b' hne⟩
  cases g with
  | arg => exact owGive_none.2 hk
  | fr => exact ⟨owGive_none.2 hk.1,hk.2⟩
  | rw z => exact give b' _ hk (by simp)
  | sp z =>
   rcases hk with hk | hk | hk
   ·refine .inl (give b' _ hk fun e => ?_)
    cases e
    simp only [G.on,hangs_self] at hg2; cases hg2
   ·exact .inr (.inl (give b' _ hk (by simp)))
   ·exact .inr (.inr (owGive_none.2 hk))
 have hrow : ∀ bv, rowBlk v = some bv → ow bv = some (x, 0) ∧ ∃ arr ty len, w.heap[bv]? = some (.cells arr ty (0, 0)) ∧ v = .slice (some ⟨bv, 0, none⟩) len arr.size := by
  intro bv hbv
  rcases hX.2 with ⟨rfl, _⟩ | ⟨_, b1, _, arr1, ty1, _, rfl, ho1, hb1, hsz1, _⟩
  ·cases hbv
  ·cases hbv; exact ⟨ho1,arr1,ty1,_,hb1,by rw [hsz1]⟩
 have gv:∀ bv,ow bv = some (x,0) → owGive ow x y bv = some (y,1):=fun bv h => by unfold owGive; rw [if_pos h]
 have bne:∀ bv,ow bv = some (x,0) → bv ≠ b:=fun bv h e => by rw [e,ho] at h; cases h; exact hxny rfl
 have hfx : Fz (okG lo (owGive ow x y) (.rw y)) (w.setCell ⟨b, j, none⟩ v) (.s nx cx) v := by
  rcases hX.2 with h | ⟨hnl', b1, cap1, arr1, ty1, zs, e1, ho1, hb1, hs1, hl1, hm1, ht1, hx1, hd1⟩
  ·simp only [Fz]; exact .inl h
  ·simp only [Fz]
   refine .inr ⟨hnl',b1,0,none,cap1,zs,e1,hl1,hm1,fun _ => ⟨gv b1 ho1,rfl⟩,hx1.scal hcx,fun k u hk => ?_⟩
   rw [World.cell?_of_block (w:=w) (oth b1 (bne b1 ho1)),cell_of_row w b1 (0 + k) arr1 ty1 (0,0) hb1]
   subst ht1
   rw [List.getElem?_take] at hk
   split at hk
   ·simpa using hk
   ·cases hk
 have htag:tagM m y = .rw y:=by simp [tagM,hm]
 refine Gam.step (M := fun z => hangs x z = false) (MG := fun g => g.onSp y = false ∧ g.on x = false) (I := fun z => z ≠ y ∧ hangs x z = false ∧ s.lv z = true) h (fun b' p hp' => ?_) (by simp) (fun z hz hnz => ?_) (fun z hz => nm z hz.2.2)
  (fun z hz b' _ r' hb' => ⟨give b' _ hb' fun e => ?_,oth b' (by rintro rfl; rw [ho] at hb'; cases hb'; exact hz.1 rfl)⟩) ⟨⟨rfl,rfl⟩,⟨rfl,rfl⟩⟩ (fun z hxz hz => ⟨al z hxz hz,fun u => nm z (al z hxz hz).lv u⟩) (fun z hxz hz => pe z hxz hz)
  (fun z hz1 hxz hz => ⟨?_,fun u hu => nm z (lv_iff.2 (.inl hz1)) u hu⟩) (fun g hg b' hlt hb' => tag g hg.1 hg.2 b' hlt hb')
 ·have : ∃ q, ow b' = some q := by
   cases e:ow b' with
   | none => rw [owGive_none.2 e] at hp'; cases hp'
   | some q => exact ⟨q,rfl⟩
  obtain ⟨q,hq⟩:=this
  simpa using h.base b' q hq
 ·rw [get] at hnz ⊢
  by_cases hzy : z = y
  ·subst hzy
   left
   refine ⟨hdr,nm z hl hdr hn,?_⟩
   simp only [if_true]
   refine ⟨hp, .inr ⟨hnl, b, cap, arr.setIfInBounds j v, ty, xs.set j v, by rw [he]; simp, give b _ ho (by intro e; cases e; exact hxny rfl), setCell_row hb, by simpa using hs, by simpa using hle, hmx, ?_, ?_, fun _ => ?_⟩⟩
   ·subst ht; simp [List.take_set]
   ·rw [htag] at hxs ⊢
    exact (FzL.imp (tag (.rw z) rfl (by simpa [G.on] using hxy)) cs xs hxs).set j hfx
   ·obtain ⟨d1,d2⟩:=hd hm
    have hjx:j < (veil cs xs).length:=by rw [veil_length hxs.length,← ht]; simp; omega
    rw [veil_set rfl]
    clear hxs ht
    generalize veil cs xs = xs at d1 d2 hjx ⊢
    have get2 : ∀ i b', ((xs.set j v)[i]?).bind rowBlk = some b' → (i = j ∧ rowBlk v = some b') ∨ (i ≠ j ∧ (xs[i]?).bind rowBlk = some b') := by
     intro i b' hi
     rw [List.getElem?_set] at hi
     by_cases hij : j = i
     ·subst hij
      rw [if_pos rfl,if_pos hjx] at hi
      exact .inl ⟨rfl,hi⟩
     ·rw [if_neg hij] at hi; exact .inr ⟨fun e => hij e.symm,hi⟩
    have old:∀ i b',(xs[i]?).bind rowBlk = some b' → ow b' = some (z,1):=fun i b' hi => (d2 i b' hi).1
    refine ⟨fun i k b' hi hk => ?_, fun i b' hi => ?_⟩
    ·rcases get2 i b' hi with ⟨i1, i2⟩ | ⟨i1, i2⟩ <;> rcases get2 k b' hk with ⟨k1, k2⟩ | ⟨k1, k2⟩
     ·rw [i1,k1]
     ·have:=(hrow b' i2).1; rw [old k b' k2] at this; cases this
     ·have:=(hrow b' k2).1; rw [old i b' i2] at this; cases this
     ·exact d1 i k b' i2 k2
    ·rcases get2 i b' hi with ⟨i1, i2⟩ | ⟨i1, i2⟩
     ·obtain ⟨q1,arr',ty',len',q2,q3⟩:=hrow b' i2
      exact ⟨gv b' q1,arr',ty',len',by rw [oth b' (bne b' q1)]; exact q2,by rw [i1,List.getElem?_set_self hjx,q3]⟩
     ·obtain ⟨q1,arr',ty',len',q2,q3⟩:=d2 i b' i2
      exact ⟨give b' _ q1 (by simp),arr',ty',len',by rw [oth b' (by rintro rfl; rw [ho] at q1; cases q1)]; exact q2,by rw [List.getElem?_set_ne (fun e => i1 e.symm)]; exact q3⟩
  ·rw [if_neg hzy] at hnz ⊢
   by_cases hzx : z = x
   ·subst hzx
    left
    rw [if_pos rfl]
    exact ⟨v,nm z hlx v hnx,hfx⟩
   ·rw [if_neg hzx] at hnz ⊢
    right
    split at hnz
    ·cases hnz
    ·rename_i hq
     rw [if_neg hq]
     simp only [not_or,Bool.not_eq_true] at hq
     refine ⟨⟨hzy,hq.1,lvs z hz⟩,rfl,lvs z hz,?_⟩
     have m1:=V.not_on hq.2.1
     have m2:=V.onSp_not hq.2.2
     revert m1 m2
     cases s.get z <;> simp only [V.ment] <;> intro m1 m2 <;> first | exact ⟨m1.1,m2.2,m1.2⟩ | exact ⟨m2,m1⟩ | exact m1 | trivial | skip
     intro c hc
     have a1:=m1 c hc
     have a2:=m2 c hc
     cases c <;> simp only [Cap.ment] at a1 a2 ⊢
     ·exact a1
     ·exact ⟨a2,a1⟩
 ·cases e; have:=hz.2.1; rw [hangs_self] at this; cases this
 ·rw [okPc_iff,get] at hz
  obtain ⟨k,hz⟩:=hz
  split at hz
  ·cases hz
  ·split at hz
   ·cases hz
   ·split at hz
    ·cases hz
    ·exact okPc_iff.2 ⟨k,hz⟩
theorem Gam.storeBox {z n b : Nat} {arr : Array Value} {ty : TypeId} {v : V} {x : Value} (h : Gam lo Xb par ow s tm w) (hz : s.get (z % 1000) = .bx n) (hp : nmv tm w (z % 1000) = some (.pointer (some ⟨b, 0, none⟩)))
  (hb:w.heap[b]? = some (.cells arr ty (0,0))) (ho:ow b = some (z % 1000,0)) (hn:arr.size = n) (hk:z / 1000 - 1 < n) (h1:1000 ≤ z) (h2:z / 1000 < 100) (hv:CellRep lo par ow w z v x) (hKd:v.isName = true → Kd z s) (hsp:v.onSp (z % 1000) = false) :
  Gam lo Xb par ow ((z,v) :: s.killSp (z % 1000)) tm (w.setCell ⟨b,z / 1000 - 1,none⟩ x):=by
 have oth:∀ k,k ≠ b → (w.setCell ⟨b,z / 1000 - 1,none⟩ x).heap[k]? = w.heap[k]?:=fun k hk => heap_setCell_other w _ k x hk
 have htm:tm.getD (z % 1000) undef = .pointer (some ⟨b,0,none⟩):=by rw [nmv_slot (by omega)] at hp; simpa using hp
 have hset:=setCell_row (v:=x) (j:=z / 1000 - 1) hb
 have nm : ∀ y, y ≠ z → s.lv y = true → ∀ u, nmv tm w y = some u → nmv tm (w.setCell ⟨b, z / 1000 - 1, none⟩ x) y = some u := by
  intro y hyz hl u hu
  by_cases hy : y < 1000
  ·rw [nmv_slot hy] at hu ⊢; exact hu
  ·by_cases hyz0 : y % 1000 = z % 1000
   ·unfold nmv at hu ⊢
    rw [if_neg hy,hyz0,htm] at hu ⊢
    simp only at hu ⊢
    split at hu
    ·rename_i hlt
     rw [if_pos hlt]
     rw [cell_of_row _ b _ arr ty (0,0) hb] at hu
     rw [cell_of_row _ b _ _ ty (0,0) hset,Array.getElem?_setIfInBounds_ne (by omega)]
     exact hu
    ·cases hu
   ·exact h.nmKeep hl (fun b' _ hb' _ => oth b' (by rintro rfl; rw [ho] at hb'; exact hyz0 (by simpa using hb'.symm))) hu
 have hvc:v.cont = false:=by cases v <;> simp [CellRep] at hv <;> rfl
 have gne:∀ y,y ≠ z → St.get ((z,v) :: s.killSp (z % 1000)) y = if (s.get y).onSp (z % 1000) = true then .any else s.get y:=fun y hy => by rw [get_top_ne hy,get_killSp]
 have lvs : ∀ y, St.lv ((z, v) :: s.killSp (z % 1000)) y = true → s.lv y = true := by
  intro y hy
  rw [lv_iff] at hy ⊢
  rcases hy with hy | hy
  ·exact .inl hy
  ·rw [gne _ (by omega)] at hy
   split at hy
   ·cases hy
   ·exact .inr hy
 have nameV:∀ m nl cs,v = .own m nl cs → v.isName = true:=fun m nl cs e => by rw [e]; rfl
 have al : ∀ y, (y = z → v.isName = false) → okAl ((z, v) :: s.killSp (z % 1000)) y → okAl s y ∧ y ≠ z := by
  intro y hM hy
  rw [okAl_iff] at hy
  by_cases hyz : y = z
  ·exfalso
   rw [hyz,get_top] at hy
   have:=hM hyz
   rcases hy with ⟨⟨m,nl,cs,e⟩,_⟩ | ⟨⟨k,e⟩,_⟩ <;> rw [e] at this <;> cases this
  ·rw [gne y hyz] at hy
   refine ⟨?_,hyz⟩
   rw [okAl_iff]
   split at hy
   ·rcases hy with ⟨⟨_,_,_,e⟩,_⟩ | ⟨⟨_,e⟩,_⟩ <;> cases e
   ·rcases hy with ⟨e, hl⟩ | e
    ·exact .inl ⟨e,lvs y hl⟩
    ·exact .inr e
 have pe : ∀ y, (y = z → v.isName = false) → okPe ((z, v) :: s.killSp (z % 1000)) y → okPe s y := by
  intro y hM hy
  obtain ⟨q1,q2⟩:=al y hM hy.al
  rw [okPe_iff,gne y q2] at hy
  rw [okPe_iff]
  split at hy
  ·obtain ⟨⟨_,_,_,e⟩,_⟩:=hy; cases e
  ·exact ⟨hy.1,lvs y hy.2⟩
 have pc : ∀ y, y < 1000 → okPc ((z, v) :: s.killSp (z % 1000)) y → okPc s y := by
  intro y hy1 hy
  rw [okPc_iff,gne y (by omega)] at hy
  obtain ⟨k,hy⟩:=hy
  split at hy
  ·cases hy
  ·exact okPc_iff.2 ⟨k,hy⟩
 have tag:∀ g:G,g.onSp (z % 1000) = false → ∀ b',b' < w.heap.size → okG lo ow g b' → okG lo ow g b' ∧ (w.setCell ⟨b,z / 1000 - 1,none⟩ x).heap[b']? = w.heap[b']?:=fun g hg b' _ hk => ⟨hk,oth b' (okG_ne ho hg hk)⟩
 have Mt : ∀ y, (s.get y).onSp (z % 1000) = false → (s.get y).ment (fun q => q = z → v.isName = false) (fun g => g.onSp (z % 1000) = false) := by
  intro y hsp
  have m2:=V.onSp_not hsp
  by_cases hvn : v.isName = true
  ·by_cases hon : (s.get y).on z = true
   ·obtain ⟨q,r,e⟩:=((hKd hvn) y).2 hon
    rw [e]; simp [V.ment,G.onSp]
   ·simp only [Bool.not_eq_true] at hon
    have m1:=V.not_on hon
    have nz:∀ {q:Nat},hangs z q = false → q = z → v.isName = false:=fun h e => by rw [e,hangs_self] at h; cases h
    revert m1 m2
    cases s.get y <;> simp only [V.ment] <;> intro m2 m1 <;> first | exact ⟨nz m1.1,m2.2⟩ | exact m2 | exact nz m1 | trivial | skip
    intro c hc
    have a1:=m1 c hc
    have a2:=m2 c hc
    cases c <;> simp only [Cap.ment] at a1 a2 ⊢
    ·exact nz a1
    ·exact a2
  ·simp only [Bool.not_eq_true] at hvn
   revert m2
   cases s.get y <;> simp only [V.ment] <;> intro m2 <;> first | exact ⟨fun _ => hvn,m2.2⟩ | exact m2 | exact fun _ => hvn | trivial | skip
   intro c hc
   have a2:=m2 c hc
   cases c <;> simp only [Cap.ment] at a2 ⊢
   ·exact fun _ => hvn
   ·exact a2
 refine Gam.step (M := fun q => q = z → v.isName = false) (MG := fun g => g.onSp (z % 1000) = false) (I := fun y => y ≠ z ∧ y ≠ z % 1000 ∧ s.lv y = true) h (fun b' p hp => by simpa using h.base b' p hp) (by simp) (fun y hl hny => ?_) (fun y hy => nm y hy.1 hy.2.2)
  (fun y hy b' _ r hb' => ⟨hb',oth b' (by rintro rfl; rw [ho] at hb'; cases hb'; exact hy.2.1 rfl)⟩) ⟨rfl,rfl⟩ (fun y hM hy => ⟨(al y hM hy).1,nm y (al y hM hy).2 (al y hM hy).1.lv⟩) (fun y hM hy => pe y hM hy)
  (fun y hy1 _ hy => ⟨pc y hy1 hy,nm y (by omega) (lv_iff.2 (.inl hy1))⟩) tag
 by_cases hyz : y = z
 ·subst hyz
  left
  rw [get_top]
  refine ⟨x, ?_, ?_⟩
  ·unfold nmv
   rw [if_neg (by omega),htm]
   simp only
   rw [if_pos h2,cell_of_row _ b _ _ ty (0,0) hset,Array.getElem?_setIfInBounds_self_of_lt (by omega)]
  ·cases v with
   | t g r =>
    exact Fz.imp (tag g hsp) r x hv
   | own m nl cs => exact OwnAt.imp (fun b' _ hk => ⟨hk,oth b' (by rintro rfl; rw [ho] at hk; simp at hk; omega)⟩) (fun b' hlt hk => tag _ tagM_sp b' hlt hk) hv
   | _ => exact hv.elim
 ·rw [gne y hyz] at hny ⊢
  split at hny
  ·cases hny
  ·rename_i hsp
   simp only [Bool.not_eq_true] at hsp
   simp only [hsp,Bool.false_eq_true,if_false]
   by_cases hyz0 : y = z % 1000
   ·left
    refine ⟨.pointer (some ⟨b, 0, none⟩), ?_, ?_⟩
    ·rw [hyz0]; exact nm (z % 1000) (by omega) (lv_iff.2 (.inl (by omega))) _ hp
    ·rw [hyz0,hz]
     exact ⟨by omega,b,_,ty,rfl,ho,hset,by simpa using hn⟩
   ·right
    exact ⟨⟨hyz,hyz0,lvs y hl⟩,trivial,lvs y hl,Mt y hsp⟩
def setCs (w : World) (b : Nat) : Nat → List Value → World
 | _,[] => w
 | j,v :: vs => setCs (w.setCell ⟨b,j,none⟩ v) b (j + 1) vs
theorem Grow.setCs {b : Nat} : ∀ {vs : List Value} {j : Nat} {w : World}, Grow (fun k => k = b) w (setCs w b j vs)
 | [],_,w => Grow.refl _ w
 | v :: vs, j, w => by
  have h1:Grow (fun k => k = b) w (w.setCell ⟨b,j,none⟩ v):=Grow.setCell w ⟨b,j,none⟩ v
  exact h1.trans (Grow.setCs (vs:=vs))
theorem storeCells_run {b : Nat} {ty : TypeId} : ∀ {vs : List Value} {j : Nat} {w : World} {arr : Array Value}, w.heap[b]? = some (.cells arr ty (0, 0)) → j + vs.length ≤ arr.size → (∀ v ∈ vs, v.oneCell' = true) →
  (storeCells ⟨b,0,none⟩ vs j).run P w = .ok () (setCs w b j vs)
 | [],j,w,arr,_,_,_ => by simp [storeCells,setCs]
 | v :: vs, j, w, arr, hb, hl, h1 => by
  simp only [List.length_cons] at hl
  have ha : (⟨b, 0, none⟩ : Addr).add j = ⟨b, j, none⟩ := by
   unfold Addr.add; split
   ·rename_i h; rw [h]
   ·simp
  have hc:w.cell? ⟨b,j,none⟩ = some arr[j]:=by rw [cell_of_row w b j arr ty (0,0) hb]; exact Array.getElem?_eq_getElem (by omega)
  have hf:=frozen_of_row w b j arr ty hb
  have ih:=storeCells_run (vs:=vs) (j:=j + 1) (w:=w.setCell ⟨b,j,none⟩ v) (arr:=arr.setIfInBounds j v) (setCell_row hb) (by simp; omega) (fun v hv => h1 v (by simp [hv]))
  have hrun : (store ⟨b, j, none⟩ v).run P w = .ok () (w.setCell ⟨b, j, none⟩ v) := by
   simp [run_store P w ⟨b,j,none⟩ v _ (h1 v (by simp)),hc,hf]
  simp [storeCells,ha,hrun,setCs,ih]
theorem Gam.store1 {z x n b mx : Nat} {arr : Array Value} {ty : TypeId} {nx : Option Bool} {cx : List T} {u : Value} (hG : Gam lo Xb par ow s tm w) (hz : s.get (z % 1000) = .bx n) (hnz : nmv tm w (z % 1000) = some (.pointer (some ⟨b, 0, none⟩)))
  (hb:w.heap[b]? = some (.cells arr ty (0,0))) (hob:ow b = some (z % 1000,0)) (hn:arr.size = n) (hlt:z / 1000 - 1 < n) (h1000:1000 ≤ z) (k3:z / 1000 < 100) (hx:s.get x = .own mx nx cx) (hlx:s.lv x = true) (hnx:nmv tm w x = some u)
  (k1:hangs z x = false) (k2:hangs x (z % 1000) = false) (k4:mx < 10) :
  Gam lo Xb par (owMove ow x z) ((z, .own mx nx cx) :: ((s.kill z).rt x z).killSp (z % 1000)) tm (w.setCell ⟨b, z / 1000 - 1, none⟩ u) ∧ u.oneCell' = true ∧ owMove ow x z b = some (z % 1000, 0) ∧
   St.get ((z,.own mx nx cx) :: ((s.kill z).rt x z).killSp (z % 1000)) (z % 1000) = .bx n:=by
 obtain ⟨u',e,hr⟩:=hG.ent x hlx (by rw [hx]; rfl)
 rw [hnx] at e; cases e
 rw [hx] at hr
 have hOx:OwnAt lo par ow w x mx nx cx u:=hr
 have hone : u.oneCell' = true := by
  rcases hOx.2 with ⟨h,_⟩ | ⟨_,_,_,_,_,_,h,_⟩ <;> rw [h] <;> rfl
 have hxz : hangs x z = false := by
  rw [hangs_false] at k1 k2 ⊢
  exact ⟨fun e => k1.1 e.symm,fun h e => k2.1 e⟩
 have Kp : Keeps lo [z, x] ow (owMove ow x z) tm tm w w s ([] ++ St.rtL [x] z (s.kill z)) :=
  Keeps.absorb hG (by simpa using k1) (by simpa using hxz) (by simp) (by simp) (fun _ _ _ => rfl) (Nat.le_refl _) (fun _ _ => rfl) (fun _ _ _ => rfl)
 have h2 : Gam lo Xb par (owMove ow x z) ((s.kill z).rt x z) tm w := by
  refine Gam.next (ds := [z, x]) hG Kp (fun b p hp => ?_) fun y hy hl hn => ?_
  ·obtain ⟨q,hq⟩:=owMove_some hp; exact hG.base b q hq
  ·exfalso
   have : ((St.rtL [x] z (s.kill z)).get y).isAny = true := by
    refine rtL_hang ?_
    obtain ⟨q,hq,hh⟩:=hy
    simp at hq
    rcases hq with rfl | rfl
    ·right; rw [get_kill,if_pos (.inl hh)]; rfl
    ·exact .inl ⟨q,by simp,hh⟩
   exact absurd (this.symm.trans hn) (by simp)
 have hzz:hangs z (z % 1000) = false:=by rw [hangs_false]; exact ⟨by omega,fun h => by omega⟩
 have hz' : ((s.kill z).rt x z).get (z % 1000) = .bx n := by
  rw [get_rt,if_neg (by rw [k2]; simp),get_kill,hz,if_neg (by rw [hzz]; simp [V.on])]
  rfl
 have ho':owMove ow x z b = some (z % 1000,0):=owMove_ne hob k2
 have hcr:CellRep lo par (owMove ow x z) w z (.own mx nx cx) u:=OwnAt.ren k4 (fun b r hb => owMove_self hb) (fun b hb => owMove_none.2 hb) hOx
 refine ⟨h2.storeBox hz' hnz hb ho' hn hlt h1000 k3 (v:=.own mx nx cx) hcr (fun _ => (Kd.kill z s).rt) rfl,hone,ho',?_⟩
 rw [get_if,if_neg (by omega),get_killSp,hz']
 rfl
theorem Gam.storeS {z y c b N : Nat} {ty : TypeId} (hz1 : z < 1000) : ∀ {n j : Nat} {s : St} {ow : Ow} {w : World} {arr : Array Value} {vs : List Value}, Gam lo Xb par ow s tm w → s.get z = .bx N → nmv tm w z = some (.pointer (some ⟨b, 0, none⟩)) →
  w.heap[b]? = some (.cells arr ty (0,0)) → ow b = some (z,0) → arr.size = N → j + n ≤ N → vs.length = n → (∀ (i:Nat) (v:Value) (w':World),vs[i]? = some v → (∀ k,k ≠ b → w'.heap[k]? = w.heap[k]?) → nmv tm w' (y + 1000 * (c + (j + i))) = some v) →
  stSK z y c j n s K → ∃ s' ow',K s' ∧ Gam lo Xb par ow' s' tm (setCs w b j vs) ∧ ∀ v ∈ vs,v.oneCell' = true
 | 0, j, s, ow, w, arr, vs, hG, _, _, _, _, _, _, hl, _, hk => by
  have:=List.eq_nil_of_length_eq_zero hl
  subst this
  exact ⟨s,ow,hk,hG,by simp⟩
 | n + 1,j,s,ow,w,arr,[],_,_,_,_,_,_,_,hl,_,_ => by simp at hl
 | n + 1, j, s, ow, w, arr, v :: vs, hG, hz, hnz, hb, hob, hn, hj, hl, hv, hk => by
  rw [stSK_s] at hk
  generalize hx:s.get (y + 1000 * (c + j)) = vx at hk
  cases vx with
  | own m nl cs =>
   rw [st1K_o] at hk
   obtain ⟨k1,k2,k3,k4,k5,k6⟩:=hk
   have hm:(z + 1000 * (1 + j)) % 1000 = z:=by omega
   have hd:(z + 1000 * (1 + j)) / 1000 - 1 = j:=by omega
   have hnx:=hv 0 v w (by simp) (fun _ _ => rfl)
   rw [Nat.add_zero] at hnx
   obtain ⟨q1,q2,q3,q4⟩:=hG.store1 (z:=z + 1000 * (1 + j)) (by rw [hm]; exact hz) (by rw [hm]; exact hnz) hb (by rw [hm]; exact hob) hn (by rw [hd]; omega) (by omega) k4 hx k1 hnx k2 k3 k5
   rw [hd] at q1
   rw [hm] at q1 q3 q4 k6
   have oth:∀ k,k ≠ b → (w.setCell ⟨b,j,none⟩ v).heap[k]? = w.heap[k]?:=fun k hk => heap_setCell_other w _ k v hk
   obtain ⟨s', ow', r1, r2, r3⟩ := Gam.storeS hz1 (n := n) (j := j + 1) (vs := vs) q1 q4 (by rw [nmv_slot hz1] at hnz ⊢; exact hnz) (setCell_row hb) q3 (by simpa using hn) (by omega) (by simpa using hl) (fun i v' w' hi hw' => by
    have:=hv (i + 1) v' w' (by simpa using hi) (fun k hk => (hw' k hk).trans (oth k hk))
    rw [show j + 1 + i = j + (i + 1) by omega]; exact this) k6
   exact ⟨s',ow',r1,r2,fun v' hv' => by rcases List.mem_cons.1 hv' with rfl | h; exact q2; exact r3 _ h⟩
  | t g r =>
   rw [st1K_t] at hk
   obtain ⟨k1,k2,k3,k4,k6⟩:=hk
   have hm:(z + 1000 * (1 + j)) % 1000 = z:=by omega
   have hd:(z + 1000 * (1 + j)) / 1000 - 1 = j:=by omega
   have hnx:=hv 0 v w (by simp) (fun _ _ => rfl)
   rw [Nat.add_zero] at hnx
   have hna:(V.t g r).isAny = false:=by cases r <;> first | rfl | (simp [T.one] at k3; done)
   obtain ⟨u,f1,f2⟩:=hG.ent (y + 1000 * (c + j)) k1 (by rw [hx]; exact hna)
   rw [hnx] at f1; cases f1
   rw [hx] at f2
   have hone:v.oneCell' = true:=Fz.one0 (f2:Fz _ _ _ _) k3
   have hsp:∀ q,(V.t g r).onSp q = false:=fun q => by cases g <;> first | rfl | cases k2
   have q1:=hG.storeBox (z:=z + 1000 * (1 + j)) (v:=.t g r) (x:=v) (by rw [hm]; exact hz) (by rw [hm]; exact hnz) hb (by rw [hm]; exact hob) hn (by rw [hd]; omega) (by omega) k4 f2 (fun h => by cases h) (hsp _)
   rw [hd] at q1
   rw [hm] at q1 k6
   have oth:∀ k,k ≠ b → (w.setCell ⟨b,j,none⟩ v).heap[k]? = w.heap[k]?:=fun k hk => heap_setCell_other w _ k v hk
   obtain ⟨s', ow', r1, r2, r3⟩ := Gam.storeS hz1 (n := n) (j := j + 1) (vs := vs) q1 (by rw [get_if, if_neg (by omega), get_killSp, hz]; rfl) (by rw [nmv_slot hz1] at hnz ⊢; exact hnz) (setCell_row hb) hob (by simpa using hn) (by omega) (by simpa using hl) (fun i v' w' hi hw' => by
    have:=hv (i + 1) v' w' (by simpa using hi) (fun k hk => (hw' k hk).trans (oth k hk))
    rw [show j + 1 + i = j + (i + 1) by omega]; exact this) k6
   exact ⟨s',ow',r1,r2,fun v' hv' => by rcases List.mem_cons.1 hv' with rfl | h; exact hone; exact r3 _ h⟩
  | _ => exact hk.elim
theorem Gam.storeF {z b N : Nat} {g : G} {ty : TypeId} (hz1 : z < 1000) (hg : g.bas = true) : ∀ {fs : List T} {j : Nat} {s : St} {w : World} {arr : Array Value} {vs : List Value}, Gam lo Xb par ow s tm w → s.get z = .bx N → nmv tm w z = some (.pointer (some ⟨b, 0, none⟩)) →
  w.heap[b]? = some (.cells arr ty (0,0)) → ow b = some (z,0) → arr.size = N → j + fs.length ≤ N → N < 90 → FzL (okG lo ow g) w fs vs →
  stFK g z j fs s K → ∃ s',K s' ∧ Gam lo Xb par ow s' tm (setCs w b j vs) ∧ ∀ v ∈ vs,v.oneCell' = true
 | [], j, s, w, arr, vs, hG, _, _, _, _, _, _, _, hl, hk => by
  have:vs = []:=by simpa [FzL] using hl
  subst this
  exact ⟨s,hk,hG,by simp⟩
 | t :: fs, j, s, w, arr, vs, hG, hz, hnz, hb, hob, hn, hj, hN, hl, hk => by
  rw [stFK_s] at hk
  obtain ⟨k3,k6⟩:=hk
  obtain ⟨v,vs',rfl,f2,f3⟩:=hl
  simp only [List.length_cons] at hj
  have hm:(z + 1000 * (1 + j)) % 1000 = z:=by omega
  have hd:(z + 1000 * (1 + j)) / 1000 - 1 = j:=by omega
  have hone:v.oneCell' = true:=Fz.one0 f2 k3
  have hsp:∀ q,(V.mk g t).onSp q = false:=fun q => by cases t <;> (cases g <;> first | rfl | cases hg)
  have hnm:(V.mk g t).isName = false:=by cases t <;> rfl
  have q1:=hG.storeBox (z:=z + 1000 * (1 + j)) (v:=.mk g t) (x:=v) (by rw [hm]; exact hz) (by rw [hm]; exact hnz) hb (by rw [hm]; exact hob) hn (by rw [hd]; omega) (by omega) (by omega) (mk_cell f2) (fun h => by rw [hnm] at h; cases h) (hsp _)
  rw [hd] at q1
  rw [hm] at q1
  have f3' : FzL (okG lo ow g) (w.setCell ⟨b, j, none⟩ v) fs vs' := FzL.imp (fun k _ hk => ⟨hk, heap_setCell_other w _ k v (by
   rintro rfl
   cases g <;> simp [okG,hob] at hk <;> cases hg)⟩) fs vs' f3
  obtain ⟨s',r1,r2,r3⟩:=Gam.storeF hz1 hg (fs:=fs) (j:=j + 1) (vs:=vs') q1 (by rw [get_if,if_neg (by omega),get_killSp,hz]; rfl) (by rw [nmv_slot hz1] at hnz ⊢; exact hnz) (setCell_row hb) hob (by simpa using hn) (by omega) hN f3' k6
  exact ⟨s',r1,r2,fun v' hv' => by rcases List.mem_cons.1 hv' with rfl | h; exact hone; exact r3 _ h⟩
theorem sts_goi {p v : X} {p' v' : Operand} {t : TypeId} {n : Nat} (hG : Gam lo Xb par ow s a.tmps w) (hd : oper.dst = none) (ho : oper.op = .store t p' v') (h1 : tyStL P t n = true) (hp : xOk p p' = true) (hv : xOk v v' = true)
  (hk:wpI P (.sts p v n) K s):GoI P lo Xb par a w K oper:=by
 have r1:=xOk_sound hG hp
 have r2:=xOk_sound hG hv
 rw [wpI_sts] at hk
 generalize s.look p = wp at r1 hk
 generalize s.look v = wv at r2 hk
 cases wp with
 | pc z v0 ts =>
  obtain ⟨N,b,arr,ty,hz,hnz,hb,hob,hn,hlt,h1000,hpe,hts,_⟩:=r1
  have htl:=hts.length
  obtain ⟨t1,t2⟩:=tyStL_spec h1 w
  have run : ∀ {vs : List Value}, z / 1000 = 1 → a.eval v' = .agg vs.toArray → vs.length = n → ts.length = n → (∀ v ∈ vs, v.oneCell' = true) → (execOp a.eval oper).run P w = .ok .skip (setCs w b 0 vs) := by
   intro vs h1 he hl ht hone
   rw [show z / 1000 - 1 = 0 by omega] at hpe
   have hs:=storeCells_run (P:=P) (vs:=vs) (j:=0) hb (by simp at htl; omega) hone
   simp [execOp,ho,Instr.storeAt,Instr.sureAddr,hpe,he,storeVar,t2,Value.cells,hl,hs]
  have fin : ∀ {vs : List Value} {y c : Nat}, z / 1000 = 1 → a.eval v' = .agg vs.toArray → vs.length = n → ts.length = n →
    (∀ (i:Nat) (v:Value) (w':World),vs[i]? = some v → (∀ k,k ≠ b → w'.heap[k]? = w.heap[k]?) → nmv a.tmps w' (y + 1000 * (c + (0 + i))) = some v) → stSK (z % 1000) y c 0 n s K → GoI P lo Xb par a w K oper:=by
   intro vs y c h1 he hl ht hnm hk
   obtain ⟨s',ow',q1,q2,q3⟩:=Gam.storeS (z:=z % 1000) (by omega) hG hz hnz hb hob hn (by simp at htl; omega) hl hnm hk
   intro next Q N
   unfold Oper.wp
   rw [run h1 he hl ht q3]
   simp only [Oper.upon]
   rw [hd]
   exact N s' a _ ow' q1 ((Grow.setCs (w:=w) (b:=b) (j:=0) (vs:=vs)).mono fun k _ e => by rw [e]; exact (hG.base b _ hob).2) q2 rfl rfl
  cases wv with
  | ag y m us =>
   rw [stsK_ag] at hk
   obtain ⟨k1,k2,k3,k4,k5⟩:=hk
   obtain ⟨hy,hy1,hny,xs,e,hxl,_⟩:=r2
   refine fin (vs:=xs) k1 e (by omega) k3 (fun i v w' hi _ => ?_) k5
   have htm:a.tmps.getD y undef = .agg xs.toArray:=by rw [nmv_slot hy1] at hny; rw [Option.some.inj hny]; exact e
   have hil:i < xs.length:=(List.getElem?_eq_some_iff.1 hi).1
   unfold nmv
   rw [if_neg (by omega),show (y + 1000 * (200 + (0 + i))) % 1000 = y by omega,htm]
   simp only
   rw [if_pos (by omega),show (y + 1000 * (200 + (0 + i))) / 1000 - 200 = i by omega]
   simpa using hi
  | bv y m us =>
   rw [stsK_bv] at hk
   obtain ⟨k1,k2,k3,k4,k5,k6⟩:=hk
   obtain ⟨hy,hy1,by',arr',ty',e1,e2,e3,e4,e5,_⟩:=r2
   refine fin (vs:=arr'.toList) k1 (by simpa using e5) (by simp; omega) k3 (fun i v w' hi hw' => ?_) k6
   have hbne : by' ≠ b := fun e => by
    rw [e,hob] at e3; cases e3; exact k5 rfl
   have htm:a.tmps.getD y undef = .pointer (some ⟨by',0,none⟩):=by rw [nmv_slot hy1] at e1; simpa using e1
   have hil:i < arr'.toList.length:=(List.getElem?_eq_some_iff.1 hi).1
   simp only [Array.length_toList] at hil
   unfold nmv
   rw [if_neg (by omega),show (y + 1000 * (1 + (0 + i))) % 1000 = y by omega,htm]
   simp only
   rw [if_pos (by omega),show (y + 1000 * (1 + (0 + i))) / 1000 - 1 = i by omega]
   rw [cell_of_row w' by' i arr' ty' (0,0) ((hw' by' hbne).trans e2)]
   simpa using hi
  | t g r =>
   cases r with
   | a fs =>
    rw [stsK_ta] at hk
    obtain ⟨k1,k2,k3,k4,k5,k6⟩:=hk
    obtain ⟨xs,e,hf⟩:=(r2:Fz _ _ _ _)
    obtain ⟨s',q1,q2,q3⟩:=Gam.storeF (z:=z % 1000) (by omega) k2 hG hz hnz hb hob hn (by simp at htl; omega) (by simp at htl; omega) hf k6
    intro next Q N
    unfold Oper.wp
    rw [run k1 e (by rw [hf.length]; exact k3) k4 q3]
    simp only [Oper.upon]
    rw [hd]
    exact N s' a _ ow q1 ((Grow.setCs (w:=w) (b:=b) (j:=0) (vs:=xs)).mono fun k _ e => by rw [e]; exact (hG.base b _ hob).2) q2 rfl rfl
   | _ => exact hk.elim
  | _ => exact hk.elim
 | _ => exact hk.elim
theorem setCell_id {b j : Nat} {v : Value} {arr : Array Value} {ty : TypeId} (hb : w.heap[b]? = some (.cells arr ty (0, 0))) (hv : arr[j]? = some v) : w.setCell ⟨b, j, none⟩ v = w := by
 have hh : (w.setCell ⟨b, j, none⟩ v).heap = w.heap := by
  apply Array.ext_getElem?
  intro k
  by_cases hk : k = b
  ·subst hk
   rw [setCell_row hb,hb]
   have : arr.setIfInBounds j v = arr := by
    apply Array.ext
    ·simp
    ·intro i h1 h2
     rw [Array.getElem_setIfInBounds h2]
     by_cases e : j = i
     ·subst e
      rw [if_pos rfl]
      rw [Array.getElem?_eq_getElem h2] at hv; exact (Option.some.inj hv).symm
     ·rw [if_neg e]
   rw [this]
  ·exact heap_setCell_other w ⟨b,j,none⟩ k v hk
 unfold World.setCell at hh ⊢
 cases w
 simp only at hh ⊢
 rw [hh]
theorem setCs_id {b : Nat} {ty : TypeId} {arr : Array Value} : ∀ {vs : List Value} {j : Nat}, w.heap[b]? = some (.cells arr ty (0, 0)) → (∀ i v, vs[i]? = some v → arr[j + i]? = some v) → setCs w b j vs = w
 | [],j,_,_ => rfl
 | v :: vs, j, hb, hv => by
  simp only [setCs]
  rw [setCell_id (j:=j) hb (by simpa using hv 0 v (by simp))]
  exact setCs_id hb fun i x hi => by
   have:=hv (i + 1) x (by simpa using hi)
   rw [show j + 1 + i = j + (i + 1) by omega]; exact this
theorem box_ag_goi {d y n : Nat} {x : X} {x' : Operand} {e : TypeId} {ts : List T} (hG : Gam lo Xb par ow s a.tmps w) (hd : oper.dst = some d) (hd1 : d < 1000) (hsz : d < a.tmps.size) (ho : oper.op = .box e x') (hx : xOk x x' = true)
  (hl:s.look x = .ag y n ts) (hk:wpI P (.box d x) K s):GoI P lo Xb par a w K oper:=by
 have r1:=xOk_sound hG hx
 have hk:boxK d s K (s.look x):=by cases x <;> exact hk
 rw [hl] at r1 hk
 rw [boxK_ag] at hk
 obtain ⟨k1,k2,k3⟩:=hk
 obtain ⟨hy,hy1,hny,xs,e1,hxl,_⟩:=r1
 have hyd:y ≠ d:=fun h => by rw [h,hangs_self] at k1; cases k1
 have G0 : Gam lo Xb par (owNew ow w.heap.size d) ((d, .bx n) :: s.kill d) (a.tmps.setIfInBounds d (.pointer (some ⟨w.heap.size, 0, none⟩))) (w.alloc (.cells xs.toArray e)) := by
  have:=Gam.mkBox (E:=[]) (n:=n) (arr:=xs.toArray) (ty:=e) (hG.kill d) (Kd.kill d s) hd1 hsz (by simpa using hxl) (by simp)
  simpa using this
 have hb:=heap_alloc_new w (.cells xs.toArray e)
 obtain ⟨s', ow', q1, q2, q3⟩ := Gam.storeS hd1 (n := n) (j := 0) (vs := xs) (N := n) (b := w.heap.size) (arr := xs.toArray) (ty := e) G0 (by rw [get_if, if_pos rfl]) (by rw [nmv_slot hd1]; simp [hsz]) hb owNew_new (by simpa using hxl) (by omega) hxl (fun i v w' hi _ => by
  have htm : (a.tmps.setIfInBounds d (.pointer (some ⟨w.heap.size, 0, none⟩))).getD y undef = .agg xs.toArray := by
   rw [nmv_slot hy1] at hny
   have:(a.tmps.setIfInBounds d (.pointer (some ⟨w.heap.size,0,none⟩))).getD y undef = a.tmps.getD y undef:=by simp [Array.getElem?_setIfInBounds_ne (Ne.symm hyd)]
   rw [this,Option.some.inj hny]; exact e1
  have hil:i < xs.length:=(List.getElem?_eq_some_iff.1 hi).1
  unfold nmv
  rw [if_neg (by omega),show (y + 1000 * (200 + (0 + i))) % 1000 = y by omega,htm]
  simp only
  rw [if_pos (by omega),show (y + 1000 * (200 + (0 + i))) / 1000 - 200 = i by omega]
  simpa using hi) k3
 rw [setCs_id hb (fun i v hi => by simpa using hi)] at q2
 refine goi_val hd (u:=.pointer (some ⟨w.heap.size,0,none⟩)) (w':=w.alloc (.cells xs.toArray e)) ?_ q1 (Grow.alloc _ w _) q2
 simp [execOp,ho,Instr.box,newVar,newRow,e1,Value.cells]
end
end Go.Vc
namespace Go.Vc
open Go
section
variable {P:Program} {lo:Nat} {Xb:Nat → Prop} {par:Nat → Option Value} {ow ow':Ow} {tm tm':Array Value} {a:Act} {w w' w1:World} {s s':St} {K:St → Prop} {oper:Oper}
theorem Grow.setRow (w : World) (b : Nat) (arr : Array Value) : Grow (fun k => k = b) w (w.setRow b arr) :=
 ⟨rfl,rfl,rfl,by simp,fun k _ hk => setRow_other w b k _ hk,Nat.le_refl _⟩
theorem Gam.setRow {y m : Nat} {nl : Option Bool} {cs cs' : List T} {hdr : Value} {b cap : Nat} {arr arr' : Array Value} {ty : TypeId} {xs' : List Value} (h : Gam lo Xb par ow s tm w) (hy : s.get y = .own m nl cs) (hl : s.lv y = true) (hn : nmv tm w y = some hdr)
  (he:hdr = .slice (some ⟨b,0,none⟩) cs.length cap) (hb:w.heap[b]? = some (.cells arr ty (0,0))) (ho:ow b = some (y,0)) (hnl:nl ≠ some true) (hs:arr.size = cap) (hle:cs.length ≤ cap) (hmx:cap ≤ maxLen)
  (hs':arr'.size = arr.size) (hlen:cs'.length = cs.length) (hsc:scalL cs') (hx:FzL (fun _ => True) w cs' xs') (ht:arr'.toList.take cs.length = xs') :
  Gam lo Xb par ow ((y,.own m nl cs') :: s.killSp y) tm (w.setRow b arr'):=by
 obtain ⟨u0,e0,hO⟩:=h.ent y hl (by rw [hy]; rfl)
 rw [hn] at e0; cases e0
 rw [hy] at hO
 have hp:=hO.1
 have oth:∀ k,k ≠ b → (w.setRow b arr').heap[k]? = w.heap[k]?:=fun k hk => setRow_other w b k _ hk
 have nm : ∀ z, s.lv z = true → ∀ u, nmv tm w z = some u → nmv tm (w.setRow b arr') z = some u := fun z hz u hu =>
  h.nmKeep hz (fun b' _ hb' h1000 => oth b' (by
   rintro rfl
   rw [ho] at hb'
   have:y = z % 1000:=by cases hb'; rfl
   subst this
   rw [lv_iff,hy] at hz
   rcases hz with hz | hz
   ·omega
   ·cases hz)) hu
 have lvs : ∀ z, St.lv ((y, .own m nl cs') :: s.killSp y) z = true → s.lv z = true := by
  intro z hz
  rw [lv_iff] at hz ⊢
  rcases hz with hz | hz
  ·exact .inl hz
  ·rw [get_top_sp] at hz
   split at hz
   ·cases hz
   ·split at hz
    ·cases hz
    ·exact .inr hz
 have al : ∀ z, okAl ((y, .own m nl cs') :: s.killSp y) z → okAl s z := by
  intro z hz
  rw [okAl_iff,get_top_sp] at hz
  rw [okAl_iff]
  by_cases hzy : z = y
  ·subst hzy; exact .inl ⟨⟨m,nl,cs,hy⟩,hl⟩
  ·simp only [hzy,if_false] at hz
   split at hz
   ·rcases hz with ⟨⟨_,_,_,e⟩,_⟩ | ⟨⟨_,e⟩,_⟩ <;> cases e
   ·rcases hz with ⟨e, hz⟩ | e
    ·exact .inl ⟨e,lvs z hz⟩
    ·exact .inr e
 have pe : ∀ z, okPe ((y, .own m nl cs') :: s.killSp y) z → okPe s z := by
  intro z hz
  rw [okPe_iff,get_top_sp] at hz
  rw [okPe_iff]
  by_cases hzy : z = y
  ·subst hzy; exact ⟨⟨m,nl,cs,hy⟩,hl⟩
  ·simp only [hzy,if_false] at hz
   split at hz
   ·obtain ⟨⟨_,_,_,e⟩,_⟩:=hz; cases e
   ·exact ⟨hz.1,lvs z hz.2⟩
 refine Gam.step (M := fun _ => True) (MG := fun g => g.onSp y = false) (I := fun z => z ≠ y ∧ s.lv z = true) h (by simpa using h.base) (by simp) (fun z hz hnz => ?_) (fun z hz => nm z hz.2)
  (fun z hz b' _ r' hb' => ⟨hb', oth b' (by rintro rfl; rw [ho] at hb'; cases hb'; exact hz.1 rfl)⟩) ⟨rfl, rfl⟩ (fun z _ hz => ⟨al z hz, fun u => nm z (by
   have:=al z hz; rw [okAl_iff] at this; rcases this with h | h; exact h.2; exact lv_iff.2 (.inl h.2)) u⟩) (fun z _ hz => pe z hz)
  (fun x hx _ hz => ⟨?_,fun u hu => nm x (lv_iff.2 (.inl hx)) u hu⟩) (fun g' hg' b' _ hb' => ⟨hb',oth b' (okG_ne ho hg' hb')⟩)
 ·by_cases hzy : z = y
  ·subst hzy
   left
   refine ⟨hdr,nm z hl hdr hn,?_⟩
   rw [get_top]
   exact ⟨hp,.inr ⟨hnl,b,cap,arr',ty,xs',by rw [he,hlen],ho,setRow_heap w b arr _ ty _ hb,by rw [hs',hs],by rw [hlen]; exact hle,hmx,by rw [hlen]; exact ht,hx.scal hsc,fun _ => (scal_deep hsc hx).veil⟩⟩
  ·right
   rw [get_top_sp,if_neg hzy] at hnz ⊢
   split at hnz
   ·cases hnz
   ·rename_i hsp
    simp only [Bool.not_eq_true] at hsp
    rw [hsp]
    exact ⟨⟨hzy,lvs z hz⟩,by simp,lvs z hz,V.onSp_not hsp⟩
 ·rw [okPc_iff,get_top_sp] at hz
  obtain ⟨k,hz⟩:=hz
  split at hz
  ·cases hz
  ·split at hz
   ·cases hz
   ·exact okPc_iff.2 ⟨k,hz⟩
theorem cpyD_spec {wp : W} {u : Value} {y l h m : Nat} {nl : Option Bool} {cs : List T} (hr : RepW lo par ow tm w s wp u) (he : cpyD wp = some (y, l, h, m, nl, cs)) (h1 : l ≤ h) (h2 : h ≤ cs.length) :
  s.get y = .own m nl cs ∧ s.lv y = true ∧ ∃ hdr, nmv tm w y = some hdr ∧ OwnAt lo par ow w y m nl cs hdr ∧
   ∃ base c,u = .slice base (h - l) c ∧ ((l = h ∧ cs = cs) ∨ (l < h ∧ ∃ b cap,hdr = .slice (some ⟨b,0,none⟩) cs.length cap ∧ base = some ⟨b,l,none⟩)):=by
 cases wp with
 | own y' m' nl' cs' =>
  rw [cpyD_o] at he
  cases he
  obtain ⟨f1,f2,f3,f4⟩:=hr
  refine ⟨f1,f2,u,f3,f4,?_⟩
  rcases f4.2 with ⟨e1, e2, _⟩ | ⟨_, b, cap, arr, ty, xs, e1, _⟩
  ·exact ⟨none,0,by rw [e1,e2]; rfl,.inl ⟨by rw [e2]; rfl,rfl⟩⟩
  ·refine ⟨_,cap,by rw [e1]; rfl,?_⟩
   by_cases hc : cs.length = 0
   ·exact .inl ⟨hc.symm,rfl⟩
   ·exact .inr ⟨by omega,b,cap,e1,rfl⟩
 | sl y' l' h' m' nl' cs' =>
  rw [cpyD_s] at he
  cases he
  obtain ⟨f1,f2,a0,len,cap,f3,f4,f5,f6,f7,f8⟩:=hr
  refine ⟨f1,f2,_,f3,f4,_,_,f8,?_⟩
  by_cases hlh : l = h
  ·exact .inl ⟨hlh,rfl⟩
  ·refine .inr ⟨by omega,?_⟩
   rcases f4.2 with ⟨e1, e2, _⟩ | ⟨_, b, cap', arr, ty, xs, e1, _⟩
   ·cases e1; omega
   ·cases e1
    refine ⟨b,cap,rfl,?_⟩
    rw [if_neg (by omega)]
    simp only [Option.map_some,Nat.mul_one]
    unfold Addr.add
    by_cases h0 : l = 0
    ·simp [h0]
    ·rw [if_neg h0]; simp
 | _ => cases he
theorem over_run {wp : W} {u : Value} {y l h m n : Nat} {nl : Option Bool} {cs new : List T} {news : List Value} (hG : Gam lo Xb par ow s tm w) (hr : RepW lo par ow tm w s wp u) (he : cpyD wp = some (y, l, h, m, nl, cs)) (h1 : l ≤ h) (h2 : h ≤ cs.length)
  (hcs:scalL cs) (hn:new.length = n) (hnh:n ≤ h - l) (hnew:scalL new) (hx:FzL (fun _ => True) w new news) :
  ∃ base c w', u = .slice base (h - l) c ∧ ((match base with | some ad => storeCells ad news | none => pure ()) : Sem Unit).run P w = .ok () w' ∧ Grow (fun k => lo ≤ k ∨ Xb k) w w' ∧
   Gam lo Xb par ow ((y,.own m nl (cs.take l ++ new ++ cs.drop (l + n))) :: s.killSp y) tm w':=by
 obtain ⟨f1,f2,hdr,f3,f4,base,c,f5,f6⟩:=cpyD_spec hr he h1 h2
 have hlenNew:news.length = n:=by rw [← hn]; exact hx.length
 by_cases h0 : n = 0
 ·have e1:new = []:=List.eq_nil_of_length_eq_zero (by omega)
  have e2:news = []:=List.eq_nil_of_length_eq_zero (by omega)
  refine ⟨base, c, w, f5, ?_, Grow.refl _ _, ?_⟩
  ·subst e2; cases base <;> simp [storeCells]
  ·subst e1; subst h0
   simp only [List.append_nil,Nat.add_zero,List.take_append_drop]
   obtain ⟨hp,hO⟩:=f4
   rcases hO with ⟨q1, q2, q3⟩ | ⟨hnl, b, cap, arr, ty, xs, e, ho, hb, hs, hle, hm, ht, hxx, hd⟩
   ·
    refine Gam.step (M := fun _ => True) (MG := fun g => g.onSp y = false) (I := fun z => s.lv z = true) hG hG.base (Nat.le_refl _) (fun z hz hnz => ?_) (fun z _ u hu => hu) (fun z _ b' _ r' hb' => ⟨hb', rfl⟩) ⟨rfl, rfl⟩ (fun z _ hz => ⟨?_, fun u hu => hu⟩) (fun z _ hz => ?_) (fun x hx' _ hz => ⟨?_, fun u hu => hu⟩) (fun g' _ b' _ hb' => ⟨hb', rfl⟩)
    ·have lvz : s.lv z = true := by
      rw [lv_iff] at hz ⊢
      rcases hz with hz | hz
      ·exact .inl hz
      ·rw [get_top_sp] at hz
       split at hz
       ·cases hz
       ·split at hz
        ·cases hz
        ·exact .inr hz
     by_cases hzy : z = y
     ·subst hzy
      left
      refine ⟨hdr,f3,?_⟩
      rw [get_top]
      exact ⟨hp,.inl ⟨q1,q2,q3⟩⟩
     ·right
      rw [get_top_sp,if_neg hzy] at hnz ⊢
      split at hnz
      ·cases hnz
      ·rename_i hsp
       simp only [Bool.not_eq_true] at hsp
       rw [hsp]
       exact ⟨lvz,by simp,lvz,V.onSp_not hsp⟩
    ·have lvs : ∀ q, St.lv ((y, .own m nl cs) :: s.killSp y) q = true → s.lv q = true := by
      intro q hq
      rw [lv_iff] at hq ⊢
      rcases hq with hq | hq
      ·exact .inl hq
      ·rw [get_top_sp] at hq
       split at hq
       ·cases hq
       ·split at hq
        ·cases hq
        ·exact .inr hq
     rw [okAl_iff,get_top_sp] at hz
     rw [okAl_iff]
     by_cases hzy : z = y
     ·subst hzy; exact .inl ⟨⟨m,nl,cs,f1⟩,f2⟩
     ·simp only [hzy,if_false] at hz
      split at hz
      ·rcases hz with ⟨⟨_,_,_,e⟩,_⟩ | ⟨⟨_,e⟩,_⟩ <;> cases e
      ·rcases hz with ⟨e, hz⟩ | e
       ·exact .inl ⟨e,lvs z hz⟩
       ·exact .inr e
    ·have lvs : ∀ q, St.lv ((y, .own m nl cs) :: s.killSp y) q = true → s.lv q = true := by
      intro q hq
      rw [lv_iff] at hq ⊢
      rcases hq with hq | hq
      ·exact .inl hq
      ·rw [get_top_sp] at hq
       split at hq
       ·cases hq
       ·split at hq
        ·cases hq
        ·exact .inr hq
     rw [okPe_iff,get_top_sp] at hz
     rw [okPe_iff]
     by_cases hzy : z = y
     ·subst hzy; exact ⟨⟨m,nl,cs,f1⟩,f2⟩
     ·simp only [hzy,if_false] at hz
      split at hz
      ·obtain ⟨⟨_,_,_,e⟩,_⟩:=hz; cases e
      ·exact ⟨hz.1,lvs z hz.2⟩
    ·rw [okPc_iff,get_top_sp] at hz
     obtain ⟨k,hz⟩:=hz
     split at hz
     ·cases hz
     ·split at hz
      ·cases hz
      ·exact okPc_iff.2 ⟨k,hz⟩
   ·have:=hG.setRow (arr':=arr) (xs':=xs) f1 f2 f3 e hb ho hnl hs hle hm rfl rfl hcs (hxx.scal hcs) ht
    rwa [setRow_self w b arr ty (0,0) hb] at this
 ·have hlt:l < h:=by omega
  have f6 : ∃ b cap, hdr = .slice (some ⟨b, 0, none⟩) cs.length cap ∧ base = some ⟨b, l, none⟩ := by
   rcases f6 with ⟨e, _⟩ | ⟨_, e⟩
   ·omega
   ·exact e
  obtain ⟨b,cap,e1,e2⟩:=f6
  obtain ⟨hp,hO⟩:=id f4
  rcases hO with ⟨q1, q2, q3⟩ | ⟨hnl, b', cap', arr, ty, xs, e, ho, hb, hs, hle, hm, ht, hxx, hd⟩
  ·rw [e1] at q1; cases q1
  ·rw [e1] at e; cases e
   have h1c : ∀ v ∈ news, v.oneCell' = true := by
    intro v hv
    obtain ⟨k,hk,ee⟩:=List.getElem_of_mem hv
    have hk':k < new.length:=by rw [← hx.length]; exact hk
    obtain ⟨x,hx1,hf⟩:=hx.get k hk'
    have:x = v:=by rw [List.getElem?_eq_getElem hk,ee] at hx1; exact (Option.some.inj hx1).symm
    subst this
    have hm':new.getD k .any ∈ new:=by rw [List.getD,List.getElem?_eq_getElem hk']; exact List.getElem_mem hk'
    have hsc:=hnew _ hm'
    revert hf hsc
    generalize new.getD k .any = t
    intro hf hsc
    exact hf.one (by cases t <;> simp [T.scal] at hsc ⊢)
   have hst:=run_storeCells_at (P:=P) b l ty news 0 arr w hb (by omega) h1c
   simp only [Nat.add_zero] at hst
   refine ⟨base,c,_,f5,by rw [e2]; exact hst,(Grow.setRow w b _).mono fun k _ e => by rw [e]; exact (hG.base b _ ho).2,?_⟩
   refine hG.setRow (xs' := xs.take l ++ news ++ xs.drop (l + n)) f1 f2 f3 e1 hb ho hnl hs hle hm ?_ ?_ ?_ ?_ ?_
   ·simp; omega
   ·simp; omega
   ·intro t ht
    rcases List.mem_append.1 ht with ht | ht
    ·rcases List.mem_append.1 ht with ht | ht
     ·exact hcs t (List.mem_of_mem_take ht)
     ·exact hnew t ht
    ·exact hcs t (List.mem_of_mem_drop ht)
   ·have hxt:FzL (fun _ => True) w cs xs:=hxx.scal hcs
    exact ((hxt.take l).app hx).app (hxt.drop (l + n))
   ·subst ht
    apply List.ext_getElem?
    intro i
    simp only [List.getElem?_take,List.getElem?_append,List.getElem?_drop,List.length_append,List.length_take,Array.length_toList,List.take_take]
    rw [hlenNew]
    by_cases hi : i < cs.length
    ·rw [if_pos hi]
     have m1:min l arr.size = l:=by omega
     have m2:min (min l cs.length) arr.size = l:=by omega
     rw [m1,m2]
     by_cases hil : i < l + n
     ·rw [if_pos hil,if_pos hil]
      by_cases hil2 : i < l
      ·rw [if_pos hil2,if_pos hil2,if_pos hil2,if_pos (by omega)]
      ·rw [if_neg hil2,if_neg hil2]
     ·rw [if_neg hil,if_neg hil,if_pos (by omega)]
    ·rw [if_neg hi]
     have m2:min (min l cs.length) arr.size = l:=by omega
     rw [m2,if_neg (by omega),if_neg (by omega)]
theorem goi_unit (hd : oper.dst = none) {u : Value} (hr : (execOp a.eval oper).run P w = .ok (.value u) w') (hk : K s') (hg : Grow (fun k => lo ≤ k ∨ Xb k) w w')
  (hG:Gam lo Xb par ow' s' a.tmps w'):GoI P lo Xb par a w K oper:=by
 intro next Q N
 unfold Oper.wp
 rw [hr]
 simp only [Oper.upon]
 rw [hd]
 exact N s' _ w' ow' hk hg hG rfl rfl
theorem cont?_fz {wq : W} {u : Value} {xs : List T} (hr : RepW lo par ow tm w s wq u) (he : wq.cont? = some xs) : ∃ nl, Fz (fun _ => True) w (.s nl xs) u := by
 cases wq with
 | t g r =>
  cases r with
  | s nl cs => cases he; exact ⟨nl,Fz.mono (fun _ _ => trivial) hr⟩
  | _ => cases he
 | own y m nl cs => cases he; exact ⟨nl,OwnAt.fz hr.2.2.2⟩
 | _ => cases he
theorem cpy_goi {d : Nat} {p q : X} {y1 y2 : Operand} {ys : Array Operand} {ts : Array TypeId} {t : TypeId} {tr : List TypeId} (hG : Gam lo Xb par ow s a.tmps w) (hd : oper.dst = some d) (hd1 : d < 1000) (hsz : d < a.tmps.size)
  (ho:oper.op = .call { callee:=.builtin .copy,args:=ys,argTypes:=ts }) (hys:ys.toList = [y1,y2]) (hts:ts.toList = t :: tr) (h1:tyS1 P t = true) (hp:xOk p y1 = true) (hq:xOk q y2 = true)
  (hk:wpI P (.cpy d p q) K s):GoI P lo Xb par a w K oper:=by
 obtain ⟨e,inf,ht,hei,hs⟩:=tyS1_spec h1
 have r1:=xOk_sound hG hp
 have r2:=xOk_sound hG hq
 rw [wpI_cpy] at hk
 cases hpd:cpyD (s.look p) with
 | none => rw [hpd] at hk; exact hk.elim
 | some pp =>
  obtain ⟨y,l,h,m,nl,cs⟩:=pp
  cases hqd:(s.look q).cont? with
  | none => rw [hpd,hqd] at hk; exact hk.elim
  | some xs =>
   rw [hpd,hqd,cpyK_s] at hk
   obtain ⟨k1,k2,k3,k4,k5⟩:=hk
   obtain ⟨nlx,hfx⟩:=cont?_fz r2 hqd
   have hys':ys = #[y1,y2]:=by rw [← ys.toArray_toList,hys]
   obtain ⟨news,n1,n2⟩:=app_news hfx
   have hn:∃ n:Nat,n = min xs.length (h - l):=⟨_,rfl⟩
   obtain ⟨n,hn⟩:=hn
   have hlx:=n1.length
   have lenx : (Builtin.lenOf (a.eval y2)).run P w = .ok xs.length w := by
    rcases n2 with ⟨e1, e2⟩ | ⟨ad, c, e1, _⟩
    ·rw [e1]; rw [e2] at hlx; simp [Builtin.lenOf]; simpa using hlx
    ·rw [e1,hlx]; simp [Builtin.lenOf]
   have fcx : (Builtin.firstCells 1 n (a.eval y2)).run P w = .ok (news.take n).toArray w := by
    rcases n2 with ⟨e1, e2⟩ | ⟨ad, c, e1, hc⟩
    ·rw [e1,e2]; simp [Builtin.firstCells]
    ·rw [e1]
     exact run_firstCells_some (P := P) w 1 n ad news.length c (news.take n) (by simp; omega) fun j v hj => by
      rw [List.getElem?_take] at hj
      split at hj
      ·exact hc j v hj
      ·cases hj
   obtain ⟨base,c,w',e3,hst,hgr,hGm⟩:=over_run (P:=P) (n:=n) (new:=xs.take n) (news:=news.take n) hG r1 hpd k1 k2 k3 (by simp; omega) (by omega) (fun t ht => k4 t (List.mem_of_mem_take ht)) (n1.take n)
   have hir : inR (n : Int) := by
    obtain ⟨f1,f2,hdr,f3,f4,_⟩:=cpyD_spec r1 hpd k1 k2
    obtain ⟨a0,cap,q1,q2⟩:=own_len (show RepW lo par ow a.tmps w s (.own y m nl cs) hdr from ⟨f1,f2,f3,f4⟩)
    have:=inR_len q2
    unfold inR at this ⊢; omega
   have hput:=hGm.put (d:=d) (v:=.i n) (u:=.int .i64 n) hd1 hsz rfl (by simp only [Rep,Fz]; exact ⟨trivial,hir⟩)
   have e5 : cs.take l ++ xs.take n ++ cs.drop (l + n) = cpyL l h cs xs := by
    unfold cpyL
    rw [hn]
    congr 2
    apply List.ext_getElem?
    intro i
    simp only [List.getElem?_take]
    by_cases hi : i < xs.length
    ·have:(i < min xs.length (h - l)) ↔ i < h - l:=by omega
     simp [this]
    ·rw [List.getElem?_eq_none (by omega)]; simp
   refine goi_val hd (u:=.int .i64 n) ?_ (by rw [e5]; subst hn; exact k5) hgr hput
   subst hys'
   have e4:ts[0]? = some t:=by rw [← Array.getElem?_toList,hts]; rfl
   have e6:(Nat.min xs.length (h - l)) = n:=hn.symm
   cases base with
   | none =>
    have hst:(pure ():Sem Unit).run P w = .ok () w':=hst
    simp at hst
    subst hst
    simp [execOp,ho,resolve,invoke,builtin,Builtin.copy_,e4,e3,run_underlying ht,lenx,sizeOf,typeInfo,hei,hs,e6,fcx,goInt]
   | some ad =>
    have hst:(storeCells ad (news.take n)).run P w = .ok () w':=hst
    simp [execOp,ho,resolve,invoke,builtin,Builtin.copy_,e4,e3,run_underlying ht,lenx,sizeOf,typeInfo,hei,hs,e6,fcx,goInt,hst]
theorem toList_zeroCells {zv : Value} {n : Nat} : (Builtin.zeroCells #[zv] n).toList = List.replicate n zv := by
 apply List.ext_getElem
 ·simp [Builtin.zeroCells]
 ·intro i h1 h2
  simp [Builtin.zeroCells,Nat.mod_one]
theorem clr_goi {p : X} {z : T} {y1 : Operand} {ys : Array Operand} {ts : Array TypeId} {t : TypeId} (hG : Gam lo Xb par ow s a.tmps w) (hd : oper.dst = none)
  (ho:oper.op = .call { callee:=.builtin .clear,args:=ys,argTypes:=ts }) (hys:ys.toList = [y1]) (hts:ts.toList = [t]) (hp:xOk p y1 = true) (hz:(match P.underlying t with | some (.slice e) => zOk P e z | _ => false) = true)
  (hk:wpI P (.clr p z) K s):GoI P lo Xb par a w K oper:=by
 have r1:=xOk_sound hG hp
 rw [wpI_clr] at hk
 cases hpd:cpyD (s.look p) with
 | none => rw [hpd] at hk; exact hk.elim
 | some pp =>
  obtain ⟨y,l,h,m,nl,cs⟩:=pp
  rw [hpd,clrK_s] at hk
  obtain ⟨k1,k2,k3,k4,k5⟩:=hk
  split at hz
  case h_2 => cases hz
  rename_i e he
  obtain ⟨i,zv,hi,hs1,hby,hzv,hone,hkk⟩:=zOk_spec hz
  have hcells:=oneCell_cells hone
  have hys':ys = #[y1]:=by rw [← ys.toArray_toList,hys]
  have hts':ts = #[t]:=by rw [← ts.toArray_toList,hts]
  subst hys'; subst hts'
  obtain ⟨base, c, w', e3, hst, hgr, hGm⟩ := over_run (P := P) (n := h - l) (new := List.replicate (h - l) z) (news := List.replicate (h - l) zv) hG r1 hpd k1 k2 k3 (by simp) (Nat.le_refl _)
   (fun t ht => by rw [(List.mem_replicate.1 ht).2]; exact k4) (FzL.replicate (kOk1_sound hkk) _)
  have e7:l + (h - l) = h:=by omega
  rw [e7] at hGm
  refine goi_unit hd (u:=.tuple #[]) ?_ k5 hgr hGm
  cases base with
  | none =>
   have hst:(pure ():Sem Unit).run P w = .ok () w':=hst
   simp at hst
   subst hst
   simp [execOp,ho,resolve,invoke,builtin,Builtin.clear_,e3,run_underlying he]
  | some ad =>
   have hst:(storeCells ad (List.replicate (h - l) zv)).run P w = .ok () w':=hst
   by_cases h0 : h - l = 0
   ·rw [h0] at hst e3
    simp [storeCells] at hst
    subst hst
    simp [execOp,ho,resolve,invoke,builtin,Builtin.clear_,e3,run_underlying he]
   ·obtain ⟨k,hk'⟩:∃ k,h - l = k + 1:=⟨h - l - 1,by omega⟩
    have ez:(Builtin.zeroCells zv.cells (k + 1)).toList = List.replicate (k + 1) zv:=by rw [hcells]; exact toList_zeroCells
    rw [hk'] at hst e3
    simp [execOp,ho,resolve,invoke,builtin,Builtin.clear_,e3,run_underlying he,zeroValue,typeInfo,hi,hzv,ez,hst]
theorem cut_goi {d : Nat} {x h : X} {x' h' : Operand} {t : TypeId} (hG : Gam lo Xb par ow s a.tmps w) (hpar : ∀ z, 1000 ≤ z → par z = none) (hd : oper.dst = some d) (hd1 : d < 1000) (hsz : d < a.tmps.size)
  (ho:oper.op = .slice t x' none (some h') none) (h1:tyS1 P t = true) (h2:xOk x x' = true) (h3:xOk h h' = true) (hk:wpI P (.cut d x h) K s):GoI P lo Xb par a w K oper:=by
 obtain ⟨e,inf,ht,he,hs⟩:=tyS1_spec h1
 have hx:=xOk_sound hG h2
 have hh:=xOk_sound hG h3
 rw [wpI_cut] at hk
 generalize s.look x = wx at hx hk
 generalize s.look h = wh at hh hk
 cases wx with
 | own y m nl cs =>
  cases wh with
  | t g r =>
   cases r with
   | i k =>
    rw [cutK_o] at hk
    obtain ⟨k1,k2,k3,k4,k5⟩:=hk
    obtain ⟨h0,rfl⟩:∃ h0:Nat,k = h0:=⟨k.toNat,by omega⟩
    simp only [Int.toNat_natCast] at k5
    obtain ⟨f1,f2,f3,f4⟩:=hx
    have hyd:hangs y d = false:=off_sym hd1 k1
    have hv : ∃ a0 cap, a.eval x' = .slice a0 cs.length cap ∧ cs.length ≤ cap := by
     rcases f4.2 with ⟨e1, e2, _⟩ | ⟨_, b, cap, arr, ty, xs, e1, _, _, _, e2, _⟩
     ·exact ⟨none,0,by rw [e1,e2]; rfl,by rw [e2]; simp⟩
     ·exact ⟨_,cap,e1,e2⟩
    obtain ⟨a0,cap,e1,e2⟩:=hv
    have hr := run_sliceAt_nat (P := P) (w := w) (a0 := a0) (len := cs.length) (cap := cap) (lo := none) (hi := some (a.eval h')) (l := 0) (h := h0) ht he hs
      (.inr ⟨rfl,rfl⟩) (.inl (by simp [(repI hh).1])) (by omega) (by omega)
    have ea : (if cap = 0 then a0 else a0.map (·.add (0 * 1))) = a0 := by
     split
     ·rfl
     ·cases a0 with
      | none => rfl
      | some ad => simp [Addr.add]
    rw [ea,Nat.sub_zero,Nat.sub_zero] at hr
    refine goi_val hd (u := .slice a0 h0 cap) (w' := w) ?_ k5 (Grow.refl _ _) (ow' := owL [y] d ow) (Gam.absorb (zs := [y]) hG hd1 hsz (by simpa using k1) (by simpa using hyd) (by simp) (Nat.le_refl _) (fun _ _ => rfl) (fun b p hb hp => ?_) (fun _ _ _ => rfl) ?_)
    ·simp only [execOp,ho,Sem.run_bind,e1,Option.map_none,Option.map_some]
     rw [hr]; rfl
    ·obtain ⟨q,hq⟩:=owL_some hp
     exact absurd (hG.base b q hq).1 (by omega)
    ·have mem0:∀ {b r},ow b = some (y,r) → owL [y] d ow b = some (d,r):=fun h => owL_mem (by simpa using hyd) (by simp) (by simp) h
     refine ⟨fun hm => absurd hm (by omega),?_⟩
     rcases f4.2 with ⟨q1, q2, q3⟩ | ⟨hnl, b, cap', arr, ty, xs, q1, hob, hb, hsz', hle, hmx, htk, hxx, hdd⟩
     ·have hz:h0 = 0:=by rw [q2] at k4; simp at k4; omega
      subst hz
      rw [e1] at q1
      injection q1 with p1 p2 p3
      subst p1; subst p3
      exact .inl ⟨rfl,by simp,q3⟩
     ·rw [e1] at q1
      injection q1 with p1 p2 p3
      subst p1; subst p3
      refine .inr ⟨hnl, b, cap, arr, ty, xs.take h0, ?_, mem0 hob, hb, hsz', by simp; omega, hmx, ?_, ?_, fun hm1 => ?_⟩
      ·simp only [List.length_take]; rw [Nat.min_eq_left (by omega)]
      ·subst htk; simp [List.take_take]
      ·refine FzL.imp (fun b' _ hb' => ⟨?_,rfl⟩) _ _ (hxx.take h0)
       unfold tagM at hb' ⊢
       by_cases m1 : (m % 10 == 1) = true
       ·simp only [m1,cond_true] at hb' ⊢; exact mem0 hb'
       ·simp only [Bool.not_eq_true] at m1
        simp only [m1,cond_false] at hb' ⊢
        by_cases m0 : (m % 10 == 0) = true
        ·simp only [m0,cond_true] at hb' ⊢; exact ⟨owL_none.2 hb'.1,hb'.2⟩
        ·simp only [Bool.not_eq_true] at m0
         simp only [m0,cond_false] at hb' ⊢; exact owL_none.2 hb'
      ·obtain ⟨d1,d2⟩:=hdd hm1
       rw [veil_take]
       generalize veil cs xs = xs at d1 d2 ⊢
       have key : ∀ (i b : Nat), ((xs.take h0)[i]?).bind rowBlk = some b → (xs[i]?).bind rowBlk = some b ∧ (xs.take h0)[i]? = xs[i]? := by
        intro i b' hi
        rw [List.getElem?_take] at hi ⊢
        split at hi
        ·rename_i hlt; rw [if_pos hlt]; exact ⟨hi,rfl⟩
        ·cases hi
       refine ⟨fun i j b' hi hj => d1 i j b' (key i b' hi).1 (key j b' hj).1,fun i b' hi => ?_⟩
       obtain ⟨c1,c2⟩:=key i b' hi
       obtain ⟨g1,arr',ty',len',g2,g3⟩:=d2 i b' c1
       exact ⟨mem0 g1,arr',ty',len',g2,by rw [c2]; exact g3⟩
   | _ => exact hk.elim
  | _ => exact hk.elim
 | _ => cases wh <;> exact hk.elim
theorem apzK_inv {d : Nat} {z : T} {s : St} {K : St → Prop} {wx wn : W} (h : apzK d z s K wx wn) : ∃ g g' k, wx = .t g (.s (some true) []) ∧ wn = .t g' (.i k) := by
 unfold apzK at h
 split at h
 ·exact ⟨_,_,_,rfl,rfl⟩
 ·exact h.elim
theorem apz_goi {d : Nat} {x n : X} {z : T} {y1 y2 : Operand} {ys : Array Operand} {ts : Array TypeId} {t ti : TypeId} (hG : Gam lo Xb par ow s a.tmps w) (hd : oper.dst = some d) (hd1 : d < 1000) (hsz : d < a.tmps.size)
  (ho:oper.op = .call { callee:=.builtin .append,args:=ys,argTypes:=ts }) (hys:ys.toList = [y1,y2]) (hts:ts.toList = [t,ti]) (hp:xOk x y1 = true) (hq:xOk n y2 = true) (hti:tyI P ti = true)
  (hz:(match P.underlying t with | some (.slice e) => zOk P e z | _ => false) = true) (hk:wpI P (.apz d x n z) K s):GoI P lo Xb par a w K oper:=by
 have r1:=xOk_sound hG hp
 have r2:=xOk_sound hG hq
 rw [wpI_apz] at hk
 split at hz
 case h_2 => cases hz
 rename_i e he
 obtain ⟨i,zv,hi,hs1,hby,hzv,hone,hkk⟩:=zOk_spec hz
 have hcells:=oneCell_cells hone
 have hti:=tyI_spec hti
 have hys':ys = #[y1,y2]:=by rw [← ys.toArray_toList,hys]
 have hts':ts = #[t,ti]:=by rw [← ts.toArray_toList,hts]
 subst hys'; subst hts'
 generalize s.look x = wx at r1 hk
 generalize s.look n = wn at r2 hk
 have ex : ∀ {g g' : G} {k : Int}, wx = .t g (.s (some true) []) → wn = .t g' (.i k) → GoI P lo Xb par a w K oper := by
  rintro g g' k rfl rfl
  rw [apzK_n] at hk
  obtain ⟨k1,k2,k3⟩:=hk
  obtain ⟨n0,rfl⟩:∃ n0:Nat,k = n0:=⟨k.toNat,by omega⟩
  simp only [Int.toNat_natCast] at k3
  obtain ⟨e2,_⟩:=repI r2
  have e1 : a.eval y1 = .slice none 0 0 := by
   simp only [RepW,Fz] at r1
   rcases r1 with ⟨e1, _⟩ | ⟨e1, _⟩
   ·exact e1
   ·exact absurd rfl e1
  have hw:IntKind.i64.wrap (n0:Int) = n0:=wrap_in (by unfold inR; omega)
  have hnb:¬ ((n0:Int) < 0):=by omega
  have hb : ¬ (281474976710656 < (n0 : Int) * (i.bytes : Int)) := by
   have:(i.bytes:Int) ≤ 64:=by omega
   have:(n0:Int) * (i.bytes:Int) ≤ (n0:Int) * 64:=Int.mul_le_mul_of_nonneg_left this (by omega)
   omega
  by_cases h0 : n0 = 0
  ·subst h0
   have hw0:IntKind.i64.wrap 0 = 0:=by decide
   refine goi_val hd (u:=.slice none 0 0) (w':=w) ?_ k3 (Grow.refl _ _) (ow':=ow) (Gam.createOwn hG hd1 hsz (Grow.refl _ _) (fun _ _ => rfl) (fun b p hb hp => absurd (hG.base b p hp).1 (by omega)) ⟨fun h => absurd h (by omega),.inl ⟨rfl,by simp,by simp⟩⟩)
   simp [execOp,ho,resolve,invoke,builtin,Builtin.append_,e1,e2,run_underlying he,run_underlying hti,sizeOf,typeInfo,hi,hs1,asInt,asIntOf,hw0,storeCells]
  ·have hge:=grownCap_ge w n0 0 e
   have hle:=grownCap_le_maxLen w n0 0 e (by simp only [maxLen]; omega)
   have hzc:∀ n,(Builtin.zeroCells zv.cells n).size = n:=fun n => by rw [size_zeroCells,hcells]; simp
   have hza : ∀ n, Builtin.zeroCells zv.cells n = (List.replicate n zv).toArray := fun n => by
    apply Array.ext'
    rw [hcells]; simp [toList_zeroCells]
   have hr : (Builtin.append_ #[t, ti] oper.type #[.slice none 0 0, .int .i64 n0]).run P w = .ok (.slice (some ⟨w.heap.size, 0, none⟩) n0 (grownCap w n0 0 e))
     (w.drew.alloc (.cells (Builtin.zeroCells zv.cells n0 ++ Builtin.zeroCells zv.cells (grownCap w n0 0 e - n0)) e)):=by
    have h63':¬ (9223372036854775807 < (n0:Int)):=by omega
    have h48 : Builtin.nextslicecap n0 0 * i.bytes ≤ 281474976710656 := growslice_fits (by omega) (by
     calc n0 * i.bytes ≤ 1099511627776 * 64 := Nat.mul_le_mul (by omega) hby
      _ ≤ 140737488355328:=by decide)
    have h48':¬ (281474976710656 < Builtin.nextslicecap n0 0 * i.bytes):=by omega
    simp [Builtin.append_,run_underlying he,run_underlying hti,sizeOf,typeInfo,zeroValue,hi,hzv,hs1,asInt,asIntOf,hw,hnb,hb,h0,h63',h48',Builtin.firstCells,Question.forced,newRow,grownCap]
   refine goi_val hd (u := .slice (some ⟨w.heap.size, 0, none⟩) n0 (grownCap w n0 0 e)) (w' := w.drew.alloc (.cells (Builtin.zeroCells zv.cells n0 ++ Builtin.zeroCells zv.cells (grownCap w n0 0 e - n0)) e)) ?_ k3 ((Grow.drew _ w).trans (Grow.alloc _ w.drew _)) (ow' := owNew ow w.heap.size d) ?_
   ·simp [execOp,ho,resolve,invoke,builtin,e1,e2,hr]
   ·have hg:Grow (fun _ => False) w (w.drew.alloc (.cells (Builtin.zeroCells zv.cells n0 ++ Builtin.zeroCells zv.cells (grownCap w n0 0 e - n0)) e)):=(Grow.drew _ w).trans (Grow.alloc _ w.drew _)
    refine Gam.createOwn hG hd1 hsz hg (fun b hb => owNew_old hb) (fun b p hb hp => ?_) ?_
    ·unfold owNew at hp
     split at hp
     ·rename_i ee; rw [ee]; exact ⟨by simp,.inl hG.low⟩
     ·exact absurd (hG.base b p hp).1 (by omega)
    ·refine ⟨fun h => absurd h (by omega), .inr ⟨by simp, w.heap.size, grownCap w n0 0 e, _, e, List.replicate n0 zv, by simp, owNew_new, heap_alloc_new w.drew _, ?_, by simpa using hge, hle, ?_, FzL.replicate (kOk1_sound hkk) _, fun _ => DeepR.veil (nilrow_deep fun x hx => by rw [(List.mem_replicate.1 hx).2]; exact kOk1_row hkk)⟩⟩
     ·simp only [Array.size_append,hzc]; omega
     ·rw [hza]; simp
 obtain ⟨g,g',k,h1,h2⟩:=apzK_inv hk
 exact ex h1 h2
end
end Go.Vc
namespace Go.Vc
open Go
section
variable {P:Program} {lo:Nat} {Xb:Nat → Prop} {par:Nat → Option Value} {ow ow':Ow} {tm tm':Array Value} {a:Act} {w w' w1:World} {s s':St} {K:St → Prop} {oper:Oper}
theorem on_self {y r : Nat} {g : G} (h : g.on y = false) {b : Nat} (hk : okG lo ow g b) : ow b ≠ some (y, r) := by
 intro e
 cases g with
 | arg => rw [show ow b = none from hk] at e; cases e
 | fr => rw [hk.1] at e; cases e
 | rw z =>
  rw [show ow b = some (z,1) from hk] at e; cases e
  simp only [G.on,hangs_self] at h; cases h
 | sp z =>
  rcases hk with hk | hk | hk
  ·rw [hk] at e; cases e; simp only [G.on,hangs_self] at h; cases h
  ·rw [hk] at e; cases e; simp only [G.on,hangs_self] at h; cases h
  ·rw [hk] at e; cases e
theorem OwnAt.fzO {ok : Nat → Prop} {z m : Nat} {nl : Option Bool} {cs : List T} {u : Value} (h0 : ∀ b, ow b = some (z, 0) → ok b) (h1 : ∀ b, okG lo ow (tagM m z) b → ok b) (h : OwnAt lo par ow w z m nl cs u) : Fz ok w (.s nl cs) u := by
 rcases h.2 with h | ⟨hn, b, cap, arr, ty, xs, e, ho, hb, hs, hl, hm, ht, hx, hd⟩
 ·simp only [Fz]; exact .inl h
 ·simp only [Fz]
  refine .inr ⟨hn,b,0,none,cap,xs,e,hl,hm,fun _ => ⟨h0 b ho,rfl⟩,hx.mono h1,fun k x hk => ?_⟩
  rw [cell_of_row w b (0 + k) arr ty (0,0) hb]
  subst ht
  rw [List.getElem?_take] at hk
  split at hk
  ·simpa using hk
  ·cases hk
def offY (ow:Ow) (y b:Nat):Prop:=∀ r,ow b ≠ some (y,r)
theorem OwnAt.off {y z m : Nat} {nl : Option Bool} {cs : List T} {u : Value} (hz : z ≠ y) (h : OwnAt lo par ow w z m nl cs u) : Fz (offY ow y) w (.s nl cs) u := by
 refine h.fzO (fun b hb r e => ?_) (fun b hb r e => ?_)
 ·rw [hb] at e; cases e; exact hz rfl
 ·unfold tagM at hb
  by_cases m1 : (m % 10 == 1) = true
  ·simp only [m1,cond_true] at hb; rw [show ow b = some (z,1) from hb] at e; cases e; exact hz rfl
  ·simp only [Bool.not_eq_true] at m1
   simp only [m1,cond_false] at hb
   by_cases m0 : (m % 10 == 0) = true
   ·simp only [m0,cond_true] at hb; rw [hb.1] at e; cases e
   ·simp only [Bool.not_eq_true] at m0
    simp only [m0,cond_false] at hb; rw [show ow b = none from hb] at e; cases e
theorem Gam.resOff (h : Gam lo Xb par ow s tm w) {y k : Nat} {u : Value} (hl : s.lv k = true) (hu : nmv tm w k = some u) (ho : offCell y k (s.get k) = true) : Fz (offY ow y) w (s.resN k) u := by
 rw [resN_eq]
 by_cases ha : (s.get k).isAny = true
 ·obtain ⟨g,e⟩:=isAny_eq ha; rw [e]; simp [resV,Fz]
 simp only [Bool.not_eq_true] at ha
 obtain ⟨u',e,hr⟩:=h.ent k hl ha
 rw [hu] at e; cases e
 cases hv:s.get k with
 | t g r =>
  rw [hv] at hr ho
  simp only [offCell,Bool.not_eq_true'] at ho
  exact Fz.mono (fun b hb r => on_self ho hb) hr
 | own m nl cs =>
  rw [hv] at hr ho
  simp only [offCell,Bool.not_eq_true',beq_eq_false_iff_ne] at ho
  exact OwnAt.off ho hr
 | al z =>
  rw [hv] at hr ho
  simp only [offCell,Bool.not_eq_true',beq_eq_false_iff_ne] at ho
  simp only [resV]
  cases hz:s.get z with
  | own m nl cs =>
   cases hlz:s.lv z with
   | false => simp [Fz]
   | true =>
    obtain ⟨u',e',hr'⟩:=h.ent z hlz (by rw [hz]; rfl)
    have hc:=hr (by simp [hz,hlz])
    rw [hc] at e'; cases e'
    rw [hz] at hr'
    have:=OwnAt.off ho hr'
    simpa using this
  | _ => simp [Fz]
 | _ => simp [resV,Fz]
theorem Gam.cellsOff (h : Gam lo Xb par ow s tm w) {x y : Nat} (hx : x < 1000) : ∀ (n j : Nat) (xs : List Value), xs.length = n → (s.get x).cont = true → s.offBox y x j n = true →
  (∀ (i:Nat) (v:Value),xs[i]? = some v → nmv tm w (x + 1000 * (1 + (j + i))) = some v ∨ nmv tm w (x + 1000 * (1 + (j + i))) = none) → FzL (offY ow y) w (s.cells x 1 j n) xs
 | 0,_,xs,hl,_,_,_ => by simp only [cells_0,FzL]; exact List.eq_nil_of_length_eq_zero hl
 | n + 1,j,[],hl,_,_,_ => by simp at hl
 | n + 1, j, v :: xs, hl, hk, ho, hn => by
  rw [offBox_s,Bool.and_eq_true] at ho
  simp only [cells_s,FzL]
  refine ⟨v, xs, rfl, ?_, Gam.cellsOff h hx n (j + 1) xs (by simpa using hl) hk ho.2 fun i v' hi => ?_⟩
  ·have hlv : s.lv (x + 1000 * (1 + j)) = true := by
    rw [lv_iff]; right; rw [show (x + 1000 * (1 + j)) % 1000 = x from by omega]; exact hk
   rcases hn 0 v (by simp) with h0 | h0
   ·exact h.resOff hlv (by simpa using h0) ho.1
   ·simp only [Nat.add_zero] at h0
    by_cases ha : (s.get (x + 1000 * (1 + j))).isAny = true
    ·obtain ⟨g,e⟩:=isAny_eq ha; rw [resN_eq,e]; simp [resV,Fz]
    ·simp only [Bool.not_eq_true] at ha
     obtain ⟨u',e,_⟩:=h.ent _ hlv ha
     rw [h0] at e; cases e
  ·have:=hn (i + 1) v' (by simpa using hi)
   rw [show j + 1 + i = j + (i + 1) from by omega]; exact this
theorem Gam.boxOff (h : Gam lo Xb par ow s tm w) {z n y : Nat} (hb : s.get z = .bx n) (hz : z < 1000) (ho : s.offBox y z 0 n = true) : ∃ b arr ty, nmv tm w z = some (.pointer (some ⟨b, 0, none⟩)) ∧ w.heap[b]? = some (.cells arr ty (0, 0)) ∧
  ow b = some (z,0) ∧ FzL (offY ow y) w (s.cells z 1 0 n) arr.toList:=by
 obtain ⟨b,arr,ty,e1,e2,e3,e4,_,e6⟩:=h.box hb hz
 refine ⟨b,arr,ty,e1,e2,e3,h.cellsOff hz n 0 arr.toList (by simpa using e4) (by rw [hb]; rfl) ho fun i v hi => ?_⟩
 by_cases hi100 : 1 + (0 + i) < 100
 ·left
  rw [e6 (0 + i) hi100]; simpa using hi
 ·right
  have htm:tm.getD z undef = .pointer (some ⟨b,0,none⟩):=by rw [nmv_slot hz] at e1; simpa using e1
  unfold nmv
  rw [if_neg (by omega),show (z + 1000 * (1 + (0 + i))) % 1000 = z from by omega,htm]
  simp only
  rw [if_neg (by omega)]
theorem offCaps_mem {y : Nat} : ∀ {cp : List Cap} {c : Cap}, s.offCaps y cp = true → c ∈ cp → match c with
  | .t g _ => g.on y = false
  | .p z => s.offBx y (z % 1000) (s.get (z % 1000)) = true
 | [],c,_,hc => by simp at hc
 | c0 :: cp, c, h, hc => by
  cases c0 with
  | t g t =>
   rw [offCaps_t,Bool.and_eq_true] at h
   rcases List.mem_cons.1 hc with rfl | hc
   ·simpa using h.1
   ·exact offCaps_mem h.2 hc
  | p z =>
   rw [offCaps_p,Bool.and_eq_true] at h
   rcases List.mem_cons.1 hc with rfl | hc
   ·exact h.1
   ·exact offCaps_mem h.2 hc
theorem mk_noName' (t:T):(V.mk .fr t).isName = false:=by cases t <;> rfl
theorem RepW.off (h : Gam lo Xb par ow s tm w) {y : Nat} {x : W} {u : Value} (hy : ∃ m nl cs, s.get y = .own m nl cs) (hts : ∀ f cp ts, x = .clo f cp ts → ts = cp.map s.capT) (ho : s.offW y x = true) (hr : RepW lo par ow tm w s x u) : Fz (offY ow y) w x.res u := by
 cases x with
 | t g r =>
  simp only [St.offW,Bool.not_eq_true'] at ho
  exact Fz.mono (fun b hb r => on_self ho hb) hr
 | own z m nl cs =>
  simp only [St.offW,Bool.not_eq_true',beq_eq_false_iff_ne] at ho
  exact OwnAt.off ho hr.2.2.2
 | clo f cp ts =>
  obtain ⟨h1,xs,e,hx⟩:=hr
  obtain ⟨xs',e',hl,hc⟩:=h1
  rw [e] at e'
  have exs:xs = xs':=by simpa using e'
  subst exs
  simp only [W.res,Fz]
  refine ⟨xs,e,?_⟩
  obtain rfl:=hts _ _ _ rfl
  refine FzL.of_get hx.length fun k x hk => ?_
  have hk':k < cp.length:=by rw [← hl]; exact (List.getElem?_eq_some_iff.1 hk).1
  have hcp:cp[k]? = some cp[k]:=List.getElem?_eq_getElem hk'
  have hq:=hc k _ x hcp hk
  have hm:=offCaps_mem ho (List.getElem_mem hk')
  rw [List.getD,List.getElem?_map,hcp]
  simp only [Option.map_some,Option.getD_some]
  revert hq hm
  cases cp[k] with
  | t g r => intro hq hm; exact Fz.mono (fun b hb r => on_self hm hb) hq
  | p z =>
   intro hq hm
   rw [capT_p]
   cases hz:s.get (z % 1000) with
   | bx n =>
    have hm:s.offBx y (z % 1000) (s.get (z % 1000)) = true:=hm
    rw [hz,offBx_bx] at hm
    rw [capV_bx]
    obtain ⟨b,arr,ty,f1,f2,f3,f5⟩:=h.boxOff hz (by omega) hm
    obtain ⟨b',g1,g2⟩:=hq (by simp [hz])
    rw [f1] at g1; cases g1
    simp only [Fz]
    refine ⟨b, 0, arr.toList, by simpa using g2, fun _ r => (?_ : ow b ≠ some (y, r)), f5, fun j y hj => ?_⟩
    ·intro e
     rw [f3] at e
     obtain ⟨m,nl,cs,hy⟩:=hy
     have:z % 1000 = y:=by cases e; rfl
     rw [this,hy] at hz; cases hz
    ·rw [cell_of_row w b (0 + j) arr ty (0,0) f2]; simpa using hj
   | _ => simp [capV,Fz]
 | tp => simp [W.res,Fz]
 | no => simp [W.res,Fz]
 | _ => simp [St.offW] at ho
theorem offA_mem {y : Nat} : ∀ {ws : List W} {x : W}, s.offA y ws = true → x ∈ ws → s.offW y x = true
 | [],_,_,h => by simp at h
 | w :: ws, x, h, hx => by
  rw [offA_c,Bool.and_eq_true] at h
  rcases List.mem_cons.1 hx with rfl | hx
  ·exact h.1
  ·exact offA_mem h.2 hx
theorem offL_get {y : Nat} : ∀ {i : Nat} {ws : List W} {j : Nat} {x : W}, s.offL y i ws = true → j ≠ i → ws[j]? = some x → s.offW y x = true
 | _,[],_,_,_,_,h => by simp at h
 | 0,w :: ws,0,_,_,hj,_ => absurd rfl hj
 | 0, w :: ws, j + 1, x, h, _, hx => by
  rw [offL_0] at h
  exact offA_mem h (List.mem_of_getElem? (by simpa using hx))
 | i + 1, w :: ws, 0, x, h, _, hx => by
  rw [offL_s,Bool.and_eq_true] at h
  simp at hx; subst hx; exact h.1
 | i + 1, w :: ws, j + 1, x, h, hj, hx => by
  rw [offL_s,Bool.and_eq_true] at h
  exact offL_get (j:=j) (i:=i) h.2 (fun e => hj (congrArg Nat.succ e)) (by simpa using hx)
theorem Keeps.wrote {y : Nat} {v : V} (h : Gam lo Xb par ow s tm w) (hsz : w.heap.size ≤ w'.heap.size) (ho : ∀ b, b < w.heap.size → (∀ r, ow b ≠ some (y, r)) → ow' b = ow b ∧ w'.heap[b]? = w.heap[b]?) :
  Keeps lo [y] ow ow' tm tm w w' s ([(y,v)] ++ s.kill y):=by
 have ne:∀ z,¬ Hg [y] z → hangs y z = false:=fun z hz => by rw [← Bool.not_eq_true]; exact fun h => hz ⟨y,by simp,h⟩
 have zy:∀ z,¬ Hg [y] z → z ≠ y:=fun z hz e => by have:=ne z hz; rw [e,hangs_self] at this; cases this
 refine ⟨hsz, fun z hz => ?_, fun z hz hl u hu => ?_, fun z hz b hb r hr => ?_, fun g hg b hb hk => ?_⟩
 ·rw [List.singleton_append,get_top_ne (zy z hz),get_kill]
  by_cases hon : (s.get z).on y = true
  ·left; simp [hon]; rfl
  ·simp only [Bool.not_eq_true] at hon
   right; left; simp [ne z hz,hon]
 ·refine h.nmKeep hl (fun b hb hb' h1000 => (ho b hb fun r e => ?_).2) hu
  rw [hb'] at e
  have e1:z % 1000 = y:=by cases e; rfl
  have:=ne z hz
  rw [hangs_false] at this
  exact this.2 (by omega) e1
 ·obtain ⟨h1,h2⟩:=ho b hb fun r' e => by rw [hr] at e; exact zy z hz (by cases e; rfl)
  exact ⟨h1.trans hr,h2⟩
 ·have hgy:=hg y (by simp)
  obtain ⟨h1,h2⟩:=ho b hb fun r e => on_self hgy hk e
  refine ⟨?_,h2⟩
  cases g <;> simp only [okG] at hk ⊢ <;> rw [h1] <;> exact hk
theorem Gam.nmY (h : Gam lo Xb par ow s tm w) {y : Nat} {u : Value} (hl : s.lv y = true) (ho : ∀ b, b < w.heap.size → (∀ r, ow b ≠ some (y, r)) → w'.heap[b]? = w.heap[b]?) (hu : nmv tm w y = some u) : nmv tm w' y = some u :=
 h.nmKeep hl (fun b hb hb' h1000 => ho b hb fun r e => by
  rw [hb'] at e
  have e1:y % 1000 = y:=congrArg Prod.fst (Option.some.inj e)
  omega) hu
theorem Gam.wrote {y m : Nat} {nl : Option Bool} {cs : List T} {u : Value} (h : Gam lo Xb par ow s tm w) (hl : s.lv y = true) (hu : nmv tm w y = some u) (hsz : w.heap.size ≤ w'.heap.size)
  (ho:∀ b,b < w.heap.size → (∀ r,ow b ≠ some (y,r)) → ow' b = ow b ∧ w'.heap[b]? = w.heap[b]?) (hbase:∀ b p,ow' b = some p → b < w'.heap.size ∧ (lo ≤ b ∨ Xb b)) (hO:OwnAt lo par ow' w' y m nl cs u) :
  Gam lo Xb par ow' ((y,.own m nl cs) :: s.kill y) tm w':=by
 refine Gam.next h (Keeps.wrote (v:=.own m nl cs) h hsz ho) hbase fun z hz hl' hn => ?_
 by_cases e : z = y
 ·subst e
  rw [get_top]
  exact ⟨u,h.nmY hl (fun b hb hr => (ho b hb hr).2) hu,hO⟩
 ·obtain ⟨x,hx,hh⟩:=hz
  simp at hx; subst hx
  rw [get_top_ne e,get_kill,if_pos (.inl hh)] at hn; cases hn
theorem goi_putF {d : Option Nat} {t : T} {r : Value} (hd : oper.dst = d) (hd1 : ∀ k, d = some k → k < 1000 ∧ k < a.tmps.size) (hG : Gam lo Xb par ow' s' a.tmps w') (hr : Fz (okG lo ow' .fr) w' t r) :
  Gam lo Xb par ow' (putD d (.mk .fr t) s') (a.put d r).tmps w' ∧ (a.put d r).tmps.size = a.tmps.size ∧ (a.put d r).defers = a.defers:=by
 cases d with
 | none => exact ⟨hG,rfl,rfl⟩
 | some k =>
  obtain ⟨h1,h2⟩:=hd1 k rfl
  rw [put_some]
  refine ⟨hG.put h1 h2 (mk_noName' t) ?_,by simp,rfl⟩
  cases t <;> exact hr
theorem goi_putD {d : Option Nat} {t : T} {r : Value} (hd : oper.dst = d) (hd1 : ∀ k, d = some k → k < 1000 ∧ k < a.tmps.size) (hG : Gam lo Xb par ow' s' a.tmps w') (hr : Fz (fun _ => False) w' t r) :
  Gam lo Xb par ow' (putD d (.mk .fr t) s') (a.put d r).tmps w' ∧ (a.put d r).tmps.size = a.tmps.size ∧ (a.put d r).defers = a.defers:=by
 cases d with
 | none => exact ⟨hG,rfl,rfl⟩
 | some k =>
  obtain ⟨h1,h2⟩:=hd1 k rfl
  rw [put_some]
  refine ⟨hG.put h1 h2 (mk_noName' t) ?_,by simp,rfl⟩
  cases t <;> exact Fz.mono (fun _ h => h.elim) hr
theorem look_clo {x : X} {f : Nat} {cp : List Cap} {ts : List T} (h : s.look x = .clo f cp ts) : ts = cp.map s.capT := by
 cases x with
 | k t => cases h
 | s n =>
  rw [look_s] at h
  cases hv:s.get n with
  | clo f' cp' => rw [hv,enr_clo] at h; cases h; rfl
  | fo => rw [hv] at h; cases h
  | t => rw [hv] at h; cases h
  | own => rw [hv] at h; cases h
  | bx k => rw [hv,enr_bx,pcW_eq] at h; revert h; cases s.get ((n + 1000) % 1000) <;> simp only [pcW'] <;> (try (intro h; cases h)) <;> cases (decide ((n + 1000) / 1000 - 1 < _) && decide (1000 ≤ n + 1000)) <;> intro h <;> cases h
  | tp => rw [hv] at h; cases h
  | ag => rw [hv] at h; cases h
  | al z => rw [hv,enr_al] at h; revert h; cases s.get z <;> simp only [alW] <;> (try (intro h; cases h)) <;> (first | (cases s.lv z <;> intro h <;> cases h) | (cases decide (z < 1000) <;> intro h <;> cases h))
  | pc z => rw [hv,enr_pc,pcW_eq] at h; revert h; cases s.get (z % 1000) <;> simp only [pcW'] <;> (try (intro h; cases h)) <;> cases (decide (z / 1000 - 1 < _) && decide (1000 ≤ z)) <;> intro h <;> cases h
  | pe z j => rw [hv,enr_pe] at h; revert h; cases s.get z <;> simp only [peW] <;> (try (intro h; cases h)) <;> cases s.lv z <;> intro h <;> cases h
  | bv z => rw [hv,enr_bv] at h; revert h; cases s.get z <;> simp only [bvW] <;> (try (intro h; cases h)) <;> cases decide (z < 1000) <;> intro h <;> cases h
  | sl z j k => rw [hv,enr_sl] at h; revert h; cases s.get z <;> simp only [slW] <;> (try (intro h; cases h)) <;> cases s.lv z <;> intro h <;> cases h
  | er z j => rw [hv,enr_er] at h; revert h; cases s.get z <;> simp only [erW] <;> (try (intro h; cases h)) <;> cases s.lv z <;> intro h <;> cases h
def owArg (ow : Ow) (y i : Nat) : Ow := fun b => match ow b with
 | some (q,r) => if q = y then some (i,r) else none
 | none => none
theorem owArg_none {y i b : Nat} : owArg ow y i b = none ↔ ∀ r, ow b ≠ some (y, r) := by
 unfold owArg
 cases e:ow b with
 | none => simp
 | some p =>
  obtain ⟨q,r⟩:=p
  by_cases hq : q = y
  ·subst hq; simp
  ·simp [hq]
theorem owArg_y {y i b r:Nat} (h:ow b = some (y,r)):owArg ow y i b = some (i,r):=by unfold owArg; rw [h]; simp
def owBack (ow ow' : Ow) (y : Nat) : Ow := fun b => match ow' b with
 | some (_,r) => some (y,r)
 | none => match ow b with
  | some (q,r) => if q = y then none else some (q,r)
  | none => none
theorem coxOwn_goi {d : Option Nat} {f i y m : Nat} {nl nl' : Option Bool} {cs cs' : List T} {ts : List T} {vs : List Value} {t : T} {u : Value} (hG : Gam lo Xb par ow s a.tmps w) (hd : oper.dst = d) (hd1 : ∀ k, d = some k → k < 1000 ∧ k < a.tmps.size)
  (hr:(execOp a.eval oper).run P w = (callFunc f vs.toArray).run P w) (hc:CallX P f i ts t nl' cs') (hlen:vs.length = ts.length) (hi:ts[i]? = some (.s nl cs)) (hu:vs[i]? = some u)
  (hv:∀ (j:Nat) (tj:T) (vj:Value),j ≠ i → ts[j]? = some tj → vs[j]? = some vj → Fz (offY ow y) w tj vj)
  (hm:m % 10 = 1 ∨ scalL cs) (hm':m % 10 = 1 ∨ scalL cs') (hly:s.lv y = true) (hnu:nmv a.tmps w y = some u) (hO:OwnAt lo par ow w y m nl cs u)
  (hk:K (putD d (.mk .fr t) ((y,.own m nl' cs') :: s.kill y))):GoI P lo Xb par a w K oper:=by
 intro next Q N
 unfold Oper.wp
 rw [hr,hc.1]
 simp only [Oper.upon]
 obtain ⟨nl0,cs0,e0,hc⟩:=hc.2
 rw [hi] at e0; cases e0
 have hpre : OwnAt w.heap.size (fun z => if z = i then some u else none) (owArg ow y i) w i 11 nl cs u := by
  refine ⟨fun _ => by simp,?_⟩
  rcases hO.2 with h | ⟨hn, b, cap, arr, ty, xs, e, ho, hb, hs, hl, hmx, ht, hx, hdp⟩
  ·exact .inl h
  ·refine .inr ⟨hn, b, cap, arr, ty, xs, e, owArg_y ho, hb, hs, hl, hmx, ht, ?_, fun _ => ?_⟩
   ·have ht11:tagM 11 i = .rw i:=rfl
    rw [ht11]
    rcases hm with hm | hm
    ·have htm:tagM m y = .rw y:=by simp [tagM,hm]
     rw [htm] at hx
     exact hx.mono fun b hb => owArg_y hb
    ·exact hx.scal hm
   ·rcases hm with hm | hm
    ·obtain ⟨d1,d2⟩:=hdp hm
     exact ⟨d1,fun k b hk => by obtain ⟨q1,q2⟩:=d2 k b hk; exact ⟨owArg_y q1,q2⟩⟩
    ·exact (scal_deep hm hx).veil
 refine (hc w vs (owArg ow y i) u hlen (fun b p hp => ?_) hu (fun j tj vj hj h1 h2 => Fz.mono (fun b hb => owArg_none.2 hb) (hv j tj vj hj h1 h2)) hpre).mono ?_
 ·unfold owArg at hp
  split at hp
  ·rename_i q r hq
   split at hp
   ·cases hp; exact ⟨rfl,(hG.base _ _ hq).1⟩
   ·cases hp
  ·cases hp
 rintro e w' ⟨r,rfl,hg,ow2,hb2,hO2,hfr⟩
 simp only
 rw [hd]
 have old : ∀ b, b < w.heap.size → (∀ r, ow b ≠ some (y, r)) → owBack ow ow2 y b = ow b ∧ w'.heap[b]? = w.heap[b]? := fun b hb hne => by
  have h1:owArg ow y i b = none:=owArg_none.2 hne
  have h2 : ow2 b = none := by
   cases e:ow2 b with
   | none => rfl
   | some p =>
    rcases (hb2 b p e).2.2 with h | h
    ·omega
    ·exact absurd h1 h
  refine ⟨?_,hg.block b hb fun h => h h1⟩
  unfold owBack
  rw [h2]
  cases e:ow b with
  | none => rfl
  | some p =>
   obtain ⟨q,r⟩:=p
   have:q ≠ y:=fun h => hne r (by rw [e,h])
   simp [this]
 have hbase : ∀ b p, owBack ow ow2 y b = some p → b < w'.heap.size ∧ (lo ≤ b ∨ Xb b) := fun b p hp => by
  cases e:ow2 b with
  | some q =>
   obtain ⟨_,h1,h2⟩:=hb2 b q e
   refine ⟨h1,?_⟩
   rcases h2 with h2 | h2
   ·exact .inl (Nat.le_trans hG.low h2)
   ·have:∃ r,ow b = some (y,r):=Classical.byContradiction fun hno => h2 (owArg_none.2 fun r hr => hno ⟨r,hr⟩)
    obtain ⟨r,hr⟩:=this
    exact (hG.base _ _ hr).2
  | none =>
   unfold owBack at hp
   rw [e] at hp
   cases e1:ow b with
   | none => rw [e1] at hp; cases hp
   | some q => exact ⟨Nat.lt_of_lt_of_le (hG.base _ _ e1).1 hg.size,(hG.base _ _ e1).2⟩
 have back:∀ b r,ow2 b = some (i,r) → owBack ow ow2 y b = some (y,r):=fun b r h => by unfold owBack; rw [h]
 have hpost : OwnAt lo par (owBack ow ow2 y) w' y m nl' cs' u := by
  refine ⟨hO.1,?_⟩
  rcases hO2.2 with h | ⟨hn, b, cap, arr, ty, xs, e, ho, hb, hs, hl, hmx, ht, hx, hdp⟩
  ·exact .inl h
  ·refine .inr ⟨hn, b, cap, arr, ty, xs, e, back b 0 ho, hb, hs, hl, hmx, ht, ?_, fun hm1 => ?_⟩
   ·rcases hm' with hm' | hm'
    ·have htm:tagM m y = .rw y:=by simp [tagM,hm']
     rw [htm]
     exact hx.mono fun b hb => back b 1 hb
    ·exact hx.scal hm'
   ·obtain ⟨d1,d2⟩:=hdp rfl
    exact ⟨d1,fun k b hk => by obtain ⟨q1,q2⟩:=d2 k b hk; exact ⟨back b 1 q1,q2⟩⟩
 have hG':=hG.wrote hly hnu hg.size old hbase hpost
 obtain ⟨g1, g2, g3⟩ := goi_putF hd hd1 hG' (hfr.mono fun b hb => ⟨by
  unfold owBack
  rw [hb.2]
  cases e:ow b with
  | none => rfl
  | some p => exact absurd (hG.base _ _ e).1 (by have:=hb.1; omega),Nat.le_trans hG.low hb.1⟩)
 refine N _ _ w' _ hk (hg.mono fun b hb hne => ?_) g1 g2 g3
 have:∃ r,ow b = some (y,r):=Classical.byContradiction fun hno => hne (owArg_none.2 fun r hr => hno ⟨r,hr⟩)
 obtain ⟨r,hr⟩:=this
 exact (hG.base _ _ hr).2
theorem coxRow_goi {d : Option Nat} {f i y j m : Nat} {nl nl' : Option Bool} {cs cs' : List T} {ts : List T} {vs : List Value} {t : T} {u : Value} {b len cap : Nat} (hG : Gam lo Xb par ow s a.tmps w) (hd : oper.dst = d) (hd1 : ∀ k, d = some k → k < 1000 ∧ k < a.tmps.size)
  (hr:(execOp a.eval oper).run P w = (callFunc f vs.toArray).run P w) (hc:CallX P f i ts t nl' cs') (hlen:vs.length = ts.length) (hi:ts[i]? = some (cs.getD j .any)) (hu:vs[i]? = some u)
  (hv:∀ (k:Nat) (tj:T) (vj:Value),k ≠ i → ts[k]? = some tj → vs[k]? = some vj → Fz (offY ow y) w tj vj)
  (hm:m % 10 = 1) (hj:j < cs.length) (hrow:rowL cs) (hsc:scalL cs') (hy:s.get y = .own m nl cs) (hly:s.lv y = true) (hny:nmv a.tmps w y = some (.slice (some ⟨b,0,none⟩) len cap))
  (hO:OwnAt lo par ow w y m nl cs (.slice (some ⟨b,0,none⟩) len cap)) (hcell:erC w b j u)
  (hk:K (putD d (.mk .fr t) ((y,.own m nl (cs.set j (.s nl' cs'))) :: s.kill y))):GoI P lo Xb par a w K oper:=by
 intro next Q N
 unfold Oper.wp
 rw [hr,hc.1]
 simp only [Oper.upon]
 obtain ⟨nl0,cs0,e0,hc⟩:=hc.2
 rw [hi] at e0
 have hcj:cs.getD j .any = .s nl0 cs0:=Option.some.inj e0
 have hs0 : scalL cs0 := by
  have:=hrow (cs.getD j .any) (by rw [List.getD,List.getElem?_eq_getElem hj]; exact List.getElem_mem hj)
  rw [hcj] at this; exact this
 rcases hO.2 with h | ⟨hn, b', cap', arr, ty, xs, e, ho, hb, hs, hl, hmx, ht, hx, hdp⟩
 ·cases h.1
 cases e
 have htm:tagM m y = .rw y:=by simp [tagM,hm]
 rw [htm] at hx
 have hvx:veil cs xs = xs:=veil_id (fun t ht => by have:=hrow t ht; cases t <;> first | rfl | exact this.elim) hx.length
 have hvx' : veil (cs.set j (.s nl' cs')) xs = xs := veil_id (fun t ht => by
  rcases List.mem_or_eq_of_mem_set ht with ht | rfl
  ·have:=hrow t ht; cases t <;> first | rfl | exact this.elim
  ·rfl) (by rw [hx.length]; simp)
 rw [hvx] at hdp
 obtain ⟨d1,d2⟩:=hdp hm
 obtain ⟨x,hxj,hfx⟩:=hx.get j hj
 have hux : x = u := by
  replace hcell:=hcell.row (er_lt hj (Nat.le_trans hl hmx))
  rw [cell_of_row w b j arr ty (0,0) hb] at hcell
  subst ht
  rw [List.getElem?_take,if_pos hj] at hxj
  have e4:arr[j]? = some x:=by simpa using hxj
  rw [e4] at hcell; cases hcell; rfl
 subst hux
 rw [hcj] at hfx
 let ow1:Ow:=fun k => if rowBlk x = some k then some (i,0) else none
 have h1y : ∀ k, ow1 k ≠ none → ow k = some (y, 1) := fun k hk => by
  by_cases e : rowBlk x = some k
  ·exact (d2 j k (by rw [hxj]; exact e)).1
  ·simp [ow1,e] at hk
 have hpre : OwnAt w.heap.size (fun z => if z = i then some x else none) ow1 w i 11 nl0 cs0 x := by
  refine ⟨fun _ => by simp,?_⟩
  simp only [Fz] at hfx
  rcases hfx with h | ⟨hn0, b0, o0, sp0, cap0, zs, e1, l1, l2, _, hz, hzc⟩
  ·exact .inl h
  ·have hrb:rowBlk x = some b0:=by rw [e1]; rfl
   obtain ⟨q1,arr0,ty0,len0,q2,q3⟩:=d2 j b0 (by rw [hxj]; exact hrb)
   rw [hxj] at q3
   have q4:x = .slice (some ⟨b0,0,none⟩) len0 arr0.size:=by simpa using q3
   rw [e1] at q4
   cases q4
   refine .inr ⟨hn0,b0,arr0.size,arr0,ty0,zs,e1,by simp [ow1,hrb],q2,rfl,l1,l2,?_,hz.scal hs0,fun _ => (scal_deep hs0 hz).veil⟩
   apply List.ext_getElem?
   intro k
   rw [List.getElem?_take]
   have hzl:=hz.length
   split
   ·rename_i hk
    have hk':k < zs.length:=by omega
    have:=hzc k _ (List.getElem?_eq_getElem hk')
    rw [Nat.zero_add,cell_of_row w b0 k arr0 ty0 (0,0) q2] at this
    rw [List.getElem?_eq_getElem hk']
    simpa using this
   ·rw [List.getElem?_eq_none (by omega)]
 refine (hc w vs ow1 x hlen (fun k p hp => ?_) hu (fun k tj vj hk h1 h2 => Fz.mono (fun b' hb' => ?_) (hv k tj vj hk h1 h2)) hpre).mono ?_
 ·have h1:=h1y k (by rw [hp]; simp)
  refine ⟨?_,(hG.base _ _ h1).1⟩
  by_cases e : rowBlk x = some k
  ·simp [ow1,e] at hp; rw [← hp]
  ·simp [ow1,e] at hp
 ·refine Classical.byContradiction fun hne => ?_
  exact hb' 1 (h1y b' hne)
 rintro e w' ⟨r,rfl,hg,ow2,hb2,hO2,hfr⟩
 simp only
 rw [hd]
 have old:∀ k,k < w.heap.size → ow1 k = none → w'.heap[k]? = w.heap[k]?:=fun k hk h1 => hg.block k hk fun h => h h1
 have bne : ow1 b = none := by
  refine Classical.byContradiction fun hne => ?_
  have:=h1y b hne; rw [ho] at this; cases this
 have hbl:b < w.heap.size:=(Array.getElem?_eq_some_iff.1 hb).1
 have hrow' : Fz (okG lo ow (.rw y)) w' (.s nl' cs') x ∧ ∀ k, rowBlk x = some k → ∃ arr ty len, w'.heap[k]? = some (.cells arr ty (0, 0)) ∧ x = .slice (some ⟨k, 0, none⟩) len arr.size := by
  rcases hO2.2 with h | ⟨hn2, b2, cap2, arr2, ty2, zs, e1, ho2, q2, qs, ql, qm, qt, qx, _⟩
  ·refine ⟨by simp only [Fz]; exact .inl h,fun k hk => ?_⟩
   rw [h.1] at hk; cases hk
  ·have hrb:rowBlk x = some b2:=by rw [e1]; rfl
   have hy2:ow b2 = some (y,1):=h1y b2 (by simp [ow1,hrb])
   refine ⟨?_, fun k hk => ?_⟩
   ·simp only [Fz]
    refine .inr ⟨hn2,b2,0,none,cap2,zs,e1,ql,qm,fun _ => ⟨hy2,rfl⟩,qx.scal hsc,fun k v hk => ?_⟩
    rw [cell_of_row w' b2 (0 + k) arr2 ty2 (0,0) q2]
    subst qt
    rw [List.getElem?_take] at hk
    split at hk
    ·simpa using hk
    ·cases hk
   ·rw [hrb] at hk; cases hk
    exact ⟨arr2,ty2,_,q2,by rw [qs]; exact e1⟩
 have hpost : OwnAt lo par ow w' y m nl (cs.set j (.s nl' cs')) (.slice (some ⟨b, 0, none⟩) cs.length cap) := by
  refine ⟨hO.1, .inr ⟨hn, b, cap, arr, ty, xs, by simp, ho, (old b hbl bne).trans hb, hs, by simpa using hl, hmx, by simpa using ht, ?_, fun _ => ?_⟩⟩
  ·rw [htm]
   have hxl:=hx.length
   refine FzL.of_get (by simpa using hxl) fun k v hkv => ?_
   by_cases e : k = j
   ·subst e
    rw [hxj] at hkv; cases hkv
    rw [List.getD,List.getElem?_set_self hj]
    exact hrow'.1
   ·have hkl:k < cs.length:=by rw [← hxl]; exact (List.getElem?_eq_some_iff.1 hkv).1
    obtain ⟨v',hk',hfv⟩:=hx.get k hkl
    rw [hkv] at hk'; cases hk'
    have hset : (cs.set j (.s nl' cs')).getD k .any = cs.getD k .any := by
     rw [List.getD,List.getElem?_set_ne (fun h => e h.symm)]; rfl
    rw [hset]
    have hrk:=hrow (cs.getD k .any) (by rw [List.getD,List.getElem?_eq_getElem hkl]; exact List.getElem_mem hkl)
    cases hck:cs.getD k .any with
    | s nlk ck =>
     rw [hck] at hfv hrk
     simp only [Fz] at hfv ⊢
     rcases hfv with h | ⟨hn0, b0, o0, sp0, cap0, zs, e1, l1, l2, hok, hz, hzc⟩
     ·exact .inl h
     ·refine .inr ⟨hn0,b0,o0,sp0,cap0,zs,e1,l1,l2,hok,hz.scal hrk,fun q z hq => ?_⟩
      have h0:=hzc q z hq
      have hb0 : ow1 b0 = none := by
       refine Classical.byContradiction fun hne => e ?_
       have hrb : rowBlk x = some b0 := by
        by_cases e5 : rowBlk x = some b0
        ·exact e5
        ·simp [ow1,e5] at hne
       exact d1 k j b0 (by rw [hkv,e1]; rfl) (by rw [hxj]; exact hrb)
      rw [World.cell?_of_block (w:=w) (old b0 (World.block_lt_of_cell? w _ h0) hb0)]; exact h0
    | _ => rw [hck] at hrk; exact hrk.elim
  ·rw [hvx']
   refine ⟨d1,fun k b' hk => ?_⟩
   obtain ⟨q1,arr0,ty0,len0,q2,q3⟩:=d2 k b' hk
   refine ⟨q1,?_⟩
   by_cases e : rowBlk x = some b'
   ·obtain ⟨arr1,ty1,len1,p1,p2⟩:=hrow'.2 b' e
    have hkj:=d1 k j b' hk (by rw [hxj]; exact e)
    subst hkj
    exact ⟨arr1,ty1,len1,p1,by rw [hxj,p2]⟩
   ·exact ⟨arr0,ty0,len0,(old b' (Array.getElem?_eq_some_iff.1 q2).1 (by simp [ow1,e])).trans q2,q3⟩
 have hold:∀ k,k < w.heap.size → (∀ r,ow k ≠ some (y,r)) → ow k = ow k ∧ w'.heap[k]? = w.heap[k]?:=fun k hk hne => ⟨rfl,old k hk (Classical.byContradiction fun h => hne 1 (h1y k h))⟩
 have hG':=hG.wrote hly hny hg.size hold (fun k p hp => ⟨Nat.lt_of_lt_of_le (hG.base _ _ hp).1 hg.size,(hG.base _ _ hp).2⟩) hpost
 obtain ⟨g1, g2, g3⟩ := goi_putF hd hd1 hG' (hfr.mono fun b hb => ⟨by
  cases e:ow b with
  | none => rfl
  | some p => exact absurd (hG.base _ _ e).1 (by have:=hb.1; omega),Nat.le_trans hG.low hb.1⟩)
 exact N _ _ w' _ hk (hg.mono fun k hk hne => (hG.base _ _ (h1y k hne)).2) g1 g2 g3
theorem Gam.storeEl {y J m : Nat} {nl nx : Option Bool} {cs row : List T} {g : G} {r : T} {u v : Value} {b len cap : Nat} (hG : Gam lo Xb par ow s tm w) (hy : s.get y = .own m nl cs) (hly : s.lv y = true) (hny : nmv tm w y = some (.slice (some ⟨b, 0, none⟩) len cap))
  (hO:OwnAt lo par ow w y m nl cs (.slice (some ⟨b,0,none⟩) len cap)) (hC:erC w b J u) (hB:erB ≤ J) (hm:m % 10 = 1) (hj:J % erB < cs.length) (hrow:rowL cs) (hcj:cs.getD (J % erB) .any = .s nx row) (hk:J / erB - 1 < row.length) (hr:r.scal) (hv:Fz (okG lo ow g) w r v) :
  ∃ b0, u = .pointer (some ⟨b0, J / erB - 1, none⟩) ∧ v.oneCell' = true ∧ (∃ x, w.cell? ⟨b0, J / erB - 1, none⟩ = some x) ∧ w.frozen? ⟨b0, J / erB - 1, none⟩ = false ∧ ow b0 = some (y, 1) ∧
   Gam lo Xb par ow ((y,.own m nl (cs.set (J % erB) (.s nx (row.set (J / erB - 1) r)))) :: s.kill y) tm (w.setCell ⟨b0,J / erB - 1,none⟩ v):=by
 obtain ⟨rv,hcell,hrv⟩:=hC
 rcases hrv with ⟨h, _⟩ | ⟨_, b0, l0, c0, hrv, hu⟩
 ·omega
 generalize J / erB - 1 = k at *
 generalize J % erB = j at *
 have hone:v.oneCell' = true:=hv.one (by cases r <;> simp [T.scal] at hr ⊢)
 have hs0 : scalL row := by
  have:=hrow (cs.getD j .any) (by rw [List.getD,List.getElem?_eq_getElem hj]; exact List.getElem_mem hj)
  rw [hcj] at this; exact this
 rcases hO.2 with h | ⟨hn, b', cap', arr, ty, xs, e, ho, hb, hs, hl, hmx, ht, hx, hdp⟩
 ·cases h.1
 cases e
 have htm:tagM m y = .rw y:=by simp [tagM,hm]
 rw [htm] at hx
 have hvx:veil cs xs = xs:=veil_id (fun t ht => by have:=hrow t ht; cases t <;> first | rfl | exact this.elim) hx.length
 have hvx' : veil (cs.set j (.s nx (row.set k r))) xs = xs := veil_id (fun t ht => by
  rcases List.mem_or_eq_of_mem_set ht with ht | rfl
  ·have:=hrow t ht; cases t <;> first | rfl | exact this.elim
  ·rfl) (by rw [hx.length]; simp)
 rw [hvx] at hdp
 obtain ⟨d1,d2⟩:=hdp hm
 obtain ⟨x,hxj,hfx⟩:=hx.get j hj
 have hxr : x = rv := by
  rw [cell_of_row w b j arr ty (0,0) hb] at hcell
  subst ht
  rw [List.getElem?_take,if_pos hj] at hxj
  have e4:arr[j]? = some x:=by simpa using hxj
  rw [e4] at hcell; cases hcell; rfl
 subst hxr
 rw [hcj] at hfx
 have hrb:rowBlk x = some b0:=by rw [hrv]; rfl
 obtain ⟨oy1,arr0,ty0,len0,q2,q3⟩:=d2 j b0 (by rw [hxj]; exact hrb)
 rw [hxj] at q3
 replace q3:=Option.some.inj q3
 simp only [Fz] at hfx
 rcases hfx with ⟨_, rfl, _⟩ | ⟨hn0, b1, o1, sp1, cap1, zs, e1, l1, l2, _, hz, hzc⟩
 ·simp at hk
 rw [q3] at e1
 cases e1
 have hk0:k < arr0.size:=by omega
 have hne:b0 ≠ b:=fun h => by rw [h,ho] at oy1; cases oy1
 have oth:∀ q,q ≠ b0 → (w.setCell ⟨b0,k,none⟩ v).heap[q]? = w.heap[q]?:=fun q hq => heap_setCell_other w _ q v hq
 refine ⟨b0,hu,hone,⟨arr0[k],by rw [cell_of_row w b0 k arr0 ty0 (0,0) q2]; exact Array.getElem?_eq_getElem hk0⟩,frozen_of_row w b0 k arr0 ty0 q2,oy1,?_⟩
 have hb0:=setCell_row (v:=v) (j:=k) q2
 have hzl:=hz.length
 have hpost : OwnAt lo par ow (w.setCell ⟨b0, k, none⟩ v) y m nl (cs.set j (.s nx (row.set k r))) (.slice (some ⟨b, 0, none⟩) cs.length cap) := by
  refine ⟨hO.1, .inr ⟨hn, b, cap, arr, ty, xs, by simp, ho, (oth b hne.symm).trans hb, hs, by simpa using hl, hmx, by simpa using ht, ?_, fun _ => ?_⟩⟩
  ·rw [htm]
   have hxl:=hx.length
   refine FzL.of_get (by simpa using hxl) fun q z hqz => ?_
   by_cases e : q = j
   ·subst e
    rw [hxj] at hqz; cases hqz
    rw [List.getD,List.getElem?_set_self hj]
    simp only [Option.getD_some,Fz]
    refine .inr ⟨hn0, b0, 0, none, arr0.size, zs.set k v, by rw [q3]; simp, by simpa using l1, l2, fun _ => ⟨oy1, rfl⟩, ?_, fun i z hi => ?_⟩
    ·exact (hz.scal (ok':=okG lo ow (.rw y)) (w':=w.setCell ⟨b0,k,none⟩ v) hs0).set k (hv.scal hr)
    ·rw [cell_of_row _ b0 (0 + i) _ ty0 (0,0) hb0,Nat.zero_add]
     rw [List.getElem?_set] at hi
     rw [Array.getElem?_setIfInBounds]
     split
     ·rename_i hik
      rw [if_pos hik] at hi
      split at hi
      ·exact hi
      ·cases hi
     ·rename_i hik
      rw [if_neg hik] at hi
      have:=hzc i z hi
      rw [Nat.zero_add,cell_of_row w b0 i arr0 ty0 (0,0) q2] at this
      exact this
   ·have hkl:q < cs.length:=by rw [← hxl]; exact (List.getElem?_eq_some_iff.1 hqz).1
    obtain ⟨v',hk',hfv⟩:=hx.get q hkl
    rw [hqz] at hk'; cases hk'
    have hset : (cs.set j (.s nx (row.set k r))).getD q .any = cs.getD q .any := by
     rw [List.getD,List.getElem?_set_ne (fun h => e h.symm)]; rfl
    rw [hset]
    have hrk:=hrow (cs.getD q .any) (by rw [List.getD,List.getElem?_eq_getElem hkl]; exact List.getElem_mem hkl)
    cases hck:cs.getD q .any with
    | s nlk ck =>
     rw [hck] at hfv hrk
     simp only [Fz] at hfv ⊢
     rcases hfv with h | ⟨hn0, b3, o0, sp0, cap0, zs, e1, l1, l2, hok, hz, hzc⟩
     ·exact .inl h
     ·refine .inr ⟨hn0,b3,o0,sp0,cap0,zs,e1,l1,l2,hok,hz.scal hrk,fun i z hq => ?_⟩
      have h0:=hzc i z hq
      have hb3:b3 ≠ b0:=fun h => e (d1 q j b0 (by rw [hqz,e1]; simp [rowBlk,h]) (by rw [hxj]; exact hrb))
      rw [World.cell?_of_block (w:=w) (oth b3 hb3)]; exact h0
    | _ => rw [hck] at hrk; exact hrk.elim
  ·rw [hvx']
   refine ⟨d1,fun q b' hk => ?_⟩
   obtain ⟨q1,arr1,ty1,len1,p2,p3⟩:=d2 q b' hk
   refine ⟨q1,?_⟩
   by_cases e : b' = b0
   ·subst e
    have hkj:=d1 q j b' hk (by rw [hxj]; exact hrb)
    subst hkj
    exact ⟨_,ty0,_,hb0,by rw [hxj,q3]; simp; rfl⟩
   ·exact ⟨arr1,ty1,len1,(oth b' e).trans p2,p3⟩
 exact hG.wrote hly hny (by simp) (fun q hq hne => ⟨rfl,oth q fun h => hne 1 (h ▸ oy1)⟩) (fun q p hp => ⟨by simpa using (hG.base _ _ hp).1,(hG.base _ _ hp).2⟩) hpost
theorem st_goi {p v : X} {p' v' : Operand} {t : TypeId} (hG : Gam lo Xb par ow s a.tmps w) (hd : oper.dst = none) (ho : oper.op = .store t p' v') (h1 : one1 P t = true) (hp : xOk p p' = true) (hv : xOk v v' = true)
  (hk:wpI P (.st p v) K s):GoI P lo Xb par a w K oper:=by
 have r1:=xOk_sound hG hp
 have r2:=xOk_sound hG hv
 rw [wpI_st] at hk
 generalize s.look p = wp at r1 hk
 generalize s.look v = wv at r2 hk
 cases wp with
 | pe y j m nl cs =>
  obtain ⟨hy,hly,b,len,cap,hny,hO,hpe⟩:=r1
  cases wv with
  | t g r =>
   rw [stK_pet] at hk
   obtain ⟨k1,k2,k3⟩:=hk
   obtain ⟨q1,q2,⟨x,q3⟩,q4,q5⟩:=hG.store hy hly hny rfl k1 k2 r2
   exact goi_skip hd (st_run ho h1 hpe rfl q2 q3 q4) k3 (hG.base b _ q5).2 q1
  | own x mx nx cx =>
   rw [stK_peo] at hk
   obtain ⟨k1,k2,k3,k4,k5,k6⟩:=hk
   obtain ⟨hx,hlx,hnx,hOx⟩:=r2
   obtain ⟨q1,q2,⟨x,q3⟩,q4,q5⟩:=hG.storeRow hy hly hny rfl k4 k5 hx hlx hnx k1 k3
   exact goi_skip hd (st_run ho h1 hpe rfl q2 q3 q4) k6 (hG.base b _ q5).2 q1
  | _ => exact hk.elim
 | er y j m nl cs =>
  obtain ⟨hy,hly,b,len,cap,hny,hO,hC⟩:=r1
  cases wv with
  | t g r =>
   rw [stK_ert] at hk
   obtain ⟨k1,k2,k3,k4,k5,k6⟩:=hk
   cases hcj:cs.getD (j % erB) .any with
   | s nx row =>
    rw [hcj,erS_s] at k6
    obtain ⟨k6,k7⟩:=k6
    obtain ⟨b0,q0,q1,⟨x,q2⟩,q3,q4,q5⟩:=hG.storeEl hy hly hny hO hC k1 k2 k4 k5 hcj k6 k3 r2
    exact goi_skip hd (st_run ho h1 q0 rfl q1 q2 q3) k7 (hG.base b0 _ q4).2 q5
   | _ => rw [hcj] at k6; exact k6.elim
  | _ => exact hk.elim
 | pc z v0 ts =>
  obtain ⟨n,b,arr,ty,hz,hnz,hb,hob,hn,hlt,h1000,hpe,_,_⟩:=r1
  have hcell:∃ x,w.cell? ⟨b,z / 1000 - 1,none⟩ = some x:=⟨arr[z / 1000 - 1],by rw [cell_of_row w b _ arr ty (0,0) hb]; exact Array.getElem?_eq_getElem (by omega)⟩
  obtain ⟨x0,hcell⟩:=hcell
  have hfro:=frozen_of_row w b (z / 1000 - 1) arr ty hb
  cases wv with
  | t g r =>
   rw [stK_pct] at hk
   obtain ⟨k1,k2,k3,k4⟩:=hk
   have hone:(a.eval v').oneCell' = true:=Fz.one (r2:Fz _ _ _ _) (by cases r <;> first | exact k1 | (simp [T.one] at k1 ⊢; done))
   exact goi_skip hd (st_run ho h1 hpe rfl hone hcell hfro) k4 (hG.base b _ hob).2 (hG.storeBox hz hnz hb hob hn hlt h1000 k3 (v:=.t g r) r2 (fun h => by cases h) k2)
  | own x mx nx cx =>
   rw [stK_pco] at hk
   obtain ⟨k1,k2,k3,k4,k5⟩:=hk
   obtain ⟨hx,hlx,hnx,hOx⟩:=r2
   have hone : (a.eval v').oneCell' = true := by
    rcases hOx.2 with ⟨h,_⟩ | ⟨_,_,_,_,_,_,h,_⟩ <;> rw [h] <;> rfl
   have hxz : hangs x z = false := by
    rw [hangs_false] at k1 k2 ⊢
    exact ⟨fun e => k1.1 e.symm,fun h e => k2.1 e⟩
   have Kp : Keeps lo [z, x] ow (owMove ow x z) a.tmps a.tmps w w s ([] ++ St.rtL [x] z (s.kill z)) :=
    Keeps.absorb hG (by simpa using k1) (by simpa using hxz) (by simp) (by simp) (fun _ _ _ => rfl) (Nat.le_refl _) (fun _ _ => rfl) (fun _ _ _ => rfl)
   have h2 : Gam lo Xb par (owMove ow x z) ((s.kill z).rt x z) a.tmps w := by
    refine Gam.next (ds := [z, x]) hG Kp (fun b p hp => ?_) fun y hy hl hn => ?_
    ·obtain ⟨q,hq⟩:=owMove_some hp; exact hG.base b q hq
    ·exfalso
     have : ((St.rtL [x] z (s.kill z)).get y).isAny = true := by
      refine rtL_hang ?_
      obtain ⟨q,hq,hh⟩:=hy
      simp at hq
      rcases hq with rfl | rfl
      ·right; rw [get_kill,if_pos (.inl hh)]; rfl
      ·exact .inl ⟨q,by simp,hh⟩
     exact absurd (this.symm.trans hn) (by simp)
   have hzz:hangs z (z % 1000) = false:=by rw [hangs_false]; exact ⟨by omega,fun h => by omega⟩
   have hz' : ((s.kill z).rt x z).get (z % 1000) = .bx n := by
    rw [get_rt,if_neg (by rw [k2]; simp),get_kill,hz,if_neg (by rw [hzz]; simp [V.on])]
    rfl
   have ho':owMove ow x z b = some (z % 1000,0):=owMove_ne hob k2
   have hcr:CellRep lo par (owMove ow x z) w z (.own mx nx cx) (a.eval v'):=OwnAt.ren k4 (fun b r hb => owMove_self hb) (fun b hb => owMove_none.2 hb) hOx
   exact goi_skip hd (st_run ho h1 hpe rfl hone hcell hfro) k5 (hG.base b _ hob).2 (h2.storeBox hz' hnz hb ho' hn hlt h1000 k3 (v:=.own mx nx cx) hcr (fun _ => (Kd.kill z s).rt) rfl)
  | _ => exact hk.elim
 | _ => exact hk.elim
theorem Gam.lose {y : Nat} (h : Gam lo Xb par ow s tm w) (hy : y < 1000) (hsz : w.heap.size ≤ w'.heap.size) (ho : ∀ b, b < w.heap.size → (∀ q r, ow b = some (q, r) → hangs y q = false) → ow' b = ow b ∧ w'.heap[b]? = w.heap[b]?)
  (hbase:∀ b p,ow' b = some p → b < w'.heap.size ∧ (lo ≤ b ∨ Xb b)):Gam lo Xb par ow' (s.kill y) tm w':=by
 have ne:∀ z,¬ Hg [y] z → hangs y z = false:=fun z hz => by rw [← Bool.not_eq_true]; exact fun h => hz ⟨y,by simp,h⟩
 have K : Keeps lo [y] ow ow' tm tm w w' s (s.kill y) := by
  refine ⟨hsz, fun z hz => ?_, fun z hz hl u hu => ?_, fun z hz b hb r hr => ?_, fun g hg b hb hk => ?_⟩
  ·rw [get_kill]
   by_cases hon : (s.get z).on y = true
   ·left; simp [hon]; rfl
   ·simp only [Bool.not_eq_true] at hon
    right; left; simp [ne z hz,hon]
  ·refine h.nmKeep hl (fun b hb hb' h1000 => (ho b hb fun q r e => ?_).2) hu
   rw [hb'] at e
   cases e
   have:=ne z hz
   rw [hangs_false] at this ⊢
   exact ⟨fun e => this.2 hy (by omega),fun _ e => this.2 hy (by omega)⟩
  ·obtain ⟨h1,h2⟩:=ho b hb fun q r' e => by rw [hr] at e; cases e; exact ne z hz
   exact ⟨h1.trans hr,h2⟩
  ·have hgy:=hg y (by simp)
   obtain ⟨h1, h2⟩ := ho b hb fun q r e => by
    cases g with
    | arg => simp only [okG] at hk; rw [hk] at e; cases e
    | fr => simp only [okG] at hk; rw [hk.1] at e; cases e
    | rw z => simp only [okG] at hk; rw [hk] at e; cases e; exact hgy
    | sp z =>
     simp only [okG] at hk
     rcases hk with hk | hk | hk <;> rw [hk] at e <;> cases e <;> exact hgy
   refine ⟨?_,h2⟩
   cases g <;> simp only [okG] at hk ⊢ <;> rw [h1] <;> exact hk
 refine Gam.next h K hbase fun z hz hl' hn => ?_
 obtain ⟨x,hx,hh⟩:=hz
 simp at hx; subst hx
 rw [get_kill,if_pos (.inl hh)] at hn; cases hn
theorem cells_get {x c : Nat} : ∀ {n j i : Nat}, i < n → (s.cells x c j n)[i]? = some (s.resN (x + 1000 * (c + (j + i))))
 | 0,j,i,h => by omega
 | n + 1,j,0,h => by simp [cells_s]
 | n + 1, j, i + 1, h => by
  rw [cells_s,List.getElem?_cons_succ,cells_get (n:=n) (j:=j + 1) (i:=i) (by omega),show j + 1 + i = j + (i + 1) by omega]
theorem ownC_get {y c : Nat} : ∀ {n j i : Nat}, ownC s y c j n → i < n → ownV (s.get (y + 1000 * (c + (j + i))))
 | 0,j,i,_,h => by omega
 | n + 1,j,0,h,_ => h.1
 | n + 1, j, i + 1, h, hi => by
  have:=ownC_get (n:=n) (j:=j + 1) (i:=i) h.2 (by omega)
  rw [show j + (i + 1) = j + 1 + i by omega]; exact this
theorem scalA_get : ∀ {ws : List W} {j : Nat} {x : W}, scalA ws → ws[j]? = some x → ∃ g r, x = .t g r ∧ r.scal
 | [],j,x,_,hx => by simp at hx
 | w :: ws, j, x, h, hx => by
  cases w with
  | t g r =>
   rw [scalA_c] at h
   cases j with
   | zero => simp at hx; exact ⟨g,r,hx.symm,h.1⟩
   | succ j => exact scalA_get h.2 (by simpa using hx)
  | _ => exact h.elim
theorem scalI_get : ∀ {i : Nat} {ws : List W} {j : Nat} {x : W}, scalI i ws → j ≠ i → ws[j]? = some x → ∃ g r, x = .t g r ∧ r.scal
 | _,[],j,x,_,_,hx => by simp at hx
 | 0, w :: ws, j, x, h, hj, hx => by
  cases j with
  | zero => exact absurd rfl hj
  | succ j => exact scalA_get h (by simpa using hx)
 | i + 1, w :: ws, j, x, h, hj, hx => by
  cases w with
  | t g r =>
   rw [scalI_s] at h
   cases j with
   | zero => simp at hx; exact ⟨g,r,hx.symm,h.1⟩
   | succ j => exact scalI_get (i:=i) (j:=j) h.2 (fun e => hj (by rw [e])) (by simpa using hx)
  | _ => exact h.elim
theorem OwnAt.give {lo' : Nat} {y z m : Nat} {nl : Option Bool} {cs : List T} {u : Value} (hm : m = 1 ∨ (m < 10 ∧ scalL cs)) (h0 : ∀ b r, ow b = some (y, r) → ow' b = some (z, r)) (h : OwnAt lo par ow w y m nl cs u) : OwnAt lo' (fun _ => none) ow' w z 1 nl cs u := by
 refine ⟨fun h => absurd h (by omega),?_⟩
 rcases h.2 with h | ⟨hn, b, cap, arr, ty, xs, e, ho, hb, hs, hl, hmx, ht, hx, hdp⟩
 ·exact .inl h
 ·refine .inr ⟨hn, b, cap, arr, ty, xs, e, h0 b 0 ho, hb, hs, hl, hmx, ht, ?_, fun _ => ?_⟩
  ·have ht1:tagM 1 z = .rw z:=rfl
   rw [ht1]
   rcases hm with rfl | ⟨_, hm⟩
   ·have htm:tagM 1 y = .rw y:=rfl
    rw [htm] at hx
    exact hx.mono fun b hb => h0 b 1 hb
   ·exact hx.scal hm
  ·rcases hm with rfl | ⟨_, hm⟩
   ·obtain ⟨d1,d2⟩:=hdp rfl
    exact ⟨d1,fun k b hk => by obtain ⟨q1,q2⟩:=d2 k b hk; exact ⟨h0 b 1 q1,q2⟩⟩
   ·exact (scal_deep hm hx).veil
theorem look_bv {x : X} {z n : Nat} {us : List T} (h : s.look x = .bv z n us) : us = s.cells z 1 0 n := by
 cases x with
 | k t => cases h
 | s m =>
  rw [look_s] at h
  cases hv:s.get m with
  | bv y =>
   rw [hv,enr_bv] at h
   cases hy:s.get y with
   | bx k =>
    rw [hy,bvW_bx] at h
    revert h
    cases decide (y < 1000) <;> intro h <;> cases h
    rfl
   | _ => rw [hy] at h; cases h
  | clo f' cp' => rw [hv,enr_clo] at h; cases h
  | fo => rw [hv] at h; cases h
  | t => rw [hv] at h; cases h
  | own => rw [hv] at h; cases h
  | bx k => rw [hv,enr_bx,pcW_eq] at h; revert h; cases s.get ((m + 1000) % 1000) <;> simp only [pcW'] <;> (try (intro h; cases h)) <;> cases (decide ((m + 1000) / 1000 - 1 < _) && decide (1000 ≤ m + 1000)) <;> intro h <;> cases h
  | tp => rw [hv] at h; cases h
  | ag => rw [hv] at h; cases h
  | al z => rw [hv,enr_al] at h; revert h; cases s.get z <;> simp only [alW] <;> (try (intro h; cases h)) <;> (first | (cases s.lv z <;> intro h <;> cases h) | (cases decide (z < 1000) <;> intro h <;> cases h))
  | pc z => rw [hv,enr_pc,pcW_eq] at h; revert h; cases s.get (z % 1000) <;> simp only [pcW'] <;> (try (intro h; cases h)) <;> cases (decide (z / 1000 - 1 < _) && decide (1000 ≤ z)) <;> intro h <;> cases h
  | pe z j => rw [hv,enr_pe] at h; revert h; cases s.get z <;> simp only [peW] <;> (try (intro h; cases h)) <;> cases s.lv z <;> intro h <;> cases h
  | sl z j k => rw [hv,enr_sl] at h; revert h; cases s.get z <;> simp only [slW] <;> (try (intro h; cases h)) <;> cases s.lv z <;> intro h <;> cases h
  | er z j => rw [hv,enr_er] at h; revert h; cases s.get z <;> simp only [erW] <;> (try (intro h; cases h)) <;> cases s.lv z <;> intro h <;> cases h
def owA (ow : Ow) (z i : Nat) : Ow := fun b => match ow b with
 | some (q,r) => if 1000 ≤ q ∧ q % 1000 = z ∧ q / 1000 < 100 then some (q - z + i + 199000,r) else none
 | none => none
def owK (ow : Ow) (z : Nat) : Ow := fun b => match ow b with
 | some (q,r) => if hangs z q = true then none else some (q,r)
 | none => none
theorem coa_goi {d : Option Nat} {f i z n b : Nat} {ts : List T} {vs : List Value} {t : T} {arr : Array Value} {ty : TypeId} (hG : Gam lo Xb par ow s a.tmps w) (hd : oper.dst = d) (hd1 : ∀ k, d = some k → k < 1000 ∧ k < a.tmps.size)
  (hr:(execOp a.eval oper).run P w = (callFunc f vs.toArray).run P w) (hc:CallA P f i ts t) (hlen:vs.length = ts.length) (hi:ts[i]? = some (.a (s.cells z 1 0 n))) (hi1:i < 1000) (hz:s.get z = .bx n) (hz1:z < 1000) (hn90:n < 90)
  (hnz:nmv a.tmps w z = some (.pointer (some ⟨b,0,none⟩))) (hb:w.heap[b]? = some (.cells arr ty (0,0))) (hsz:arr.size = n) (hu:vs[i]? = some (.agg arr)) (hts:FzL (fun _ => True) w (s.cells z 1 0 n) arr.toList)
  (hv:∀ (j:Nat) (tj:T) (vj:Value),j ≠ i → ts[j]? = some tj → vs[j]? = some vj → Fz (fun b => owA ow z i b = none) w tj vj) (hown:ownC s z 1 0 n) (hk:K (putD d (.mk .fr t) (s.kill z))):GoI P lo Xb par a w K oper:=by
 intro next Q N
 unfold Oper.wp
 rw [hr,hc.1]
 simp only [Oper.upon]
 obtain ⟨fs,e0,hc⟩:=hc.2
 rw [hi] at e0; cases e0
 have hal:=hts.length
 have oA : ∀ {c b r}, c < n → ow b = some (z + 1000 * (1 + c), r) → owA ow z i b = some (i + 1000 * (200 + c), r) := fun {c b r} hc h => by
  unfold owA; rw [h]
  simp only
  rw [if_pos (by omega)]
  congr 2; omega
 refine (hc w vs (owA ow z i) arr.toList hlen (fun b' p hp => ?_) (by simpa using hu) hal (fun c t' hct => ?_) hv).mono ?_
 ·unfold owA at hp
  split at hp
  ·rename_i q r hq
   split at hp
   ·rename_i h3
    cases hp
    exact ⟨by simp only; omega,(hG.base _ _ hq).1⟩
   ·cases hp
  ·cases hp
 ·have hcn : c < n := by
   have:=(List.getElem?_eq_some_iff.1 hct).1
   rw [← hal] at this; simp at this; omega
  have hov:=ownC_get (i:=c) hown hcn
  rw [cells_get hcn] at hct
  rw [Nat.zero_add] at hov hct
  have hlv:s.lv (z + 1000 * (1 + c)) = true:=lv_iff.2 (.inr (by rw [show (z + 1000 * (1 + c)) % 1000 = z by omega,hz]; rfl))
  cases hx:s.get (z + 1000 * (1 + c)) with
  | own m nl cs =>
   rw [hx,ownV_o] at hov
   rw [resN_eq,hx] at hct
   obtain ⟨u',e1,e2⟩:=hG.ent _ hlv (by rw [hx]; rfl)
   rw [hx] at e2
   have htm:a.tmps.getD z undef = .pointer (some ⟨b,0,none⟩):=by rw [nmv_slot hz1] at hnz; simpa using hnz
   have hu' : arr[c]? = some u' := by
    unfold nmv at e1
    rw [if_neg (by omega),show (z + 1000 * (1 + c)) % 1000 = z by omega,htm] at e1
    simp only at e1
    rw [if_pos (by omega),show (z + 1000 * (1 + c)) / 1000 - 1 = c by omega,cell_of_row w b c arr ty (0,0) hb] at e1
    exact e1
   exact ⟨nl,cs,u',(Option.some.inj hct).symm,by simpa using hu',OwnAt.give hov (fun b' r h => oA hcn h) e2⟩
  | _ => rw [hx] at hov; exact hov.elim
 rintro e w' ⟨r,rfl,hg,hfr⟩
 simp only
 rw [hd]
 have hA : ∀ b', (∀ q r, ow b' = some (q, r) → hangs z q = false) → owA ow z i b' = none := fun b' h => by
  unfold owA
  split
  ·rename_i q r hq
   rw [if_neg]
   rintro ⟨h1,h2,_⟩
   have:=h q r hq
   rw [hangs_false] at this
   exact this.2 hz1 h2
  ·rfl
 have hG' := hG.lose (ow' := owK ow z) hz1 hg.size (fun b' hb' h => ⟨by
  unfold owK
  split
  ·rename_i q r hq; rw [h q r hq]; simp [hq]
  ·rename_i hq; exact hq.symm,hg.block b' hb' fun hne => hne (hA b' h)⟩) (fun b' p hp => by
  have : ∃ q, ow b' = some q := by
   unfold owK at hp
   split at hp
   ·rename_i q r hq; exact ⟨_,hq⟩
   ·cases hp
  obtain ⟨q,hq⟩:=this
  exact ⟨Nat.lt_of_lt_of_le (hG.base _ _ hq).1 hg.size,(hG.base _ _ hq).2⟩)
 obtain ⟨g1,g2,g3⟩:=goi_putD hd hd1 hG' hfr
 refine N _ _ w' _ hk (hg.mono fun b' _ hne => ?_) g1 g2 g3
 have : ∃ q, ow b' = some q := by
  cases e:ow b' with
  | none => exact absurd (by unfold owA; rw [e]) hne
  | some q => exact ⟨q,rfl⟩
 obtain ⟨q,hq⟩:=this
 exact (hG.base _ _ hq).2
end
end Go.Vc
namespace Go.Vc
open Go
section
variable {P:Program} {lo:Nat} {Xb:Nat → Prop} {par:Nat → Option Value} {ow ow':Ow} {tm tm':Array Value} {a:Act} {w w' w1:World} {s s1 s':St} {K:St → Prop} {oper:Oper}
def Free (d:Nat) (s:St):Prop:=∀ y,(hangs d y = true → (s.get y).isAny = true) ∧ (s.get y).on d = false
theorem Free.kill (d : Nat) (s : St) : Free d (s.kill d) := fun y => by
 rw [get_kill]
 refine ⟨fun h => by rw [if_pos (.inl h)]; rfl,?_⟩
 split
 ·rfl
 ·rename_i h; simp only [not_or,Bool.not_eq_true] at h; exact h.2
theorem Free.kill2 {d z : Nat} (h : Free d s) : Free d (s.kill z) := fun y => by
 rw [get_kill]
 obtain ⟨h1,h2⟩:=h y
 split
 ·exact ⟨fun _ => rfl,rfl⟩
 ·exact ⟨h1,h2⟩
def ofD (ow:Ow) (d n b:Nat):Prop:=n ≤ b ∨ ∃ r,ow b = some (d,r)
theorem Gam.make2 {d : Nat} {E : St} {u : Value} (h : Gam lo Xb par ow s tm w) (hk : Free d s) (hd : d < 1000) (hg : Grow (fun b => ∃ r, ow b = some (d, r)) w w')
  (ho:∀ b,¬ ofD ow d w.heap.size b → ow' b = ow b) (hb:∀ b p,ofD ow d w.heap.size b → ow' b = some p → b < w'.heap.size ∧ (lo ≤ b ∨ Xb b)) (hE:∀ p ∈ E,hangs d p.1 = true)
  (he:∀ y,hangs d y = true → (∃ p ∈ E,p.1 = y) → St.lv (E ++ s) y = true → (E.get y).isAny = false → ∃ x,nmv (tm.setIfInBounds d u) w' y = some x ∧ Rep lo par ow' (tm.setIfInBounds d u) w' (E ++ s) y (E.get y) x) :
  Gam lo Xb par ow' (E ++ s) (tm.setIfInBounds d u) w':=by
 have hh : ∀ y, ¬ Hg [d] y → hangs d y = false := fun y hy => by
  rw [← Bool.not_eq_true]; exact fun h => hy ⟨d,by simp,h⟩
 have old : ∀ b, b < w.heap.size → (∀ r, ow b ≠ some (d, r)) → ow' b = ow b ∧ w'.heap[b]? = w.heap[b]? := fun b hb hne =>
  ⟨ho b fun h => by rcases h with h | ⟨r,h⟩; omega; exact hne r h,hg.block b hb fun ⟨r,h⟩ => hne r h⟩
 have zd:∀ {z:Nat},hangs d z = false → z ≠ d:=fun hz e => by rw [e,hangs_self] at hz; cases hz
 have K : Keeps lo [d] ow ow' tm (tm.setIfInBounds d u) w w' s (E ++ s) := by
  refine ⟨hg.size, fun y hy => ?_, fun y hy hl x hx => ?_, fun y hy b hb r hr => ?_, fun g hgg b hb hkk => ?_⟩
  ·have e : (E ++ s).get y = s.get y := get_app fun p hp he => by
    have:=hE p hp; rw [he,hh y hy] at this; cases this
   rw [e]
   exact .inr (.inl ⟨rfl,by simpa using (hk y).2⟩)
  ·rw [nmv_put (hh y hy) hd]
   refine h.nmKeep hl (fun b hb hb' h1000 => (old b hb fun r e => ?_).2) hx
   rw [hb'] at e
   have e1:y % 1000 = d:=congrArg Prod.fst (Option.some.inj e)
   have:=hh y hy
   rw [hangs_false] at this
   exact this.2 (by omega) e1
  ·obtain ⟨h1,h2⟩:=old b hb fun r' e => by rw [hr] at e; exact zd (hh y hy) (congrArg Prod.fst (Option.some.inj e))
   exact ⟨h1.trans hr,h2⟩
  ·obtain ⟨h1,h2⟩:=old b hb fun r e => on_self (hgg d (by simp)) hkk e
   refine ⟨?_,h2⟩
   cases g <;> simp only [okG] at hkk ⊢ <;> rw [h1] <;> exact hkk
 refine Gam.next h K (fun b p hp => ?_) fun y hy hl hn => ?_
 ·by_cases hlt : ofD ow d w.heap.size b
  ·exact hb b p hlt hp
  ·obtain ⟨h1,h2⟩:=h.base b p (by rw [← ho b hlt]; exact hp)
   exact ⟨Nat.lt_of_lt_of_le h1 hg.size,h2⟩
 ·obtain ⟨x,hx,hx'⟩:=hy
  simp at hx; subst hx
  by_cases hex : ∃ p ∈ E, p.1 = y
  ·rw [get_append_yes hex] at hn ⊢
   exact he y hx' hex hl hn
  ·exfalso
   rw [get_app (fun p hp e => hex ⟨p,hp,e⟩),(hk y).1 hx'] at hn
   cases hn
theorem Gam.made {d : Nat} {R : St} {u : Value} {ow2 : Ow} (hG : Gam lo Xb par ow s1 tm w) (hk0' : Free d s1) (hd1 : d < 1000) (hsz : d < tm.size) (hg : Grow (fun b => ∃ r, ow b = some (d, r)) w w')
  (hRg:RGood R) (hR:Gam w.heap.size (fun b => ∃ r,ow b = some (d,r)) (fun _ => none) ow2 R #[u] w'):∃ ow':Ow,(∀ b,¬ ofD ow d w.heap.size b → ow' b = ow b) ∧ Gam lo Xb par ow' (R.shift d ++ s1) (tm.setIfInBounds d u) w':=by
 classical
 let ow':Ow:=fun b => if ofD ow d w.heap.size b then (ow2 b).map fun p => (p.1 + d,p.2) else ow b
 have ho:∀ b,¬ ofD ow d w.heap.size b → ow' b = ow b:=fun b hb => if_neg hb
 have hnew:∀ b,ofD ow d w.heap.size b → ow' b = (ow2 b).map fun p => (p.1 + d,p.2):=fun b hb => if_pos hb
 have h2 : ∀ b p, ow2 b = some p → ofD ow d w.heap.size b ∧ b < w'.heap.size := fun b p hp => by
  obtain ⟨q1,q2⟩:=hR.base b p hp
  exact ⟨q2,q1⟩
 have h2n:∀ b,ow2 b = none → ofD ow d w.heap.size b → ow' b = none:=fun b hb hl => by rw [hnew b hl,hb]; rfl
 refine ⟨ow', ho, Gam.make2 hG hk0' hd1 hg ho (fun b p hb hp => ?_) (fun p hp => ?_) fun y hy hex hl hna => ?_⟩
 ·rw [hnew b hb] at hp
  cases e:ow2 b with
  | none => rw [e] at hp; cases hp
  | some q =>
   refine ⟨(h2 b q e).2,?_⟩
   rcases hb with hb | ⟨r, hb⟩
   ·exact .inl (Nat.le_trans hG.low hb)
   ·exact (hG.base b _ hb).2
 ·have hk : ∀ {R : St}, RGood R → ∀ p ∈ R.shift d, hangs d p.1 = true := by
   intro R
   induction R with
   | nil => intro _ p hp; simp [St.shift] at hp
   | cons q R ih =>
    intro hg p hp
    obtain ⟨k,v⟩:=q
    simp only [St.shift,List.mem_cons] at hp
    rcases hp with rfl | hp
    ·have:=(hg (k,v) (by simp)).1
     exact hangs_iff.2 (.inr ⟨hd1,by simp only at this ⊢; omega⟩)
    ·exact ih (fun q hq => hg q (by simp [hq])) p hp
  exact hk hRg p hp
 ·have hget : ∀ {R : St} {k : Nat}, (R.shift d).get (k + d) = R.get k := by
   intro R
   induction R with
   | nil => intro k; rfl
   | cons q R ih =>
    intro k
    obtain ⟨j,v⟩:=q
    simp only [St.shift]
    rw [get_if,get_if,ih]
    by_cases hjk : j = k
    ·rw [if_pos hjk,if_pos (by omega)]
    ·rw [if_neg hjk,if_neg (by omega)]
  obtain ⟨k,rfl⟩:∃ k,y = k + d:=⟨y - d,by have:=hangs_le hy; omega⟩
  have hk1:k % 1000 = 0:=by rw [hangs_iff] at hy; rcases hy with hy | ⟨_,hy⟩ <;> omega
  rw [hget] at hna ⊢
  have hin : ∃ p ∈ R, p.1 = k := by
   refine Classical.byContradiction fun hno => ?_
   rw [get_none (fun p hp e => hno ⟨p,hp,e⟩)] at hna; cases hna
  obtain ⟨p,hp,e1,e2⟩:=get_mem hin
  obtain ⟨_,hgood⟩:=hRg p hp
  have hlv : R.lv k = true := by
   rw [lv_iff] at hl ⊢
   rcases hl with hl | hl
   ·exact .inl (by omega)
   ·by_cases hk0 : k = 0
    ·exact .inl (by omega)
    ·rw [show (k + d) % 1000 = 0 + d from by omega] at hl
     by_cases h0 : ∃ p ∈ R, p.1 = 0
     ·have : ∃ p ∈ R.shift d, p.1 = 0 + d := by
       clear hR hl hna e2 hp hgood hex hin hRg
       induction R with
       | nil => obtain ⟨p,hp,_⟩:=h0; simp at hp
       | cons q R ih =>
        obtain ⟨j,v⟩:=q
        simp only [St.shift]
        obtain ⟨p,hp,e⟩:=h0
        rcases List.mem_cons.1 hp with rfl | hp
        ·exact ⟨_,by simp; left; rfl,by simp at e ⊢; omega⟩
        ·obtain ⟨r,hr1,hr2⟩:=ih ⟨p,hp,e⟩
         exact ⟨r,by simp [hr1],hr2⟩
      rw [get_append_yes this,hget] at hl
      right; rw [hk1]; exact hl
     ·exfalso
      have : ∀ p ∈ R.shift d, p.1 ≠ 0 + d := by
       clear hR hl hna e2 hp hgood hex hin hRg
       induction R with
       | nil => intro p hp; simp [St.shift] at hp
       | cons q R ih =>
        obtain ⟨j,v⟩:=q
        intro p hp
        simp only [St.shift,List.mem_cons] at hp
        rcases hp with rfl | hp
        ·intro e; exact h0 ⟨(j,v),by simp,by simp at e ⊢; omega⟩
        ·exact ih (fun ⟨p,hp,e⟩ => h0 ⟨p,by simp [hp],e⟩) p hp
      rw [get_app this,Nat.zero_add] at hl
      have:=(hk0' d).1 (hangs_self d)
      revert hl this; cases s1.get d <;> simp [V.cont,V.isAny]
  obtain ⟨x,hx,hr⟩:=hR.ent k hlv hna
  refine ⟨x, ?_, ?_⟩
  ·unfold nmv at hx ⊢
   by_cases hk0 : k = 0
   ·subst hk0
    simp only [Nat.zero_add,hd1,if_true]
    have:(0:Nat) < 1000:=by omega
    rw [if_pos this] at hx
    have hx:u = x:=by simpa using hx
    simp [hsz,hx]
   ·rw [if_neg (by omega)] at hx ⊢
    rw [hk1] at hx
    rw [show (k + d) % 1000 = d from by omega,show (k + d) / 1000 = k / 1000 from by omega]
    have h1:(tm.setIfInBounds d u).getD d undef = u:=by simp [hsz]
    have h2:(#[u]:Array Value).getD 0 undef = u:=rfl
    rw [h1]; rw [h2] at hx; exact hx
  ·have tgf:∀ b,b < w'.heap.size → okG w.heap.size ow2 .fr b → okG lo ow' .fr b ∧ w'.heap[b]? = w'.heap[b]?:=fun b _ hb => ⟨⟨h2n b hb.1 (.inl hb.2),Nat.le_trans hG.low hb.2⟩,rfl⟩
   have own:∀ b r,ow2 b = some (k,r) → ow' b = some (k + d,r):=fun b r hb => by rw [hnew b (h2 b _ hb).1,hb]; rfl
   rw [e2] at hr ⊢
   cases hv:p.2 with
   | t g r =>
    rw [hv] at hr hgood
    cases g with
    | fr => exact Fz.imp tgf r x hr
    | _ => exact hgood.elim
   | own m nl cs =>
    rw [hv] at hr hgood
    simp only at hgood
    refine ⟨fun h => absurd h (by omega),?_⟩
    rcases hr.2 with h | ⟨hn, b, cap, arr, ty, xs, e, ho1, hb, hs, hl1, hmx, ht, hx1, hd2⟩
    ·exact .inl h
    ·refine .inr ⟨hn, b, cap, arr, ty, xs, e, own b 0 ho1, hb, hs, hl1, hmx, ht, ?_, fun hm1 => ?_⟩
     ·have:m = 0 ∨ m = 1:=by omega
      rcases this with rfl | rfl
      ·exact FzL.imp tgf cs xs hx1
      ·exact FzL.imp (fun b _ hb => ⟨own b 1 hb,rfl⟩) cs xs hx1
     ·obtain ⟨q1,q2⟩:=hd2 hm1
      exact ⟨q1,fun i b hi => by obtain ⟨z1,z2⟩:=q2 i b hi; exact ⟨own b 1 z1,z2⟩⟩
   | tp n => rw [hv] at hr; exact ⟨by have:=hr.1; omega,hr.2⟩
   | ag n => rw [hv] at hr; exact ⟨by have:=hr.1; omega,hr.2⟩
   | _ => rw [hv] at hgood; exact hgood.elim
def owPass (zs : List Nat) (d : Nat) (ow : Ow) : Ow := fun b => match ow b with
 | some (q,r) => if q ∈ zs then some (d,r) else some (q,r)
 | none => none
theorem killL_get {y : Nat} : ∀ {zs : List Nat} {s : St}, ((St.killL zs s).get y).isAny = true ∨ ((St.killL zs s).get y = s.get y ∧ ∀ z ∈ zs, hangs z y = false ∧ (s.get y).on z = false)
 | [],s => .inr ⟨rfl,by simp⟩
 | z :: zs, s => by
  rcases killL_get (y := y) (zs := zs) (s := s.kill z) with h | ⟨h1, h2⟩
  ·exact .inl h
  ·simp only [St.killL]
   rw [h1]
   rw [get_kill] at h1 h2 ⊢
   by_cases hz : hangs z y = true ∨ (s.get y).on z = true
   ·rw [if_pos hz]; exact .inl rfl
   ·rw [if_neg hz] at h2 ⊢
    simp only [not_or,Bool.not_eq_true] at hz
    refine .inr ⟨rfl,fun x hx => ?_⟩
    rcases List.mem_cons.1 hx with rfl | hx
    ·exact hz
    ·exact h2 x hx
theorem Free.killL {d : Nat} : ∀ {zs : List Nat} {s : St}, Free d s → Free d (St.killL zs s)
 | [],_,h => h
 | z :: zs,s,h => Free.killL (zs:=zs) (h.kill2 (z:=z))
theorem Gam.give {d : Nat} {zs : List Nat} (h : Gam lo Xb par ow s tm w) (hf : Free d s) : Gam lo Xb par (owPass zs d ow) (St.killL zs s) tm w := by
 have hh : ∀ y, ¬ Hg (d :: zs) y → hangs d y = false ∧ ∀ z ∈ zs, hangs z y = false := fun y hy => by
  constructor
  ·rw [← Bool.not_eq_true]; exact fun h => hy ⟨d,by simp,h⟩
  ·intro z hz; rw [← Bool.not_eq_true]; exact fun h => hy ⟨z,by simp [hz],h⟩
 have keep:∀ b q r,ow b = some (q,r) → q ∉ zs → owPass zs d ow b = some (q,r):=fun b q r e hq => by simp only [owPass,e,if_neg hq]
 have K : Keeps lo (d :: zs) ow (owPass zs d ow) tm tm w w s (St.killL zs s) := by
  refine ⟨Nat.le_refl _, fun y hy => ?_, fun y hy hl u hu => hu, fun y hy b hb r hr => ⟨keep b y r hr fun hm => ?_, rfl⟩, fun g hg b hb hk => ⟨?_, rfl⟩⟩
  ·rcases killL_get (y := y) (zs := zs) (s := s) with h | ⟨h1, h2⟩
   ·exact .inl h
   ·refine .inr (.inl ⟨h1,fun x hx => ?_⟩)
    rcases List.mem_cons.1 hx with rfl | hx
    ·exact (hf y).2
    ·exact (h2 x hx).2
  ·have:=(hh y hy).2 y hm
   rw [hangs_self] at this; cases this
  ·have nz:∀ q r,ow b = some (q,r) → q ∉ zs:=fun q r e hm => on_self (hg q (by simp [hm])) hk e
   cases g with
   | arg => simp only [okG] at hk ⊢; simp only [owPass,hk]
   | fr => simp only [okG] at hk ⊢; exact ⟨by simp only [owPass,hk.1],hk.2⟩
   | rw z => simp only [okG] at hk ⊢; exact keep b z 1 hk (nz z 1 hk)
   | sp z =>
    simp only [okG] at hk ⊢
    rcases hk with hk | hk | hk
    ·exact .inl (keep b z 0 hk (nz z 0 hk))
    ·exact .inr (.inl (keep b z 1 hk (nz z 1 hk)))
    ·exact .inr (.inr (by simp only [owPass,hk]))
 refine Gam.next h K (fun b p hp => ?_) fun y hy hl hn => ?_
 ·unfold owPass at hp
  split at hp
  ·rename_i q r e; exact h.base b _ e
  ·cases hp
 ·exfalso
  rcases killL_get (y := y) (zs := zs) (s := s) with h | ⟨h1, h2⟩
  ·rw [h] at hn; cases hn
  ·obtain ⟨x,hx,hx'⟩:=hy
   rcases List.mem_cons.1 hx with rfl | hx
   ·rw [h1,(hf y).1 hx'] at hn; cases hn
   ·rw [(h2 x hx).1] at hx'; cases hx'
mutual
theorem Fz.and {p q : Nat → Prop} : ∀ {t : T} {v : Value}, Fz p w t v → Fz q w t v → Fz (fun b => p b ∧ q b) w t v
 | .any,v,_,_ => by simp only [Fz]
 | .i n,v,h,_ => by simp only [Fz] at h ⊢; exact h
 | .b n,v,h,_ => by simp only [Fz] at h ⊢; exact h
 | .w _ _,v,h,_ => by simp only [Fz] at h ⊢; exact h
 | .xv u t, v, h1, h2 => by
  simp only [Fz] at h1 h2 ⊢
  exact ⟨h1.1,Fz.and h1.2 h2.2⟩
 | .s nl cs, v, h1, h2 => by
  simp only [Fz] at h1 h2 ⊢
  rcases h1 with h1 | ⟨a1, b, o, sp, cap, xs, e, c1, c2, c3, c4, c5⟩
  ·exact .inl h1
  ·subst e
   rcases h2 with h2 | ⟨_, b', o', sp', cap', xs', e', _, _, d3, d4, d5⟩
   ·cases h2.1
   ·cases e'
    have hxs : xs' = xs := List.ext_getElem? fun k => by
     have l1:=c4.length
     have l2:=d4.length
     by_cases hk : k < xs.length
     ·have h1:=c5 k _ (List.getElem?_eq_getElem hk)
      have h2:=d5 k _ (List.getElem?_eq_getElem (by omega))
      rw [h1] at h2
      rw [List.getElem?_eq_getElem hk,List.getElem?_eq_getElem (by omega),Option.some.inj h2]
     ·rw [List.getElem?_eq_none (by omega),List.getElem?_eq_none (by omega)]
    subst hxs
    exact .inr ⟨a1,b,o,sp,cap,xs',rfl,c1,c2,fun hc => ⟨⟨(c3 hc).1,(d3 hc).1⟩,(c3 hc).2⟩,FzL.and c4 d4,c5⟩
 | .q cs k, v, h1, h2 => by
  simp only [Fz] at h1 h2 ⊢
  obtain ⟨b,o,xs,e,c3,c4,c5⟩:=h1
  obtain ⟨b',o',xs',e',d3,d4,d5⟩:=h2
  subst e
  simp only [Value.pointer.injEq,Option.some.injEq,Addr.mk.injEq,and_true] at e'
  obtain ⟨rfl,eo⟩:=e'
  have eo:o' = o:=by omega
  subst eo
  have hxs : xs' = xs := List.ext_getElem? fun k => by
   have l1:=c4.length
   have l2:=d4.length
   by_cases hk : k < xs.length
   ·have h1:=c5 k _ (List.getElem?_eq_getElem hk)
    have h2:=d5 k _ (List.getElem?_eq_getElem (by omega))
    rw [h1] at h2
    rw [List.getElem?_eq_getElem hk,List.getElem?_eq_getElem (by omega),Option.some.inj h2]
   ·rw [List.getElem?_eq_none (by omega),List.getElem?_eq_none (by omega)]
  subst hxs
  exact ⟨b,o',xs',rfl,fun hc => ⟨c3 hc,d3 hc⟩,FzL.and c4 d4,c5⟩
 | .c f caps, v, h1, h2 => by
  simp only [Fz] at h1 h2 ⊢
  obtain ⟨xs,e,c4⟩:=h1
  obtain ⟨xs',e',d4⟩:=h2
  subst e
  have:xs = xs':=by simpa using e'
  subst this
  exact ⟨xs,rfl,FzL.and c4 d4⟩
 | .a fs, v, h1, h2 => by
  simp only [Fz] at h1 h2 ⊢
  obtain ⟨xs,e,c4⟩:=h1
  obtain ⟨xs',e',d4⟩:=h2
  subst e
  have:xs = xs':=by simpa using e'
  subst this
  exact ⟨xs,rfl,FzL.and c4 d4⟩
 | .u fs, v, h1, h2 => by
  simp only [Fz] at h1 h2 ⊢
  obtain ⟨xs,e,c4⟩:=h1
  obtain ⟨xs',e',d4⟩:=h2
  subst e
  have:xs = xs':=by simpa using e'
  subst this
  exact ⟨xs,rfl,FzL.and c4 d4⟩
theorem FzL.and {p q : Nat → Prop} : ∀ {ts : List T} {vs : List Value}, FzL p w ts vs → FzL q w ts vs → FzL (fun b => p b ∧ q b) w ts vs
 | [],vs,h,_ => by simp only [FzL] at h ⊢; exact h
 | t :: ts, vs, h1, h2 => by
  simp only [FzL] at h1 h2 ⊢
  obtain ⟨x,ys,e,a1,a2⟩:=h1
  obtain ⟨x',ys',e',b1,b2⟩:=h2
  subst e
  cases e'
  exact ⟨x,ys,rfl,Fz.and a1 b1,FzL.and a2 b2⟩
end
theorem memB_iff {k : Nat} : ∀ {l : List Nat}, memB k l = true ↔ k ∈ l
 | [] => by simp [memB]
 | i :: is => by
  simp only [memB]
  cases e:k == i with
  | true => have : k = i := by simpa using e
            simp [this]
  | false => have : k ≠ i := by simpa using e
             simp [this,memB_iff (l:=is)]
def ownerAt (ws:List W) (i:Nat):Option Nat:=match ws[i]? with | some (.own y _ _ _) => some y | _ => none
def owArgC (ws : List W) (is : List Nat) (ow : Ow) : Ow := fun b => match ow b with
 | some (q,r) => (is.find? fun i => ownerAt ws i == some q).map fun i => (i,r)
 | none => none
theorem cocZ_spec {ws : List W} : ∀ {is zs : List Nat} {κ : List Nat → Prop}, cocZ ws is zs κ → ∃ zs', κ zs' ∧ (∀ z ∈ zs, z ∈ zs') ∧
  (∀ i ∈ is,∃ y m nl cs,ws[i]? = some (.own y m nl cs) ∧ (m = 1 ∨ (scalL cs ∧ m < 10)) ∧ y ∈ zs' ∧ y ∉ zs) ∧ (∀ i ∈ is,∀ j ∈ is,ownerAt ws i = ownerAt ws j → i = j) ∧ (∀ z ∈ zs',z ∈ zs ∨ ∃ i ∈ is,ownerAt ws i = some z)
 | [],zs,κ,h => ⟨zs,h,fun _ h => h,by simp,by simp,fun z h => .inl h⟩
 | i :: is, zs, κ, h => by
  simp only [cocZ] at h
  unfold cocW at h
  split at h
  ·rename_i y m nl cs e
   obtain ⟨h1,h2,h3⟩:=h
   have h2:y ∉ zs:=fun hm => by rw [memB_iff.2 hm] at h2; cases h2
   obtain ⟨zs',k1,k2,k3,k4,k5⟩:=cocZ_spec h3
   have oi:ownerAt ws i = some y:=by simp only [ownerAt,e]
   have ne : ∀ j ∈ is, ownerAt ws j ≠ some y := fun j hj he => by
    obtain ⟨y',m',nl',cs',f1,_,_,f4⟩:=k3 j hj
    simp only [ownerAt,f1,Option.some.injEq] at he
    exact f4 (by simp [he])
   refine ⟨zs', k1, fun z hz => k2 z (by simp [hz]), fun j hj => ?_, fun j hj k hk he => ?_, fun z hz => ?_⟩
   ·rcases List.mem_cons.1 hj with rfl | hj
    ·exact ⟨y,m,nl,cs,e,h1,k2 y (by simp),h2⟩
    ·obtain ⟨y',m',nl',cs',f1,f2,f3,f4⟩:=k3 j hj
     exact ⟨y',m',nl',cs',f1,f2,f3,fun h => f4 (by simp [h])⟩
   ·rcases List.mem_cons.1 hj with hj1 | hj1
    ·rcases List.mem_cons.1 hk with hk1 | hk1
     ·rw [hj1,hk1]
     ·rw [hj1] at he; exact absurd (he.symm.trans oi) (ne k hk1)
    ·rcases List.mem_cons.1 hk with hk1 | hk1
     ·rw [hk1] at he; exact absurd (he.trans oi) (ne j hj1)
     ·exact k4 j hj1 k hk1 he
   ·rcases k5 z hz with h | ⟨j, hj, h⟩
    ·rcases List.mem_cons.1 h with rfl | h
     ·exact .inr ⟨i,by simp,oi⟩
     ·exact .inl h
    ·exact .inr ⟨j,by simp [hj],h⟩
  ·exact h.elim
theorem offZ_mem {x : W} {z : Nat} : ∀ {zs : List Nat}, s.offZ x zs = true → z ∈ zs → s.offW z x = true
 | [],_,h => by simp at h
 | y :: zs, h, hz => by
  rw [offZ_c,Bool.and_eq_true] at h
  rcases List.mem_cons.1 hz with rfl | hz
  ·exact h.1
  ·exact offZ_mem h.2 hz
theorem offJ_get {zs is : List Nat} : ∀ {ws : List W} {k j : Nat} {x : W}, s.offJ zs is k ws = true → k + j ∉ is → ws[j]? = some x → s.offZ x zs = true
 | [],_,_,_,_,_,h => by simp at h
 | w :: ws, k, j, x, h, hj, hx => by
  rw [offJ_c] at h
  cases j with
  | zero =>
   have:memB k is = false:=by rw [← Bool.not_eq_true,memB_iff]; simpa using hj
   rw [this,cond_false,Bool.and_eq_true] at h
   simp at hx; subst hx; exact h.1
  | succ j =>
   refine offJ_get (k:=k + 1) (j:=j) (ws:=ws) ?_ (by rwa [show k + 1 + j = k + (j + 1) from by omega]) (by simpa using hx)
   cases hm : memB k is <;> rw [hm] at h
   ·rw [cond_false,Bool.and_eq_true] at h; exact h.2
   ·exact h
theorem coc_goi {d f : Nat} {is : List Nat} {ws : List W} {vs : List Value} (hG : Gam lo Xb par ow s a.tmps w) (hd : oper.dst = some d) (hd1 : d < 1000) (hsz : d < a.tmps.size)
  (hr:(execOp a.eval oper).run P w = (callFunc f vs.toArray).run P w) (hlen:vs.length = ws.length) (hrep:∀ (j:Nat) (x:W) (v:Value),ws[j]? = some x → vs[j]? = some v → RepW lo par ow a.tmps w s x v)
  (hclo:∀ (j f:Nat) (cp:List Cap) (ts:List T),ws[j]? = some (.clo f cp ts) → ts = cp.map s.capT) (hk:cocK P d f is s K ws):GoI P lo Xb par a w K oper:=by
 intro next Q N
 obtain ⟨zs,⟨hoff,R,hc,hk⟩,_,hsp,hinj,hzs⟩:=cocZ_spec hk
 unfold Oper.wp
 rw [hr,hc.1]
 simp only [Oper.upon]
 have arg : ∀ i ∈ is, ∀ y, ownerAt ws i = some y → ∀ b r, ow b = some (y, r) → owArgC ws is ow b = some (i, r) := fun i hi y hy b r hb => by
  simp only [owArgC,hb]
  cases e:is.find? fun j => ownerAt ws j == some y with
  | none =>
   have:=List.find?_eq_none.1 e i hi
   simp [hy] at this
  | some j =>
   have h1:=List.find?_some e
   simp only [beq_iff_eq] at h1
   have:j = i:=hinj j (List.mem_of_find?_eq_some e) i hi (h1.trans hy.symm)
   subst this; rfl
 have args : ∀ b p, owArgC ws is ow b = some p → p.1 ∈ is ∧ ∃ z ∈ zs, ow b = some (z, p.2) := fun b p hp => by
  unfold owArgC at hp
  split at hp
  ·rename_i q r hb
   cases e:is.find? fun j => ownerAt ws j == some q with
   | none => rw [e] at hp; cases hp
   | some j =>
    rw [e] at hp
    simp only [Option.map_some,Option.some.injEq] at hp
    subst hp
    have h1:=List.find?_some e
    simp only [beq_iff_eq] at h1
    have hj:=List.mem_of_find?_eq_some e
    obtain ⟨y,m,nl,cs,f1,_,f3,_⟩:=hsp j hj
    have:ownerAt ws j = some y:=by simp only [ownerAt,f1]
    rw [this] at h1; cases h1
    exact ⟨hj,q,f3,hb⟩
  ·cases hp
 have hpass : ∀ b, owArgC ws is ow b ≠ none → ∃ r, owPass zs d ow b = some (d, r) := fun b hb => by
  cases e:owArgC ws is ow b with
  | none => exact absurd e hb
  | some p =>
   obtain ⟨_,z,hz,h⟩:=args b p e
   exact ⟨p.2,by simp only [owPass,h,if_pos hz]⟩
 refine (hc.2 w vs (owArgC ws is ow) (by simp [hlen]) (fun b p hp => ?_) (fun j t v ht hv => ?_)).mono ?_
 ·obtain ⟨h1,z,_,h2⟩:=args b p hp
  exact ⟨h1,(hG.base b _ h2).1⟩
 ·rw [List.getElem?_map] at ht
  cases e:ws[j]? with
  | none => rw [e] at ht; cases ht
  | some x =>
   rw [e] at ht
   simp only [Option.map_some,Option.some.injEq] at ht
   subst ht
   have hrx:=hrep j x v e hv
   refine ⟨fun hj => ?_, fun hj => ?_⟩
   ·obtain ⟨y,m,nl,cs,f1,f2,_,_⟩:=hsp j hj
    rw [f1] at e; cases e
    have hoy:ownerAt ws j = some y:=by simp only [ownerAt,f1]
    refine ⟨nl,cs,rfl,fun h => absurd h (by omega),?_⟩
    rcases hrx.2.2.2.2 with h | ⟨hn, b, cap, arr, ty, xs, e, ho, hb, hs, hl, hmx, ht, hx, hdp⟩
    ·exact .inl h
    ·refine .inr ⟨hn, b, cap, arr, ty, xs, e, arg j hj y hoy b 0 ho, hb, hs, hl, hmx, ht, ?_, fun _ => ?_⟩
     ·rcases f2 with rfl | ⟨hm, _⟩
      ·exact hx.mono fun b hb => arg j hj y hoy b 1 hb
      ·exact hx.scal hm
     ·rcases f2 with rfl | ⟨hm, _⟩
      ·obtain ⟨d1,d2⟩:=hdp rfl
       exact ⟨d1,fun k b hk => by obtain ⟨q1,q2⟩:=d2 k b hk; exact ⟨arg j hj y hoy b 1 q1,q2⟩⟩
      ·exact (scal_deep hm hx).veil
   ·have hoz:=offJ_get hoff (by simpa using hj) e
    have one : ∀ z ∈ zs, Fz (offY ow z) w x.res v := fun z hz => by
     have : ∃ m nl cs, s.get z = .own m nl cs := by
      rcases hzs z hz with h | ⟨i, hi, ho⟩
      ·cases h
      ·obtain ⟨y,m,nl,cs,f1,_,_,_⟩:=hsp i hi
       simp only [ownerAt,f1,Option.some.injEq] at ho
       subst ho
       have hil:i < vs.length:=by rw [hlen]; exact (List.getElem?_eq_some_iff.1 f1).1
       exact ⟨m,nl,cs,(hrep i _ _ f1 (List.getElem?_eq_getElem hil)).1⟩
     exact RepW.off hG this (fun f cp ts hx => hclo j f cp ts (by rw [e,hx])) (offZ_mem hoz hz) hrx
    have all : ∀ l : List Nat, (∀ z ∈ l, z ∈ zs) → Fz (fun b => ∀ z ∈ l, offY ow z b) w x.res v := by
     intro l
     induction l with
     | nil => intro _; exact Fz.mono (fun _ _ => by simp) (RepW.res hrx)
     | cons z l ih =>
      intro hl
      refine Fz.mono (fun b hb y hy => ?_) (Fz.and (one z (hl z (by simp))) (ih fun y hy => hl y (by simp [hy])))
      rcases List.mem_cons.1 hy with rfl | hy
      ·exact hb.1
      ·exact hb.2 y hy
    refine Fz.mono (fun b hb => ?_) (all zs fun _ h => h)
    cases e2:owArgC ws is ow b with
    | none => rfl
    | some p =>
     obtain ⟨_,z,hz,h⟩:=args b p e2
     exact absurd h (hb z hz p.2)
 ·rintro e w' ⟨u,rfl,hg,hRg,ow2,hR⟩
  simp only
  rw [hd,put_some]
  have hR':Gam w.heap.size (fun b => ∃ r,owPass zs d ow b = some (d,r)) (fun _ => none) ow2 R #[u] w':=⟨fun b p h => ⟨(hR.base b p h).1,(hR.base b p h).2.imp id (hpass b)⟩,hR.low,hR.ent⟩
  obtain ⟨ow',_,hG2⟩:=Gam.made ((hG.kill d).give (zs:=zs) (Free.kill d s)) (Free.kill d s).killL hd1 hsz (hg.mono fun b _ hb => hpass b hb) hRg hR'
  refine N _ _ w' ow' hk (hg.mono fun b hb hne => ?_) hG2 (by simp) rfl
  cases e:owArgC ws is ow b with
  | none => exact absurd e hne
  | some p =>
   obtain ⟨_,z,_,h⟩:=args b p e
   exact (hG.base _ _ h).2
end
end Go.Vc
namespace Go.Vc
open Go
section
variable {P:Program} {lo:Nat} {Xb:Nat → Prop} {par:Nat → Option Value} {ow ow':Ow} {tm tm':Array Value} {a:Act} {w w' w1:World} {s s1 s':St} {K:St → Prop} {oper:Oper}
theorem boxG_no {g : G} {d z : Nat} {ts : List T} {s : St} (h : ∀ j, j < ts.length → z ≠ d + 1000 * (1 + j)) : (boxG g d 0 ts ++ s).get z = s.get z :=
 get_app fun p hp e => by
  obtain ⟨i,t,h1,rfl⟩:=boxG_mem hp
  have:=(List.getElem?_eq_some_iff.1 h1).1
  exact h i this (by rw [← e]; simp)
theorem boxG_yes {g : G} {d j : Nat} {t : T} {ts : List T} {s : St} (h : ts[j]? = some t) : (boxG g d 0 ts ++ s).get (d + 1000 * (1 + j)) = V.mk g t := by
 have mk : ∀ {ts : List T} {j0 i : Nat} {t : T}, ts[i]? = some t → ∃ p ∈ boxG g d j0 ts, p.1 = d + 1000 * (1 + (j0 + i)) := by
  intro ts
  induction ts with
  | nil => intro j0 i t h; simp at h
  | cons t0 ts ih =>
   intro j0 i t h
   cases i with
   | zero => exact ⟨_,by simp [boxG]; left; rfl,by simp⟩
   | succ i =>
    obtain ⟨p,h1,h2⟩:=ih (j0:=j0 + 1) (i:=i) (t:=t) (by simpa using h)
    exact ⟨p,by simp [boxG,h1],by rw [h2,show j0 + 1 + i = j0 + (i + 1) from by omega]⟩
 obtain ⟨p,hp,e⟩:=mk (j0:=0) h
 rw [Nat.zero_add] at e
 rw [get_append_yes ⟨p,hp,e⟩]
 obtain ⟨q,hq,e1,e2⟩:=get_mem ⟨p,hp,e⟩
 obtain ⟨i,t',h1,rfl⟩:=boxG_mem hq
 simp only at e1
 have:i = j:=by omega
 subst this
 rw [h] at h1; cases h1
 exact e2
theorem Gam.rebox {y n b : Nat} {ts : List T} {arr arr' : Array Value} {ty ty' : TypeId} (h : Gam lo Xb par ow s tm w) (hy : y < 1000) (hz : s.get y = .bx n) (hp : tm.getD y undef = .pointer (some ⟨b, 0, none⟩)) (ho : ow b = some (y, 0))
  (hb:w.heap[b]? = some (.cells arr ty (0,0))) (hn:arr.size = n) (hb':w'.heap[b]? = some (.cells arr' ty' (0,0))) (hg:∀ k,k ≠ b → w'.heap[k]? = w.heap[k]?) (hsz:w'.heap.size = w.heap.size)
  (hlen:ts.length = n) (h90:n < 90) (hts:FzL (fun k => ow k = none) w' ts arr'.toList):Gam lo Xb par ow (boxG .arg y 0 ts ++ s.killSp y) tm w':=by
 have hn':arr'.size = n:=by have:=hts.length; simp at this; omega
 have gno : ∀ z, (∀ j, j < n → z ≠ y + 1000 * (1 + j)) → (boxG .arg y 0 ts ++ s.killSp y).get z = if (s.get z).onSp y = true then .any else s.get z := fun z hz => by
  rw [boxG_no (by rw [hlen]; exact hz),get_killSp]
 have glow:∀ z,z < 1000 → (boxG .arg y 0 ts ++ s.killSp y).get z = if (s.get z).onSp y = true then .any else s.get z:=fun z hz => gno z fun j _ => by omega
 have cell:∀ j,w'.cell? ⟨b,j,none⟩ = arr'[j]?:=fun j => cell_of_row w' b j arr' ty' (0,0) hb'
 have nm : ∀ z, (∀ j, j < n → z ≠ y + 1000 * (1 + j)) → s.lv z = true → ∀ u, nmv tm w z = some u → nmv tm w' z = some u := by
  intro z hzz hl u hu
  by_cases h1 : z < 1000
  ·rw [nmv_slot h1] at hu ⊢; exact hu
  ·by_cases h2 : z % 1000 = y
   ·unfold nmv at hu ⊢
    rw [if_neg h1,h2,hp] at hu ⊢
    simp only at hu ⊢
    split at hu
    ·rw [cell_of_row w b _ arr ty (0,0) hb] at hu
     have:=(Array.getElem?_eq_some_iff.1 hu).1
     exact absurd rfl (fun e:z = z => hzz (z / 1000 - 1) (by omega) (by omega))
    ·cases hu
   ·exact h.nmKeep hl (fun b' _ hb'' _ => hg b' (by rintro rfl; rw [ho] at hb''; exact h2 (by simpa using hb''.symm))) hu
 have lvs : ∀ z, St.lv (boxG .arg y 0 ts ++ s.killSp y) z = true → s.lv z = true := by
  intro z hz
  rw [lv_iff] at hz ⊢
  rcases hz with hz | hz
  ·exact .inl hz
  ·rw [glow _ (by omega)] at hz
   split at hz
   ·cases hz
   ·exact .inr hz
 have mkn:∀ t:T,(∀ m nl cs,V.mk .arg t ≠ .own m nl cs) ∧ (∀ k,V.mk .arg t ≠ .ag k):=fun t => by cases t <;> simp [V.mk,V.i,V.b]
 have al : ∀ z, okAl (boxG .arg y 0 ts ++ s.killSp y) z → okAl s z ∧ ∀ j, j < n → z ≠ y + 1000 * (1 + j) := by
  intro z hz
  rw [okAl_iff] at hz
  have hno : ∀ j, j < n → z ≠ y + 1000 * (1 + j) := by
   rintro j hj rfl
   obtain ⟨t,ht⟩:∃ t,ts[j]? = some t:=⟨_,List.getElem?_eq_getElem (by omega)⟩
   rw [boxG_yes ht] at hz
   rcases hz with ⟨⟨m, nl, cs, e⟩, _⟩ | ⟨⟨k, e⟩, _⟩
   ·exact (mkn t).1 _ _ _ e
   ·exact (mkn t).2 _ e
  refine ⟨?_,hno⟩
  rw [gno z hno] at hz
  rw [okAl_iff]
  split at hz
  ·rcases hz with ⟨⟨_,_,_,e⟩,_⟩ | ⟨⟨_,e⟩,_⟩ <;> cases e
  ·rcases hz with ⟨e, hl⟩ | e
   ·exact .inl ⟨e,lvs z hl⟩
   ·exact .inr e
 have pe : ∀ z, okPe (boxG .arg y 0 ts ++ s.killSp y) z → okPe s z := by
  intro z hz
  obtain ⟨_,q2⟩:=al z hz.al
  rw [okPe_iff,gno z q2] at hz
  rw [okPe_iff]
  split at hz
  ·obtain ⟨⟨_,_,_,e⟩,_⟩:=hz; cases e
  ·exact ⟨hz.1,lvs z hz.2⟩
 have pc : ∀ z, z < 1000 → okPc (boxG .arg y 0 ts ++ s.killSp y) z → okPc s z := by
  intro z h1 hz
  rw [okPc_iff,glow z h1] at hz
  obtain ⟨k,hz⟩:=hz
  split at hz
  ·cases hz
  ·exact okPc_iff.2 ⟨k,hz⟩
 have tag:∀ g:G,g.onSp y = false → ∀ b',b' < w.heap.size → okG lo ow g b' → okG lo ow g b' ∧ w'.heap[b']? = w.heap[b']?:=fun g hgg b' _ hk => ⟨hk,hg b' (okG_ne ho hgg hk)⟩
 refine Gam.step (M := fun _ => True) (MG := fun g => g.onSp y = false) (I := fun z => (∀ j, j < n → z ≠ y + 1000 * (1 + j)) ∧ z ≠ y ∧ s.lv z = true) h (fun b' p hp => by rw [hsz]; exact h.base b' p hp) (by omega) (fun z hl hnz => ?_) (fun z hz => nm z hz.1 hz.2.2)
  (fun z hz b' _ r hb'' => ⟨hb'',hg b' (by rintro rfl; rw [ho] at hb''; cases hb''; exact hz.2.1 rfl)⟩) ⟨rfl,rfl⟩ (fun z _ hz => ⟨(al z hz).1,nm z (al z hz).2 (al z hz).1.lv⟩) (fun z _ hz => pe z hz)
  (fun x hx1 _ hx => ⟨pc x hx1 hx,nm x (fun j _ => by omega) (lv_iff.2 (.inl hx1))⟩) tag
 by_cases hzz : ∃ j, j < n ∧ z = y + 1000 * (1 + j)
 ·obtain ⟨j,hj,rfl⟩:=hzz
  left
  obtain ⟨x,hx,hf⟩:=hts.get j (by omega)
  have ht:ts[j]? = some (ts.getD j .any):=by rw [List.getD,List.getElem?_eq_getElem (by omega)]; rfl
  rw [boxG_yes ht]
  refine ⟨x,?_,(Fz.mk (g:=.arg) (fun k hk => hk) hf).2 _⟩
  unfold nmv
  rw [if_neg (by omega),show (y + 1000 * (1 + j)) % 1000 = y from by omega,hp]
  simp only
  rw [show (y + 1000 * (1 + j)) / 1000 = 1 + j from by omega,if_pos (by omega),show 1 + j - 1 = j from by omega,cell]
  simpa using hx
 ·have hzz:∀ j,j < n → z ≠ y + 1000 * (1 + j):=fun j hj e => hzz ⟨j,hj,e⟩
  rw [gno z hzz] at hnz ⊢
  split at hnz
  ·cases hnz
  ·rename_i hsp
   simp only [Bool.not_eq_true] at hsp
   simp only [hsp,Bool.false_eq_true,if_false]
   by_cases hzy : z = y
   ·subst hzy
    left
    rw [hz]
    refine ⟨.pointer (some ⟨b,0,none⟩),by rw [nmv_slot hy,hp],hy,b,arr',ty',rfl,ho,hb',hn'⟩
   ·exact .inr ⟨⟨hzz,hzy,lvs z hl⟩,by first | trivial | rfl,lvs z hl,V.onSp_not hsp⟩
theorem resGam_w {lo : Nat} {R : St} {u : Value} {ow2 : Ow} (hg : RGood R) (h : Gam lo (fun _ => False) (fun _ => none) ow2 R #[u] w) (hk : ∀ k, lo ≤ k → w1.heap[k]? = w.heap[k]?) (hs : w1.heap.size = w.heap.size) : Gam lo (fun _ => False) (fun _ => none) ow2 R #[u] w1 := by
 have lob:∀ {b p},ow2 b = some p → lo ≤ b:=fun e => (h.base _ _ e).2.elim id fun h => h.elim
 refine ⟨fun b p hp => by rw [hs]; exact h.base b p hp,by rw [hs]; exact h.low,fun y hl hn => ?_⟩
 obtain ⟨x,hx,hr⟩:=h.ent y hl hn
 have hin : ∃ p ∈ R, p.1 = y := by
  refine Classical.byContradiction fun hno => ?_
  rw [get_none (fun p hp e => hno ⟨p,hp,e⟩)] at hn; cases hn
 obtain ⟨p,hp,e1,e2⟩:=get_mem hin
 obtain ⟨hk1,hgood⟩:=hg p hp
 refine ⟨x, ?_, ?_⟩
 ·unfold nmv at hx ⊢
  split
  ·rename_i h1; rw [if_pos h1] at hx; exact hx
  ·rename_i h1
   rw [if_neg h1] at hx
   rw [show y % 1000 = 0 from by omega] at hx ⊢
   split at hx
   ·rename_i ad he
    split at hx
    ·exfalso
     have hl':=hl
     rw [lv_iff,show y % 1000 = 0 from by omega] at hl'
     rcases hl' with hl' | hl'
     ·exact h1 hl'
     ·have h0n:(R.get 0).isAny = false:=by revert hl'; cases R.get 0 <;> simp [V.cont,V.isAny]
      obtain ⟨x0,q1,q2⟩:=h.ent 0 (lv_iff.2 (.inl (by omega))) h0n
      have hin0 : ∃ p ∈ R, p.1 = 0 := by
       refine Classical.byContradiction fun hno => ?_
       rw [get_none (fun p hp e => hno ⟨p,hp,e⟩)] at h0n; cases h0n
      obtain ⟨p0,hp0,f1,f2⟩:=get_mem hin0
      have hg0:=(hg p0 hp0).2
      rw [nmv_slot (by omega)] at q1
      have q1:u = x0:=by simpa using q1
      have he:u = .pointer (some ad):=by simpa using he
      rw [f2] at hl' q2
      cases hv:p0.2 with
      | tp n => rw [hv] at q2; obtain ⟨_,xs,q,_⟩:=q2; rw [← q1,he] at q; cases q
      | ag n => rw [hv] at q2; obtain ⟨_,xs,q,_⟩:=q2; rw [← q1,he] at q; cases q
      | bx n => rw [hv] at hg0; exact hg0
      | _ => rw [hv] at hl'; cases hl'
    ·cases hx
   ·rename_i vs he; first | exact hx | (rw [he]; exact hx)
   ·rename_i vs he; first | exact hx | (rw [he]; exact hx)
   ·cases hx
 ·have tgf:∀ b,b < w.heap.size → okG lo ow2 .fr b → okG lo ow2 .fr b ∧ w1.heap[b]? = w.heap[b]?:=fun b _ hb => ⟨hb,hk b hb.2⟩
  rw [e2] at hr ⊢
  cases hv:p.2 with
  | t g r =>
   rw [hv] at hr hgood
   cases g with
   | fr => exact Fz.imp tgf r x hr
   | _ => exact hgood.elim
  | own m nl cs =>
   rw [hv] at hr hgood
   simp only at hgood
   have hr':OwnAt lo (fun _ => none) ow2 w y m nl cs x:=hr
   show OwnAt lo (fun _ => none) ow2 w1 y m nl cs x
   refine OwnAt.imp (fun b _ hb => ⟨hb,hk b (lob hb)⟩) (fun b hlt hb => ?_) hr'
   have:m = 0 ∨ m = 1:=by omega
   rcases this with rfl | rfl
   ·exact tgf b hlt hb
   ·exact ⟨hb,hk b (lob (show ow2 b = some (y,1) from hb))⟩
  | tp n => rw [hv] at hr; exact hr
  | ag n => rw [hv] at hr; exact hr
  | _ => rw [hv] at hgood; exact hgood.elim
theorem curC_get {y : Nat} : ∀ {n j0 : Nat}, curC s y j0 n → ∀ j, j < n → ∃ g r, s.get (y + 1000 * (1 + (j0 + j))) = .t g r ∧ g.bas = true
 | 0,_,_,j,h => by omega
 | n + 1, j0, h, j, hj => by
  obtain ⟨h1,h2⟩:=h
  cases j with
  | zero =>
   unfold curV at h1
   split at h1
   ·rename_i g r e; exact ⟨g,r,e,h1⟩
   ·exact h1.elim
  | succ j =>
   have:=curC_get h2 j (by omega)
   rwa [show j0 + 1 + j = j0 + (j + 1) from by omega] at this
theorem cells_len {y c : Nat} : ∀ {n j : Nat}, (s.cells y c j n).length = n
 | 0,_ => rfl
 | n + 1,j => by simp only [St.cells,List.length_cons]; rw [cells_len]
theorem cells_getQ {y c : Nat} : ∀ {n j0 j : Nat}, j < n → (s.cells y c j0 n)[j]? = some (s.resN (y + 1000 * (c + (j0 + j))))
 | 0,_,_,h => by omega
 | n + 1,j0,0,_ => by simp [St.cells]
 | n + 1, j0, j + 1, h => by
  simp only [St.cells,List.getElem?_cons_succ]
  rw [cells_getQ (by omega),show j0 + 1 + j = j0 + (j + 1) from by omega]
theorem curL_get : ∀ {ts cs : List T}, curL ts cs → ts.length = cs.length ∧ ∀ (j : Nat) (t : T), cs[j]? = some t → t.scal ∨ ∃ u r, t = .xv u r ∧ ts[j]? = some (.xv u r)
 | [],[],_ => by simp
 | [],_ :: _,h => h.elim
 | _ :: _,[],h => h.elim
 | t :: ts, t' :: cs, h => by
  obtain ⟨h1,h2⟩:=h
  obtain ⟨h3,h4⟩:=curL_get h2
  refine ⟨by simp [h3],fun j q hq => ?_⟩
  cases j with
  | zero =>
   simp at hq; subst hq
   cases t with
   | xv u r => exact .inr ⟨u,r,h1,by simp⟩
   | _ => exact .inl h1
  | succ j =>
   rcases h4 j q (by simpa using hq) with h | ⟨u, r, h, h'⟩
   ·exact .inl h
   ·exact .inr ⟨u,r,h,by simpa using h'⟩
theorem pcW_pc {z z' : Nat} {v : V} {us : List T} (h : s.pcW z' = .pc z v us) : ∃ m, s.get (z % 1000) = .bx m ∧ us = s.cells (z % 1000) 1 0 m := by
 rw [pcW_eq] at h
 revert h
 cases e:s.get (z' % 1000) with
 | bx n =>
  rw [pcW'_bx]
  cases (decide (z' / 1000 - 1 < n) && decide (1000 ≤ z'))
  ·intro h; cases h
  ·intro h; cases h; exact ⟨n,e,rfl⟩
 | _ => intro h; cases h
theorem look_pc {x : X} {z : Nat} {v : V} {us : List T} (h : s.look x = .pc z v us) : ∃ m, s.get (z % 1000) = .bx m ∧ us = s.cells (z % 1000) 1 0 m := by
 cases x with
 | k t => cases h
 | s n =>
  rw [look_s] at h
  cases hv:s.get n with
  | bx k => rw [hv,enr_bx] at h; exact pcW_pc h
  | pc z => rw [hv,enr_pc] at h; exact pcW_pc h
  | clo => rw [hv] at h; cases h
  | fo => rw [hv] at h; cases h
  | t => rw [hv] at h; cases h
  | own => rw [hv] at h; cases h
  | tp => rw [hv] at h; cases h
  | ag => rw [hv] at h; cases h
  | al z => rw [hv,enr_al] at h; revert h; cases s.get z <;> simp only [alW] <;> (try (intro h; cases h)) <;> (first | (cases s.lv z <;> intro h <;> cases h) | (cases decide (z < 1000) <;> intro h <;> cases h))
  | pe z j => rw [hv,enr_pe] at h; revert h; cases s.get z <;> simp only [peW] <;> (try (intro h; cases h)) <;> cases s.lv z <;> intro h <;> cases h
  | bv z => rw [hv,enr_bv] at h; revert h; cases s.get z <;> simp only [bvW] <;> (try (intro h; cases h)) <;> cases decide (z < 1000) <;> intro h <;> cases h
  | sl z j k => rw [hv,enr_sl] at h; revert h; cases s.get z <;> simp only [slW] <;> (try (intro h; cases h)) <;> cases s.lv z <;> intro h <;> cases h
  | er z j => rw [hv,enr_er] at h; revert h; cases s.get z <;> simp only [erW] <;> (try (intro h; cases h)) <;> cases s.lv z <;> intro h <;> cases h
theorem box_content {y n b : Nat} {arr : Array Value} {ty : TypeId} (h : Gam lo Xb par ow s tm w) (hy : y < 1000) (hz : s.get y = .bx n) (hp : tm.getD y undef = .pointer (some ⟨b, 0, none⟩)) (hb : w.heap[b]? = some (.cells arr ty (0, 0))) (hn : arr.size = n) (h90 : n < 90)
  (hcur:curC s y 0 n):FzL (fun k => ow k = none) w (s.cells y 1 0 n) arr.toList:=by
 refine FzL.of_get (by rw [cells_len]; simpa using hn) fun j x hx => ?_
 have hj:j < n:=by have:=(List.getElem?_eq_some_iff.1 hx).1; simp at this; omega
 have e:=cells_getQ (s:=s) (y:=y) (c:=1) (j0:=0) hj
 rw [Nat.zero_add] at e
 have e2:(s.cells y 1 0 n).getD j .any = s.resN (y + 1000 * (1 + j)):=by rw [List.getD,e]; rfl
 rw [e2]
 obtain ⟨g,r,eg,hg⟩:=curC_get hcur j hj
 rw [Nat.zero_add] at eg
 have er:s.resN (y + 1000 * (1 + j)) = r:=by unfold St.resN; rw [eg]
 rw [er]
 by_cases ha : (V.t g r).isAny = true
 ·cases r <;> simp [V.isAny] at ha; simp only [Fz]
 ·simp only [Bool.not_eq_true] at ha
  obtain ⟨u,h1,h2⟩:=h.ent (y + 1000 * (1 + j)) (lv_iff.2 (.inr (by rw [show (y + 1000 * (1 + j)) % 1000 = y from by omega,hz]; rfl))) (by rw [eg]; exact ha)
  rw [eg] at h2
  unfold nmv at h1
  rw [if_neg (by omega),show (y + 1000 * (1 + j)) % 1000 = y from by omega,hp] at h1
  simp only at h1
  rw [show (y + 1000 * (1 + j)) / 1000 = 1 + j from by omega,if_pos (by omega),show 1 + j - 1 = j from by omega,cell_of_row w b j arr ty (0,0) hb] at h1
  have:u = x:=by simp at hx; rw [hx] at h1; exact (Option.some.inj h1).symm
  subst this
  exact Fz.mono (fun k hk => by cases g <;> simp [G.bas] at hg <;> simp only [okG] at hk <;> first | exact hk | exact hk.1) h2
theorem cop_goi {d f i y n b : Nat} {ts cs' : List T} {vs : List Value} {R : St} {arr : Array Value} {ty : TypeId} (hG : Gam lo Xb par ow s a.tmps w) (hd : oper.dst = some d) (hd1 : d < 1000) (hsz : d < a.tmps.size)
  (hr:(execOp a.eval oper).run P w = (callFunc f vs.toArray).run P w) (hc:CallQ P f i ts cs' R) (hlen:vs.length = ts.length) (hi:ts[i]? = some (.q (s.cells y 1 0 n) 0)) (hvi:vs[i]? = some (.pointer (some ⟨b,0,none⟩)))
  (hy:y < 1000) (hz:s.get y = .bx n) (hp:a.tmps.getD y undef = .pointer (some ⟨b,0,none⟩)) (hb:w.heap[b]? = some (.cells arr ty (0,0))) (ho:ow b = some (y,0)) (hn:arr.size = n) (h90:n < 90) (hdy:d ≠ y)
  (hcur:curC s y 0 n) (hsc:∀ (j:Nat) (tj:T) (vj:Value),j ≠ i → ts[j]? = some tj → vs[j]? = some vj → tj.scal ∧ Fz (fun _ => True) w tj vj) (hcl:curL (s.cells y 1 0 n) cs')
  (hk:K (boxG .arg y 0 cs' ++ (R.shift d ++ s.kill d).killSp y)):GoI P lo Xb par a w K oper:=by
 intro next Q N
 have hcont:=box_content hG hy hz hp hb hn h90 hcur
 unfold Oper.wp
 rw [hr,hc.1]
 simp only [Oper.upon]
 obtain ⟨cs0,e0,hl0,hc⟩:=hc.2
 rw [hi] at e0
 have e0:cs0 = s.cells y 1 0 n:=by simpa using (Option.some.inj e0).symm
 subst e0
 have hbl:b < w.heap.size:=(Array.getElem?_eq_some_iff.1 hb).1
 refine (hc w vs b arr ty hlen hvi hb (hcont.mono fun k hk e => by subst e; rw [ho] at hk; cases hk) (fun j tj vj hj h1 h2 => (hsc j tj vj hj h1 h2).2.scal (hsc j tj vj hj h1 h2).1)).mono ?_
 rintro e w' ⟨u,rfl,hg,⟨hRg,ow2,hR⟩,arr',ty',hb',hf'⟩
 simp only
 rw [hd,put_some]
 obtain ⟨hll,hcl⟩:=curL_get hcl
 rw [cells_len] at hll
 have hb2:b < w'.heap.size:=Nat.lt_of_lt_of_le hbl hg.size
 let w1:World:={ w' with heap:=w'.heap.setIfInBounds b (.cells arr ty (0,0)) }
 have s1:w1.heap.size = w'.heap.size:=by simp [w1]
 have k1:∀ k,k ≠ b → w1.heap[k]? = w'.heap[k]?:=fun k hk => by simp only [w1]; rw [Array.getElem?_setIfInBounds_ne (fun e => hk e.symm)]
 have kb:w1.heap[b]? = some (.cells arr ty (0,0)):=by simp only [w1]; rw [Array.getElem?_setIfInBounds_self_of_lt hb2]
 have hg1 : Grow (fun _ => False) w w1 := ⟨hg.os, hg.tape, hg.output, by rw [s1]; exact hg.size, fun k hk _ => by
  by_cases e : k = b
  ·subst e; rw [kb,hb]
  ·rw [k1 k e]; exact hg.block k hk e,hg.drawn⟩
 have hR1:=resGam_w (w1:=w1) hRg hR (fun k hk => k1 k (by omega)) s1
 have hR2:Gam w.heap.size (fun b => ∃ r,ow b = some (d,r)) (fun _ => none) ow2 R #[u] w1:=⟨fun b p h => ⟨(hR1.base b p h).1,(hR1.base b p h).2.imp id fun h => h.elim⟩,hR1.low,hR1.ent⟩
 obtain ⟨ow',ho',hG2⟩:=Gam.made (hG.kill d) (Free.kill d s) hd1 hsz (hg1.mono fun _ _ h => h.elim) hRg hR2
 have old : ∀ k, k < w.heap.size → (∀ r, ow k ≠ some (d, r)) → ow' k = ow k := fun k hk hne => ho' k fun h => by
  rcases h with h | ⟨r, h⟩
  ·omega
  ·exact hne r h
 have hob:ow' b = some (y,0):=by rw [old b hbl (fun r e => by rw [ho] at e; cases e; exact hdy rfl),ho]
 have hkeys : ∀ {R : St}, RGood R → ∀ p ∈ R.shift d, p.1 % 1000 = d := by
  intro R
  induction R with
  | nil => intro _ p hp; simp [St.shift] at hp
  | cons q R ih =>
   intro hg p hp
   obtain ⟨k,v⟩:=q
   simp only [St.shift,List.mem_cons] at hp
   rcases hp with rfl | hp
   ·have:=(hg (k,v) (by simp)).1
    simp only at this ⊢; omega
   ·exact ih (fun q hq => hg q (by simp [hq])) p hp
 have hgy : (R.shift d ++ s.kill d).get y = .bx n := by
  rw [get_app (fun p hp e => by have:=hkeys hRg p hp; rw [e,Nat.mod_eq_of_lt hy] at this; exact hdy this.symm),get_kill,hz,if_neg]
  rintro (h | h)
  ·rw [hangs_iff] at h
   rcases h with h | ⟨_, h⟩
   ·exact hdy h.symm
   ·rw [Nat.mod_eq_of_lt hy] at h; exact hdy h.symm
  ·cases h
 have hpy : (a.tmps.setIfInBounds d u).getD y undef = .pointer (some ⟨b, 0, none⟩) := by
  rw [← hp]
  simp only [Array.getD_eq_getD_getElem?,Array.getElem?_setIfInBounds_ne hdy]
 have hnew : FzL (fun k => ow' k = none) w' cs' arr'.toList := by
  have hl':=hf'.length
  refine FzL.of_get hl' fun j x hx => ?_
  have hj:j < cs'.length:=by have:=(List.getElem?_eq_some_iff.1 hx).1; omega
  obtain ⟨x',hx',hfx⟩:=hf'.get j hj
  rw [hx] at hx'; cases hx'
  have ht:cs'[j]? = some (cs'.getD j .any):=by rw [List.getD,List.getElem?_eq_getElem hj]; rfl
  rcases hcl j _ ht with h | ⟨v, r, h, h2⟩
  ·exact hfx.scal h
  ·rw [h] at hfx ⊢
   simp only [Fz] at hfx
   obtain ⟨rfl,_⟩:=hfx
   obtain ⟨x0,q1,q2⟩:=hcont.get j (by rw [cells_len]; omega)
   have e3:(s.cells y 1 0 n).getD j .any = .xv x r:=by rw [List.getD,h2]; rfl
   rw [e3] at q2
   have:x0 = x:=by simp only [Fz] at q2; exact q2.1
   subst this
   exact Fz.imp (fun k hk hk0 => ⟨by rw [old k hk fun r e => by rw [hk0] at e; cases e]; exact hk0,hg.block k hk (by rintro rfl; rw [ho] at hk0; cases hk0)⟩) _ _ q2
 have hG3:=Gam.rebox (w':=w') hG2 hy hgy hpy hob kb hn hb' (fun k hk => (k1 k hk).symm) s1.symm (by omega) h90 hnew
 refine N _ _ w' ow' hk (hg.mono fun k _ e => ?_) hG3 (by simp) rfl
 subst e
 exact (hG.base _ _ ho).2
theorem basA_get : ∀ {ws : List W}, basA ws → ∀ (j : Nat) (x : W), ws[j]? = some x → ∃ g r, x = .t g r ∧ g.bas = true
 | [],_,j,x,h => by simp at h
 | w :: ws, h, j, x, hx => by
  cases w with
  | t g r =>
   obtain ⟨h1,h2⟩:=h
   cases j with
   | zero => simp at hx; subst hx; exact ⟨g,r,rfl,h1⟩
   | succ j => exact basA_get h2 j x (by simpa using hx)
  | _ => exact h.elim
theorem hasX_get {u : Value} {t : T} : ∀ {ws : List W}, hasX u t ws → ∃ (j : Nat) (x : W), ws[j]? = some x ∧ x.res = .xv u t
 | [],h => h.elim
 | w :: ws, h => by
  rcases h with h | h
  ·exact ⟨0,w,by simp,h⟩
  ·obtain ⟨j,x,h1,h2⟩:=hasX_get h; exact ⟨j + 1,x,by simpa using h1,h2⟩
theorem newL_get {ws : List W} : ∀ {ts : List T}, newL ws ts → ∀ (j : Nat) (t : T), ts[j]? = some t → t.scal ∨ ∃ u r, t = .xv u r ∧ hasX u r ws
 | [],_,j,t,h => by simp at h
 | t :: ts, h, j, q, hq => by
  obtain ⟨h1,h2⟩:=h
  cases j with
  | zero =>
   simp at hq; subst hq
   cases t with
   | xv u r => exact .inr ⟨u,r,rfl,h1⟩
   | _ => exact .inl h1
  | succ j => exact newL_get h2 j q (by simpa using hq)
theorem con_goi {d f : Nat} {ws : List W} {cs' : List T} {vs : List Value} (hG : Gam lo Xb par ow s a.tmps w) (hd : oper.dst = some d) (hd1 : d < 1000) (hsz : d < a.tmps.size)
  (hr:(execOp a.eval oper).run P w = (callFunc f vs.toArray).run P w) (hlen:vs.length = ws.length) (hrep:∀ (j:Nat) (x:W) (v:Value),ws[j]? = some x → vs[j]? = some v → RepW lo par ow a.tmps w s x v)
  (hba:basA ws) (hc:CallN P f (ws.map W.res) cs') (h90:cs'.length < 90) (hnl:newL ws cs') (hk:K ((d,.bx cs'.length) :: (boxG .arg d 0 cs' ++ s.kill d))):GoI P lo Xb par a w K oper:=by
 intro next Q N
 have hv : FzL (fun k => ow k = none) w (ws.map W.res) vs := FzL.of_get (by simp [hlen]) fun j v hj => by
  have hjl:j < ws.length:=by have:=(List.getElem?_eq_some_iff.1 hj).1; omega
  have e:ws[j]? = some ws[j]:=List.getElem?_eq_getElem hjl
  obtain ⟨g,r,e1,e2⟩:=basA_get hba j _ e
  have e3:(ws.map W.res).getD j .any = r:=by rw [List.getD,List.getElem?_map,e,e1]; rfl
  rw [e3]
  have:=hrep j _ v e hj
  rw [e1] at this
  exact Fz.mono (fun k hk => by cases g <;> simp [G.bas] at e2 <;> simp only [okG] at hk <;> first | exact hk | exact hk.1) this
 unfold Oper.wp
 rw [hr,hc.1]
 simp only [Oper.upon]
 refine (hc.2 w vs (hv.mono fun _ _ => trivial)).mono ?_
 rintro e w' ⟨b,rfl,hg,hlob,arr,ty,hb,hf⟩
 simp only
 rw [hd,put_some]
 have hbs:b < w'.heap.size:=(Array.getElem?_eq_some_iff.1 hb).1
 have hold:∀ k,k < w.heap.size → owNew ow b d k = ow k:=fun k hk => if_neg (by omega)
 have hnw:owNew ow b d b = some (d,0):=if_pos rfl
 have hcell : FzL (fun k => owNew ow b d k = none) w' cs' arr.toList := by
  refine FzL.of_get hf.length fun j x hx => ?_
  have hj:j < cs'.length:=by have:=(List.getElem?_eq_some_iff.1 hx).1; have:=hf.length; omega
  obtain ⟨x',hx',hfx⟩:=hf.get j hj
  rw [hx] at hx'; cases hx'
  have ht:cs'[j]? = some (cs'.getD j .any):=by rw [List.getD,List.getElem?_eq_getElem hj]; rfl
  rcases newL_get hnl j _ ht with h | ⟨v, r, h, h2⟩
  ·exact hfx.scal h
  ·rw [h] at hfx ⊢
   simp only [Fz] at hfx
   obtain ⟨rfl,_⟩:=hfx
   obtain ⟨q,y,h3,h4⟩:=hasX_get h2
   obtain ⟨x0,q1,q2⟩:=hv.get q (by rw [List.length_map]; exact (List.getElem?_eq_some_iff.1 h3).1)
   have e3:(ws.map W.res).getD q .any = .xv x r:=by rw [List.getD,List.getElem?_map,h3]; simp [h4]
   rw [e3] at q2
   have:x0 = x:=by simp only [Fz] at q2; exact q2.1
   subst this
   exact Fz.imp (fun k hk hk0 => ⟨by rw [hold k hk]; exact hk0,hg.blk hk⟩) _ _ q2
 have hE:=boxG_cells (lo:=lo) (par:=par) (ow:=owNew ow b d) (w:=w') (g:=.arg) (d:=d) (hcell.mono fun k hk => hk) h90
 have hh:∀ j,hangs d (d + 1000 * (1 + j)) = true:=fun j => hangs_iff.2 (.inr ⟨hd1,by omega⟩)
 have hal:arr.size = cs'.length:=by have:=hf.length; simpa using this
 refine N _ _ w' (owNew ow b d) hk hg.any (Gam.make (E := (d, .bx cs'.length) :: boxG .arg d 0 cs') (hG.kill d) (Kd.kill d s) hd1 hg hold (fun k p hk hp => ?_) (fun p hp => ?_) fun y hy hex hl hna => ?_) (by simp) rfl
 ·by_cases e : k = b
  ·subst e; exact ⟨hbs,.inl (Nat.le_trans hG.low hlob)⟩
  ·rw [owNew,if_neg e] at hp; exact absurd (hG.base k p hp).1 (by omega)
 ·rcases List.mem_cons.1 hp with rfl | hp
  ·exact hangs_self d
  ·obtain ⟨j,x,_,e,_⟩:=hE p hp; rw [e]; exact hh j
 ·by_cases hyd : y = d
  ·subst hyd
   refine ⟨.pointer (some ⟨b,0,none⟩),by rw [nmv_slot hd1]; simp [hsz],?_⟩
   rw [get_top]
   exact ⟨hd1,b,arr,ty,rfl,hnw,hb,hal⟩
  ·have hex' : ∃ p ∈ boxG .arg d 0 cs', p.1 = y := by
    obtain ⟨p,hp,e⟩:=hex
    rcases List.mem_cons.1 hp with rfl | hp
    ·exact absurd e.symm hyd
    ·exact ⟨p,hp,e⟩
   obtain ⟨p,hp,e,hget⟩:=get_mem hex'
   obtain ⟨j,x,hj,e1,hx,hc⟩:=hE p hp
   rw [get_top_ne hyd,hget]
   refine ⟨x, ?_, ?_⟩
   ·rw [← e,e1]
    unfold nmv
    rw [if_neg (by omega),show (d + 1000 * (1 + j)) % 1000 = d from by omega]
    have:(a.tmps.setIfInBounds d (.pointer (some ⟨b,0,none⟩))).getD d undef = .pointer (some ⟨b,0,none⟩):=by simp [hsz]
    rw [this]
    simp only
    rw [show (d + 1000 * (1 + j)) / 1000 = 1 + j from by omega,if_pos hj,show 1 + j - 1 = j from by omega,cell_of_row _ _ j arr ty (0,0) hb]
    simpa using hx
   ·rw [← e,e1]
    cases hv:p.2 with
    | t g r => rw [hv] at hc; exact hc
    | own m nl cs => rw [hv] at hc; exact hc
    | _ => rw [hv] at hc; exact hc.elim
end
end Go.Vc
namespace Go.Vc
open Go
section
variable {P:Program} {lo:Nat} {Xb:Nat → Prop} {par:Nat → Option Value} {ow ow':Ow} {tm tm':Array Value} {a:Act} {w w' w1:World} {s s':St} {K:St → Prop} {oper:Oper}
def tkChk (x : Nat) (op : Op) : Bool := match op with
 | .move (.tmp y) => y == x && decide (x < 1000)
 | .assign (.tmp y) => y == x && decide (x < 1000)
 | .extract (.tmp y) k => x == y + 1000 * (100 + k) && decide (y < 1000) && decide (k < 100)
 | _ => false
theorem tp_name (y k:Nat) (h:y < 1000):(y + 1000 * (100 + k)) % 1000 = y ∧ (y + 1000 * (100 + k)) / 1000 = 100 + k ∧ ¬ (y + 1000 * (100 + k)) < 1000:=by omega
theorem tk_run {x : Nat} {u : Value} (ho : tkChk x oper.op = true) (hu : nmv a.tmps w x = some u) : (execOp a.eval oper).run P w = .ok (.value u) w := by
 unfold tkChk at ho
 split at ho
 ·rename_i y hop
  simp only [Bool.and_eq_true,beq_iff_eq,decide_eq_true_eq] at ho
  obtain ⟨rfl,h⟩:=ho
  rw [nmv_slot h] at hu
  have hu:=Option.some.inj hu
  simp only [execOp,hop,Act.eval,hu,Sem.run_pure]
 ·rename_i y hop
  simp only [Bool.and_eq_true,beq_iff_eq,decide_eq_true_eq] at ho
  obtain ⟨rfl,h⟩:=ho
  rw [nmv_slot h] at hu
  have hu:=Option.some.inj hu
  simp only [execOp,hop,Act.eval,hu,Sem.run_pure]
 ·rename_i y k hop
  simp only [Bool.and_eq_true,beq_iff_eq,decide_eq_true_eq] at ho
  obtain ⟨⟨rfl,h1⟩,h2⟩:=ho
  unfold nmv at hu
  rw [if_neg (tp_name y k h1).2.2,(tp_name y k h1).1,(tp_name y k h1).2.1] at hu
  split at hu
  ·rw [if_neg (by omega)] at hu; cases hu
  ·rename_i vs hvs
   rw [if_pos ⟨by omega,by omega⟩,show 100 + k - 100 = k from by omega] at hu
   simp [execOp,hop,Act.eval,Instr.extract]
   simp at hvs
   rw [hvs]
   simp [hu]
  ·rw [if_neg (by omega)] at hu; cases hu
  ·cases hu
 ·cases ho
theorem tk_goi {d x : Nat} (hG : Gam lo Xb par ow s a.tmps w) (hpar : ∀ z, 1000 ≤ z → par z = none) (hd : oper.dst = some d) (hd1 : d < 1000) (hsz : d < a.tmps.size) (ho : tkChk x oper.op = true)
  (hk:wpI P (.tk d x) K s):GoI P lo Xb par a w K oper:=by
 rw [wpI_tk] at hk
 have hval : s.lv x = true → (x < 1000 ∨ (s.get x).isAny = false) → ∃ u, nmv a.tmps w x = some u := by
  intro hl h
  by_cases hx : x < 1000
  ·exact ⟨_,nmv_slot hx⟩
  ·obtain ⟨u,e,_⟩:=hG.ent x hl (h.resolve_left hx)
   exact ⟨u,e⟩
 have mv : hangs d x = false → s.lv x = true → (match s.get x with | .own m _ _ => m < 10 | .bx _ => x < 1000 | .tp _ => x < 1000 | .ag _ => x < 1000 | _ => False) → K (s.mvN x d) → GoI P lo Xb par a w K oper := by
  intro h1 h2 h3 h4
  have hna:(s.get x).isAny = false:=by cases hv:s.get x <;> simp [hv] at h3 <;> rfl
  obtain ⟨u,hu⟩:=hval h2 (.inr hna)
  refine goi_val hd (tk_run ho hu) h4 (Grow.refl _ _) (Gam.move hG hd1 hsz h1 h2 hu h3 fun y m nl cs hyx hh hl hy => ?_)
  obtain ⟨v,e,hr⟩:=hG.ent y hl (by rw [hy]; rfl)
  rw [hy] at hr
  by_cases hm : m < 10
  ·exact hm
  ·exfalso
   have:=hr.1 (by omega)
   rw [hpar y (by rw [hangs_iff] at hh; rcases hh with hh | hh; exact absurd hh hyx; omega)] at this
   cases this
 have pl : s.lv x = true → (x < 1000 ∨ (s.get x).isAny = false) → K ((d, (s.look (.s x)).toV) :: s) → GoI P lo Xb par a w K oper := by
  intro h1 h2 h3
  obtain ⟨u,hu⟩:=hval h1 h2
  have hR:=(hG.lookN h1 hu).toV
  exact goi_val hd (tk_run ho hu) h3 (Grow.refl _ _) (hG.put hd1 hsz hR.1 (hR.2 d))
 cases hv:s.get x with
 | own m nl cs => rw [hv,tkK_own] at hk; exact mv hk.2.1 hk.2.2.1 (by rw [hv]; exact hk.1) hk.2.2.2
 | bx k => rw [hv,tkK_bx] at hk; exact mv hk.1 (lv_iff.2 (.inl hk.2.1)) (by rw [hv]; exact hk.2.1) hk.2.2
 | tp k => rw [hv,tkK_tp] at hk; exact mv hk.1 (lv_iff.2 (.inl hk.2.1)) (by rw [hv]; exact hk.2.1) hk.2.2
 | ag k => rw [hv,tkK_ag] at hk; exact mv hk.1 (lv_iff.2 (.inl hk.2.1)) (by rw [hv]; exact hk.2.1) hk.2.2
 | t g r => rw [hv,tkK_t] at hk; exact pl hk.1 (by rw [hv]; exact hk.2.1) hk.2.2
 | al y => rw [hv,tkK_al] at hk; exact pl hk.1 (by rw [hv]; exact hk.2.1) hk.2.2
 | pc y => rw [hv,tkK_pc] at hk; exact pl hk.1 (by rw [hv]; exact hk.2.1) hk.2.2
 | sl y l h => rw [hv,tkK_sl] at hk; exact pl hk.1 (by rw [hv]; exact hk.2.1) hk.2.2
 | bv y => rw [hv,tkK_bv] at hk; exact pl hk.1 (by rw [hv]; exact hk.2.1) hk.2.2
 | er y j => rw [hv,tkK_er] at hk; exact pl hk.1 (by rw [hv]; exact hk.2.1) hk.2.2
 | pe y j => rw [hv,tkK_pe] at hk; exact pl hk.1 (by rw [hv]; exact hk.2.1) hk.2.2
 | clo f cp => rw [hv,tkK_clo] at hk; exact pl hk.1 (by rw [hv]; exact hk.2.1) hk.2.2
 | fo z k nl cs => rw [hv,tkK_fo] at hk; exact pl hk.1 (by rw [hv]; exact hk.2.1) hk.2.2
def owDrop (ow : Ow) (y : Nat) : Ow := fun b => match ow b with
 | some (q,r) => if q = y then none else some (q,r)
 | none => none
theorem frz_gam {y : Nat} (hG : Gam lo Xb par ow s tm w) (hX : ∀ b, ¬ Xb b) (hk : wpI P (.frz y) K s) : ∃ s' ow', K s' ∧ Gam lo Xb par ow' s' tm w := by
 rw [wpI_frz] at hk
 cases hv:s.get y with
 | own m nl cs =>
  rw [hv,frzK_o] at hk
  obtain ⟨hm,hl,hK⟩:=hk
  refine ⟨_,owDrop ow y,hK,?_⟩
  have dn:∀ {b},ow b = none → owDrop ow y b = none:=fun h => by unfold owDrop; rw [h]
  have dy:∀ {b r},ow b = some (y,r) → owDrop ow y b = none:=fun h => by unfold owDrop; rw [h]; simp
  have dne:∀ {b z r},z ≠ y → ow b = some (z,r) → owDrop ow y b = some (z,r):=fun hz h => by unfold owDrop; rw [h]; simp [hz]
  have lob : ∀ {b p}, ow b = some p → lo ≤ b := fun h => by
   rcases (hG.base _ _ h).2 with h | h
   ·exact h
   ·exact absurd h (hX _)
  have hh:∀ z,¬ Hg [y] z → hangs y z = false:=fun z hz => by rw [← Bool.not_eq_true]; exact fun h => hz ⟨y,by simp,h⟩
  have hzy:∀ {z},hangs y z = false → z ≠ y:=fun h e => by rw [e,hangs_self] at h; cases h
  have Kp : Keeps lo [y] ow (owDrop ow y) tm tm w w s ((y, .t .fr (.s nl cs)) :: s.kill y) := by
   refine ⟨Nat.le_refl _, fun z hz => ?_, fun z _ _ u hu => hu, fun z hz b _ r hb => ⟨dne (hzy (hh z hz)) hb, rfl⟩, fun g hg b _ hb => ⟨?_, rfl⟩⟩
   ·have h1:=hh z hz
    rw [get_top_ne (hzy h1),get_kill]
    by_cases hon : (s.get z).on y = true
    ·left; rw [if_pos (.inr hon)]; rfl
    ·simp only [Bool.not_eq_true] at hon
     right; left; simp [h1,hon]
   ·have hg:=hg y (by simp)
    cases g with
    | arg => exact dn hb
    | fr => exact ⟨dn hb.1,hb.2⟩
    | rw z => exact dne (hzy (show hangs y z = false from hg)) hb
    | sp z =>
     have hz:=hzy (show hangs y z = false from hg)
     rcases hb with hb | hb | hb
     ·exact .inl (dne hz hb)
     ·exact .inr (.inl (dne hz hb))
     ·exact .inr (.inr (dn hb))
  refine Gam.next hG Kp (fun b p hp => ?_) fun z hz hlz hn => ?_
  ·unfold owDrop at hp
   cases e:ow b with
   | none => rw [e] at hp; cases hp
   | some q => exact hG.base b q e
  ·obtain ⟨x,hx,hhx⟩:=hz
   simp at hx; subst hx
   by_cases hzx : z = x
   ·subst hzx
    obtain ⟨u,e,hr⟩:=hG.ent z hl (by rw [hv]; rfl)
    refine ⟨u,e,?_⟩
    rw [get_top]
    rw [hv] at hr
    rcases hr.2 with h | ⟨hnl, b, cap, arr, ty, xs, e1, ho, hb, hs, hle, hmx, ht, hx1, hd⟩
    ·simp only [Rep,Fz]; exact .inl h
    ·simp only [Rep,Fz]
     refine .inr ⟨hnl, b, 0, none, cap, xs, e1, hle, hmx, fun _ => ⟨⟨dy ho, lob ho⟩, rfl⟩, FzL.imp (fun b' _ hb' => ⟨?_, rfl⟩) cs xs hx1, fun k v hk => ?_⟩
     ·have:m = 0 ∨ m = 1:=by omega
      rcases this with rfl | rfl
      ·exact ⟨dn hb'.1,hb'.2⟩
      ·exact ⟨dy hb',lob hb'⟩
     ·rw [cell_of_row w b (0 + k) arr ty (0,0) hb]
      subst ht
      rw [List.getElem?_take] at hk
      split at hk
      ·simpa using hk
      ·cases hk
   ·exfalso
    rw [get_top_ne hzx,get_kill,if_pos (.inl hhx)] at hn
    cases hn
 | _ => rw [hv] at hk; exact hk.elim
theorem tkr_gam {k : Nat} (hG : Gam lo Xb par ow s tm w) (hk : wpI P (.tkr k) K s) : ∃ s' ow', K s' ∧ Gam lo Xb par ow' s' tm w := by
 rw [wpI_tkr] at hk
 cases hw:s.look (.s k) with
 | er y j m nl cs =>
  rw [hw,tkrK_er] at hk
  cases hc:cs.getD j .any with
  | s nx cx =>
   rw [hc,tkrR_s] at hk
   obtain ⟨hk1,hky,hyk,hm,hj,hol,hK⟩:=hk
   have hr:=hG.look hk1
   rw [hw] at hr
   obtain ⟨hy,hly,b,len,cap,hny,hO,hcell⟩:=hr
   rcases hO.2 with h | ⟨hn, b', cap', arr, ty, xs, e, ho, hb, hs, hl, hmx, ht, hx, hdp⟩
   ·cases h.1
   cases e
   have htm:tagM m y = .rw y:=by simp [tagM,hm]
   rw [htm] at hx
   obtain ⟨d1,d2⟩:=hdp hm
   obtain ⟨x,hxj,hfx⟩:=hx.get j hj
   have hux : x = tm.getD k undef := by
    replace hcell:=hcell.row (er_lt hj (Nat.le_trans hl hmx))
    rw [cell_of_row w b j arr ty (0,0) hb] at hcell
    subst ht
    rw [List.getElem?_take,if_pos hj] at hxj
    have e4:arr[j]? = some x:=by simpa using hxj
    rw [e4] at hcell; exact Option.some.inj hcell
   rw [hc] at hfx
   have hvj:(veil cs xs)[j]? = some x:=by rw [veil_live (by rw [hc]; rfl)]; exact hxj
   have mem:∀ i,i < cs.length → cs.getD i .any ∈ cs:=fun i hi => by rw [List.getD,List.getElem?_eq_getElem hi]; exact List.getElem_mem hi
   have hcx : scalL cx := by
    rcases hol _ (mem j hj) with h | h
    ·rw [hc] at h; cases h
    ·rw [hc] at h; exact h
   let ow':Ow:=fun b => if rowBlk x = some b then some (k,0) else ow b
   have oyes:∀ b,rowBlk x = some b → ow' b = some (k,0):=fun b hb => if_pos hb
   have ono:∀ b,rowBlk x ≠ some b → ow' b = ow b:=fun b hb => if_neg hb
   have hrow : ∀ b, rowBlk x = some b → ow b = some (y, 1) ∧ ∃ arr ty len, w.heap[b]? = some (.cells arr ty (0, 0)) ∧ x = .slice (some ⟨b, 0, none⟩) len arr.size := fun b hb => by
    have:=d2 j b (by rw [hvj]; exact hb)
    rw [hvj] at this
    obtain ⟨q1,arr,ty,len,q2,q3⟩:=this
    exact ⟨q1,arr,ty,len,q2,Option.some.inj q3⟩
   have hOk : OwnAt lo par ow' w k 1 nx cx x := by
    refine ⟨fun h => absurd h (by omega),?_⟩
    simp only [Fz] at hfx
    rcases hfx with h | ⟨hn0, b0, o0, sp0, cap0, zs, e1, l1, l2, _, hz, hzc⟩
    ·exact .inl h
    ·have hrb:rowBlk x = some b0:=by rw [e1]; rfl
     obtain ⟨q1,arr0,ty0,len0,q2,q4⟩:=hrow b0 hrb
     rw [e1] at q4
     cases q4
     refine .inr ⟨hn0,b0,arr0.size,arr0,ty0,zs,e1,oyes b0 hrb,q2,rfl,l1,l2,?_,hz.scal hcx,fun _ => (scal_deep hcx hz).veil⟩
     apply List.ext_getElem?
     intro i
     rw [List.getElem?_take]
     have hzl:=hz.length
     split
     ·rename_i hi
      have hi':i < zs.length:=by omega
      have:=hzc i _ (List.getElem?_eq_getElem hi')
      rw [Nat.zero_add,cell_of_row w b0 i arr0 ty0 (0,0) q2] at this
      rw [List.getElem?_eq_getElem hi']
      simpa using this
     ·rw [List.getElem?_eq_none (by omega)]
   have live : ∀ i b, ((veil (cs.set j .any) xs)[i]?).bind rowBlk = some b → i ≠ j ∧ (veil (cs.set j .any) xs)[i]? = xs[i]? ∧ (veil cs xs)[i]? = xs[i]? := fun i b hi => by
    obtain ⟨h1,h2⟩:=veil_row hi
    have hij : i ≠ j := fun e => by
     subst e
     rw [List.getD,List.getElem?_set_self hj] at h2; cases h2
    refine ⟨hij,h1,veil_live ?_⟩
    rw [List.getD,List.getElem?_set_ne (fun e => hij e.symm)] at h2
    exact h2
   have noj:∀ i b,i ≠ j → ((veil cs xs)[i]?).bind rowBlk = some b → rowBlk x ≠ some b:=fun i b hij hi e => hij (d1 i j b hi (by rw [hvj]; exact e))
   have hOy : OwnAt lo par ow' w y m nl (cs.set j .any) (.slice (some ⟨b, 0, none⟩) cs.length cap) := by
    refine ⟨hO.1, .inr ⟨hn, b, cap, arr, ty, xs, by simp, ?_, hb, hs, by simpa using hl, hmx, by simpa using ht, ?_, fun _ => ⟨fun i i' b' h1 h2 => ?_, fun i b' h1 => ?_⟩⟩⟩
    ·rw [ono b fun e => by have:=(hrow b e).1; rw [ho] at this; cases this]; exact ho
    ·rw [htm]
     have hxl:=hx.length
     refine FzL.of_get (by simpa using hxl) fun i v hv => ?_
     by_cases e : i = j
     ·subst e
      rw [List.getD,List.getElem?_set_self hj]; simp [Fz]
     ·have hil:i < cs.length:=by rw [← hxl]; exact (List.getElem?_eq_some_iff.1 hv).1
      obtain ⟨v',hi',hfv⟩:=hx.get i hil
      rw [hv] at hi'; cases hi'
      have hset : (cs.set j .any).getD i .any = cs.getD i .any := by
       rw [List.getD,List.getElem?_set_ne (fun h => e h.symm)]; rfl
      rw [hset]
      have hri:=hol _ (mem i hil)
      cases hci:cs.getD i .any with
      | s nlk ck =>
       rw [hci] at hfv hri
       have hri:scalL ck:=by rcases hri with h | h; cases h; exact h
       have hvi:(veil cs xs)[i]? = some v:=by rw [veil_live (by rw [hci]; rfl)]; exact hv
       simp only [Fz] at hfv ⊢
       rcases hfv with h | ⟨hn0, b0, o0, sp0, cap0, zs, e1, l1, l2, hok, hz, hzc⟩
       ·exact .inl h
       ·refine .inr ⟨hn0,b0,o0,sp0,cap0,zs,e1,l1,l2,fun hne => ⟨?_,(hok hne).2⟩,hz.scal hri,hzc⟩
        have hb0:=noj i b0 e (by rw [hvi,e1]; rfl)
        show ow' b0 = some (y,1)
        rw [ono b0 hb0]; exact (hok hne).1
      | any => simp [Fz]
      | _ => rw [hci] at hri; rcases hri with h | h; cases h; exact h.elim
    ·obtain ⟨a1,a2,a3⟩:=live i b' h1
     obtain ⟨c1,c2,c3⟩:=live i' b' h2
     exact d1 i i' b' (by rw [a3,← a2]; exact h1) (by rw [c3,← c2]; exact h2)
    ·obtain ⟨a1,a2,a3⟩:=live i b' h1
     have h1':((veil cs xs)[i]?).bind rowBlk = some b':=by rw [a3,← a2]; exact h1
     obtain ⟨q1,arr0,ty0,len0,q2,q3⟩:=d2 i b' h1'
     refine ⟨?_,arr0,ty0,len0,q2,by rw [a2,← a3]; exact q3⟩
     rw [ono b' (noj i b' a1 h1')]; exact q1
   have gt : ∀ z, St.get ((y, .own m nl (cs.set j .any)) :: s.killRs y) z = if z = y then .own m nl (cs.set j .any) else if (s.get z).onRs y = true then .any else s.get z := by
    intro z
    rw [get_if]
    by_cases h : z = y
    ·rw [if_pos h.symm,if_pos h]
    ·rw [if_neg (Ne.symm h),if_neg h,get_killRs]
   have lvs : ∀ z, St.lv ((y, .own m nl (cs.set j .any)) :: s.killRs y) z = true → s.lv z = true := by
    intro z hz
    rw [lv_iff] at hz ⊢
    rcases hz with hz | hz
    ·exact .inl hz
    ·rw [gt] at hz
     split at hz
     ·cases hz
     ·split at hz
      ·cases hz
      ·exact .inr hz
   have al : ∀ z, okAl ((y, .own m nl (cs.set j .any)) :: s.killRs y) z → okAl s z := by
    intro z hz
    rw [okAl_iff,gt] at hz
    rw [okAl_iff]
    by_cases hzy : z = y
    ·subst hzy; exact .inl ⟨⟨m,nl,cs,hy⟩,hly⟩
    ·simp only [hzy,if_false] at hz
     split at hz
     ·rcases hz with ⟨⟨_,_,_,e⟩,_⟩ | ⟨⟨_,e⟩,_⟩ <;> cases e
     ·rcases hz with ⟨e, hz⟩ | e
      ·exact .inl ⟨e,lvs z hz⟩
      ·exact .inr e
   have pe : ∀ z, okPe ((y, .own m nl (cs.set j .any)) :: s.killRs y) z → okPe s z := by
    intro z hz
    rw [okPe_iff,gt] at hz
    rw [okPe_iff]
    by_cases hzy : z = y
    ·subst hzy; exact ⟨⟨m,nl,cs,hy⟩,hly⟩
    ·simp only [hzy,if_false] at hz
     split at hz
     ·obtain ⟨⟨_,_,_,e⟩,_⟩:=hz; cases e
     ·exact ⟨hz.1,lvs z hz.2⟩
   have G1 : Gam lo Xb par ow' ((y, .own m nl (cs.set j .any)) :: s.killRs y) tm w := by
    refine Gam.step (M := fun _ => True) (MG := fun g => g.onRs y = false) (I := fun z => z ≠ y ∧ s.lv z = true) hG (fun b' p hp => ?_) (Nat.le_refl _) (fun z hz hnz => ?_) (fun z _ u hu => hu)
     (fun z hz b' _ r' hb' => ⟨?_,rfl⟩) ⟨rfl,rfl⟩ (fun z _ hz => ⟨al z hz,fun u hu => hu⟩) (fun z _ hz => pe z hz) (fun x' hx' _ hz => ⟨?_,fun u hu => hu⟩) (fun g hg b' _ hb' => ⟨?_,rfl⟩)
    ·by_cases e : rowBlk x = some b'
     ·exact hG.base b' _ (hrow b' e).1
     ·rw [ono b' e] at hp; exact hG.base b' p hp
    ·by_cases hzy : z = y
     ·subst hzy
      left
      refine ⟨_,hny,?_⟩
      rw [get_top]; exact hOy
     ·right
      rw [gt,if_neg hzy] at hnz ⊢
      split at hnz
      ·cases hnz
      ·rename_i hsp
       simp only [Bool.not_eq_true] at hsp
       rw [hsp]
       exact ⟨⟨hzy,lvs z hz⟩,by simp,lvs z hz,V.onRs_not hsp⟩
    ·rw [ono b' fun e => by have:=(hrow b' e).1; rw [hb'] at this; cases this; exact hz.1 rfl]; exact hb'
    ·rw [okPc_iff,gt] at hz
     obtain ⟨n,hz⟩:=hz
     split at hz
     ·cases hz
     ·split at hz
      ·cases hz
      ·exact okPc_iff.2 ⟨n,hz⟩
    ·have hne : rowBlk x ≠ some b' := fun e => by
      have h1:=(hrow b' e).1
      cases g with
      | arg => simp only [okG] at hb'; rw [h1] at hb'; cases hb'
      | fr => simp only [okG] at hb'; rw [h1] at hb'; cases hb'.1
      | rw z =>
       have hz:(z == y) = false:=hg
       simp only [okG] at hb'; rw [h1] at hb'; cases hb'; simp at hz
      | sp z =>
       have hz:(z == y) = false:=hg
       simp only [okG] at hb'; rw [h1] at hb'
       rcases hb' with h | h | h <;> cases h
       simp at hz
     cases g <;> simp only [okG] at hb' ⊢ <;> rw [ono b' hne] <;> exact hb'
   refine ⟨_,ow',hK,?_⟩
   revert G1
   generalize ((y,V.own m nl (cs.set j .any)) :: s.killRs y:St) = s1
   intro G1
   have hh:∀ z,¬ Hg [k] z → hangs k z = false:=fun z hz => by rw [← Bool.not_eq_true]; exact fun h => hz ⟨k,by simp,h⟩
   have hzy:∀ {z},hangs k z = false → z ≠ k:=fun h e => by rw [e,hangs_self] at h; cases h
   have Kp : Keeps lo [k] ow' ow' tm tm w w s1 ((k, .own 1 nx cx) :: St.kill k s1) := by
    refine ⟨Nat.le_refl _,fun z hz => ?_,fun z _ _ u hu => hu,fun z hz b _ r hb => ⟨hb,rfl⟩,fun g hg b _ hb => ⟨hb,rfl⟩⟩
    have h1:=hh z hz
    rw [get_top_ne (hzy h1),get_kill]
    by_cases hon : (St.get s1 z).on k = true
    ·left; rw [if_pos (.inr hon)]; rfl
    ·simp only [Bool.not_eq_true] at hon
     right; left; simp [h1,hon]
   refine Gam.next G1 Kp G1.base fun z hz hlz hn => ?_
   obtain ⟨v,hv,hhv⟩:=hz
   simp at hv; subst hv
   by_cases hzx : z = v
   ·subst hzx
    refine ⟨x,by rw [nmv_slot hk1,hux],?_⟩
    rw [get_top]; exact hOk
   ·exfalso
    rw [get_top_ne hzx,get_kill,if_pos (.inl hhv)] at hn
    cases hn
  | _ => rw [hc] at hk; exact hk.elim
 | fo z q nl cs =>
  cases q with
  | some t =>
  by_cases htu:∃ us,t = .u us
  case neg =>
   rw [hw] at hk
   exfalso
   revert hk htu
   cases t with
   | u vs => intro hk htu; exact htu ⟨_,rfl⟩
   | _ => intro hk _; exact hk.elim
  obtain ⟨us,htu⟩:=htu
  subst htu
  rw [hw,tkrK_nb] at hk
  obtain ⟨hk1,hz1,hkz,hK⟩:=hk
  have hr:=hG.look hk1
  rw [hw] at hr
  obtain ⟨hsc,u0,hfo,hr⟩:=hr
  obtain ⟨bp, hup, hu0⟩ : ∃ b, tm.getD k undef = .pointer (some ⟨b, 0, none⟩) ∧ u0 = .slice (some ⟨b, 0, none⟩) 0 (us.length + 1) := by
   rcases hfo with ⟨h, _⟩ | ⟨h, _⟩ | ⟨vs, e, h⟩
   ·exact h.elim
   ·cases h
   ·cases e; exact h
  have hh:∀ (x:Nat) z,¬ Hg [x] z → hangs x z = false:=fun x z hz => by rw [← Bool.not_eq_true]; exact fun h => hz ⟨x,by simp,h⟩
  have hzy:∀ {x z},hangs x z = false → z ≠ x:=fun h e => by rw [e,hangs_self] at h; cases h
  have G0:Gam lo Xb par ow (St.kill z s) tm w:=hG.kill z
  rcases hr with ⟨e1, e2, e3⟩ | ⟨hn, b, arr, ty, xs, e1, ho, hb, hl, hmx, ht, hx⟩
  ·rw [hu0] at e1; cases e1
  ·let ow':Ow:=fun b' => if b' = b then some (k,0) else ow b'
   have oyes:ow' b = some (k,0):=if_pos rfl
   have ono:∀ b',b' ≠ b → ow' b' = ow b':=fun b' h => if_neg h
   refine ⟨_,ow',hK,?_⟩
   have gtz:∀ y,St.get (St.kill z s) y = if hangs z y = true ∨ (s.get y).on z = true then .any else s.get y:=fun y => get_kill
   have G1 : Gam lo Xb par ow' (St.kill z s) tm w := by
    refine Gam.step (M := fun y => hangs z y = false) (MG := fun g => g.on z = false) (I := fun y => y ≠ z) G0 (fun b' p hp => ?_) (Nat.le_refl _) (fun y hy hny => ?_) (fun y _ u hu => hu)
     (fun y hy b' _ r' hb' => ⟨?_,rfl⟩) ⟨rfl,rfl⟩ (fun y _ hy => ⟨hy,fun u hu => hu⟩) (fun y _ hy => hy) (fun x' hx' _ hy => ⟨hy,fun u hu => hu⟩) (fun g hg b' _ hb' => ⟨?_,rfl⟩)
    ·by_cases e : b' = b
     ·subst e; exact hG.base b' _ ho
     ·rw [ono b' e] at hp; exact hG.base b' p hp
    ·right
     have hkz2:¬ (hangs z y = true ∨ (s.get y).on z = true):=fun hc => by rw [gtz,if_pos hc] at hny; cases hny
     simp only [not_or,Bool.not_eq_true] at hkz2
     have hg:St.get (St.kill z s) y = s.get y:=by rw [gtz,if_neg (by simp [hkz2])]
     exact ⟨fun e => absurd hkz2.1 (by rw [e,hangs_self]; simp),rfl,hy,V.not_on (by rw [hg]; exact hkz2.2)⟩
    ·rw [ono b' fun e => by subst e; rw [ho] at hb'; cases hb'; exact hy rfl]; exact hb'
    ·have hne : b' ≠ b := fun e => by
      subst e
      cases g with
      | arg => simp only [okG] at hb'; rw [ho] at hb'; cases hb'
      | fr => simp only [okG] at hb'; rw [ho] at hb'; cases hb'.1
      | rw q =>
       simp only [okG] at hb'; rw [ho] at hb'; cases hb'
       simp only [G.on,hangs_self] at hg; cases hg
      | sp q =>
       simp only [okG] at hb'; rw [ho] at hb'
       rcases hb' with h | h | h <;> cases h
       simp only [G.on,hangs_self] at hg; cases hg
     cases g <;> simp only [okG] at hb' ⊢ <;> rw [ono b' hne] <;> exact hb'
   have Kp : Keeps lo [k] ow' ow' tm tm w w (St.kill z s) ((k, .bx (us.length + 1)) :: St.kill k (St.kill z s)) := by
    refine ⟨Nat.le_refl _,fun y hy => ?_,fun y _ _ u hu => hu,fun y hy b _ r hb => ⟨hb,rfl⟩,fun g hg b _ hb => ⟨hb,rfl⟩⟩
    have h1:=hh k y hy
    rw [get_top_ne (hzy h1),get_kill]
    by_cases hon : (St.get (St.kill z s) y).on k = true
    ·left; rw [if_pos (.inr hon)]; rfl
    ·simp only [Bool.not_eq_true] at hon
     right; left; simp [h1,hon]
   refine Gam.next G1 Kp G1.base fun y hy hly hny => ?_
   obtain ⟨v,hv,hhv⟩:=hy
   simp at hv; subst hv
   by_cases hyv : y = v
   ·subst hyv
    refine ⟨_,nmv_slot hk1,?_⟩
    rw [get_top]
    rw [hu0] at e1
    injection e1 with e2 e3 e4
    cases e2
    exact ⟨hk1,bp,arr,ty,hup,oyes,hb,e4.symm⟩
   ·exfalso
    rw [get_top_ne hyv,get_kill,if_pos (.inl hhv)] at hny
    cases hny
  | none =>
  rw [hw,tkrK_fo] at hk
  obtain ⟨hk1,hz1,hkz,hK⟩:=hk
  have hr:=hG.look hk1
  rw [hw] at hr
  obtain ⟨hsc,_,rfl,hr⟩:=hr
  have hh:∀ (x:Nat) z,¬ Hg [x] z → hangs x z = false:=fun x z hz => by rw [← Bool.not_eq_true]; exact fun h => hz ⟨x,by simp,h⟩
  have hzy:∀ {x z},hangs x z = false → z ≠ x:=fun h e => by rw [e,hangs_self] at h; cases h
  have G0:Gam lo Xb par ow (St.kill z s) tm w:=hG.kill z
  rcases hr with ⟨e1, e2, e3⟩ | ⟨hn, b, arr, ty, xs, e1, ho, hb, hl, hmx, ht, hx⟩
  ·refine ⟨_,ow,hK,?_⟩
   have Kp : Keeps lo [k] ow ow tm tm w w (St.kill z s) ((k, .own 1 nl cs) :: St.kill k (St.kill z s)) := by
    refine ⟨Nat.le_refl _,fun y hy => ?_,fun y _ _ u hu => hu,fun y hy b _ r hb => ⟨hb,rfl⟩,fun g hg b _ hb => ⟨hb,rfl⟩⟩
    have h1:=hh k y hy
    rw [get_top_ne (hzy h1),get_kill]
    by_cases hon : (St.get (St.kill z s) y).on k = true
    ·left; rw [if_pos (.inr hon)]; rfl
    ·simp only [Bool.not_eq_true] at hon
     right; left; simp [h1,hon]
   refine Gam.next G0 Kp G0.base fun y hy hly hny => ?_
   obtain ⟨v,hv,hhv⟩:=hy
   simp at hv; subst hv
   by_cases hyv : y = v
   ·subst hyv
    refine ⟨_,nmv_slot hk1,?_⟩
    rw [get_top]; exact ⟨fun h => absurd h (by omega),.inl ⟨e1,e2,e3⟩⟩
   ·exfalso
    rw [get_top_ne hyv,get_kill,if_pos (.inl hhv)] at hny
    cases hny
  ·let ow':Ow:=fun b' => if b' = b then some (k,0) else ow b'
   have oyes:ow' b = some (k,0):=if_pos rfl
   have ono:∀ b',b' ≠ b → ow' b' = ow b':=fun b' h => if_neg h
   refine ⟨_,ow',hK,?_⟩
   have gtz:∀ y,St.get (St.kill z s) y = if hangs z y = true ∨ (s.get y).on z = true then .any else s.get y:=fun y => get_kill
   have G1 : Gam lo Xb par ow' (St.kill z s) tm w := by
    refine Gam.step (M := fun y => hangs z y = false) (MG := fun g => g.on z = false) (I := fun y => y ≠ z) G0 (fun b' p hp => ?_) (Nat.le_refl _) (fun y hy hny => ?_) (fun y _ u hu => hu)
     (fun y hy b' _ r' hb' => ⟨?_,rfl⟩) ⟨rfl,rfl⟩ (fun y _ hy => ⟨hy,fun u hu => hu⟩) (fun y _ hy => hy) (fun x' hx' _ hy => ⟨hy,fun u hu => hu⟩) (fun g hg b' _ hb' => ⟨?_,rfl⟩)
    ·by_cases e : b' = b
     ·subst e; exact hG.base b' _ ho
     ·rw [ono b' e] at hp; exact hG.base b' p hp
    ·right
     have hkz2:¬ (hangs z y = true ∨ (s.get y).on z = true):=fun hc => by rw [gtz,if_pos hc] at hny; cases hny
     simp only [not_or,Bool.not_eq_true] at hkz2
     have hg:St.get (St.kill z s) y = s.get y:=by rw [gtz,if_neg (by simp [hkz2])]
     exact ⟨fun e => absurd hkz2.1 (by rw [e,hangs_self]; simp),rfl,hy,V.not_on (by rw [hg]; exact hkz2.2)⟩
    ·rw [ono b' fun e => by subst e; rw [ho] at hb'; cases hb'; exact hy rfl]; exact hb'
    ·have hne : b' ≠ b := fun e => by
      subst e
      cases g with
      | arg => simp only [okG] at hb'; rw [ho] at hb'; cases hb'
      | fr => simp only [okG] at hb'; rw [ho] at hb'; cases hb'.1
      | rw q =>
       simp only [okG] at hb'; rw [ho] at hb'; cases hb'
       simp only [G.on,hangs_self] at hg; cases hg
      | sp q =>
       simp only [okG] at hb'; rw [ho] at hb'
       rcases hb' with h | h | h <;> cases h
       simp only [G.on,hangs_self] at hg; cases hg
     cases g <;> simp only [okG] at hb' ⊢ <;> rw [ono b' hne] <;> exact hb'
   have Kp : Keeps lo [k] ow' ow' tm tm w w (St.kill z s) ((k, .own 1 nl cs) :: St.kill k (St.kill z s)) := by
    refine ⟨Nat.le_refl _,fun y hy => ?_,fun y _ _ u hu => hu,fun y hy b _ r hb => ⟨hb,rfl⟩,fun g hg b _ hb => ⟨hb,rfl⟩⟩
    have h1:=hh k y hy
    rw [get_top_ne (hzy h1),get_kill]
    by_cases hon : (St.get (St.kill z s) y).on k = true
    ·left; rw [if_pos (.inr hon)]; rfl
    ·simp only [Bool.not_eq_true] at hon
     right; left; simp [h1,hon]
   refine Gam.next G1 Kp G1.base fun y hy hly hny => ?_
   obtain ⟨v,hv,hhv⟩:=hy
   simp at hv; subst hv
   by_cases hyv : y = v
   ·subst hyv
    refine ⟨_,nmv_slot hk1,?_⟩
    rw [get_top,e1]
    exact ⟨fun h => absurd h (by omega),.inr ⟨hn,b,arr.size,arr,ty,xs,rfl,oyes,hb,rfl,hl,hmx,ht,hx.scal hsc,fun _ => (scal_deep hsc hx).veil⟩⟩
   ·exfalso
    rw [get_top_ne hyv,get_kill,if_pos (.inl hhv)] at hny
    cases hny
 | _ => rw [hw] at hk; exact hk.elim
theorem onl_gam {y : Nat} (hG : Gam lo Xb par ow s tm w) (hk : wpI P (.onl y) K s) : ∃ s' ow', K s' ∧ Gam lo Xb par ow' s' tm w := by
 rw [wpI_onl] at hk
 cases hv:s.get y with
 | t g r =>
  cases r with
  | s nl cs =>
   cases nl with
   | none => rw [hv] at hk; exact hk.elim
   | some nl =>
    cases nl with
    | false => rw [hv] at hk; exact hk.elim
    | true =>
     rw [hv,onlK_n] at hk
     obtain ⟨hy1,hK⟩:=hk
     refine ⟨_,ow,hK,?_⟩
     have hl:s.lv y = true:=hy1
     obtain ⟨u,e,hr⟩:=hG.ent y hl (by rw [hv]; rfl)
     have hh:∀ z,¬ Hg [y] z → hangs y z = false:=fun z hz => by rw [← Bool.not_eq_true]; exact fun h => hz ⟨y,by simp,h⟩
     have hzy:∀ {z},hangs y z = false → z ≠ y:=fun h e => by rw [e,hangs_self] at h; cases h
     have Kp : Keeps lo [y] ow ow tm tm w w s ((y, .own 1 (some true) []) :: s.kill y) := by
      refine ⟨Nat.le_refl _,fun z hz => ?_,fun z _ _ u hu => hu,fun z hz b _ r hb => ⟨hb,rfl⟩,fun g hg b _ hb => ⟨hb,rfl⟩⟩
      have h1:=hh z hz
      rw [get_top_ne (hzy h1),get_kill]
      by_cases hon : (s.get z).on y = true
      ·left; rw [if_pos (.inr hon)]; rfl
      ·simp only [Bool.not_eq_true] at hon
       right; left; simp [h1,hon]
     refine Gam.next hG Kp hG.base fun z hz hlz hn => ?_
     obtain ⟨x,hx,hhx⟩:=hz
     simp at hx; subst hx
     by_cases hzx : z = x
     ·subst hzx
      refine ⟨u,e,?_⟩
      rw [get_top]
      rw [hv] at hr
      simp only [Rep,Fz] at hr
      rcases hr with ⟨e1, _⟩ | ⟨e1, _⟩
      ·exact ⟨fun h => absurd h (by omega),.inl ⟨e1,rfl,by simp⟩⟩
      ·exact absurd rfl e1
     ·exfalso
      rw [get_top_ne hzx,get_kill,if_pos (.inl hhx)] at hn
      cases hn
  | _ => rw [hv] at hk; exact hk.elim
 | _ => rw [hv] at hk; exact hk.elim
def dstOk (N d:Nat) (op:Oper):Bool:=op.dst == some d && decide (d < N) && decide (d < 1000)
def mknChk (op : Op) : Bool := match op with
 | .move (.const (.slice none 0 0)) => true
 | .assign (.const (.slice none 0 0)) => true
 | _ => false
def chkI (P : Program) (N : Nat) : I → Oper → Bool
 | .v d o xs,op => dstOk N d op && chkV P o xs op.op
 | .mkn d,op => dstOk N d op && mknChk op.op
 | .tk d x,op => dstOk N d op && tkChk x op.op
 | .st p v,op => op.dst == none && (match op.op with | .store t p' v' => one1 P t && xOk p p' && xOk v v' | _ => false)
 | .app d x e _,op => dstOk N d op && appChk P x e op.op
 | .box d x,op => dstOk N d op && (match op.op with | .box _ x' => xOk x x' | _ => false)
 | .new d zs,op => dstOk N d op && newChk P zs op.op
 | .lit d ps _,op => dstOk N d op && litChk P ps op.op
 | .mk d z l c,op => dstOk N d op && (match op.op with | .makeSlice t l' c' => xOk l l' && xOk c c' && (match P.underlying t with | some (.slice e) => zOk P e z | _ => false) | _ => false)
 | .co d f xs,op => dstOk N d op && (match op.op with | .call { callee:=.value (.func g),args:=ys,argTypes:=_ } => f == g && xsOk xs ys.toList | _ => false)
 | .coC d xs,op => dstOk N d op && (match xs,op.op with | x :: xs,.call { callee:=.value y,args:=ys,argTypes:=_ } => xOk x y && xsOk xs ys.toList | _,_ => false)
 | .coc d f xs _,op => dstOk N d op && (match op.op with | .call { callee:=.value (.func g),args:=ys,argTypes:=_ } => f == g && xsOk xs ys.toList | _ => false)
 | .cox d f xs _,op => (match d with | some k => dstOk N k op | none => op.dst == none) && (match op.op with | .call { callee:=.value (.func g),args:=ys,argTypes:=_ } => f == g && xsOk xs ys.toList | _ => false)
 | .cut d x h,op => dstOk N d op && (match op.op with | .slice t x' none (some h') none => tyS1 P t && xOk x x' && xOk h h' | _ => false)
 | .cpy d p q,op => dstOk N d op && (match op.op with | .call { callee:=.builtin .copy,args:=ys,argTypes:=ts } => (match ys.toList,ts.toList with | [y1,y2],t :: _ => tyS1 P t && xOk p y1 && xOk q y2 | _,_ => false) | _ => false)
 | .clr p z,op => op.dst == none && (match op.op with | .call { callee:=.builtin .clear,args:=ys,argTypes:=ts } => (match ys.toList,ts.toList with | [y1],[t] => xOk p y1 && (match P.underlying t with | some (.slice e) => zOk P e z | _ => false) | _,_ => false) | _ => false)
 | .apz d x n z,op => dstOk N d op && (match op.op with | .call { callee:=.builtin .append,args:=ys,argTypes:=ts } => (match ys.toList,ts.toList with | [y1,y2],[t,ti] => xOk x y1 && xOk n y2 && tyI P ti && (match P.underlying t with | some (.slice e) => zOk P e z | _ => false) | _,_ => false) | _ => false)
 | .frz _,_ => false
 | .onl _,_ => false
 | .tkr _,_ => false
 | .coa d f xs _,op => (match d with | some k => dstOk N k op | none => op.dst == none) && (match op.op with | .call { callee:=.value (.func g),args:=ys,argTypes:=_ } => f == g && xsOk xs ys.toList | _ => false)
 | .cop d f xs _,op => dstOk N d op && (match op.op with | .call { callee:=.value (.func g),args:=ys,argTypes:=_ } => f == g && xsOk xs ys.toList | _ => false)
 | .con d f xs,op => dstOk N d op && (match op.op with | .call { callee:=.value (.func g),args:=ys,argTypes:=_ } => f == g && xsOk xs ys.toList | _ => false)
 | .sts p v n,op => op.dst == none && (match op.op with | .store t p' v' => tyStL P t n && xOk p p' && xOk v v' | _ => false)
theorem dstOk_spec {N d : Nat} (h : dstOk N d oper = true) : oper.dst = some d ∧ d < N ∧ d < 1000 := by
 simp only [dstOk,Bool.and_eq_true,beq_iff_eq,decide_eq_true_eq] at h
 exact ⟨h.1.1,h.1.2,h.2⟩
theorem wpI_goi {i : I} (hG : Gam lo Xb par ow s a.tmps w) (hpar : ∀ z, 1000 ≤ z → par z = none) (hc : chkI P a.tmps.size i oper = true) (hk : wpI P i K s) : GoI P lo Xb par a w K oper := by
 cases i with
 | v d o xs =>
  simp only [chkI,Bool.and_eq_true] at hc
  obtain ⟨h1,h2,h3⟩:=dstOk_spec hc.1
  rw [wpI_v] at hk
  intro next Q N
  refine stepK_goes hG hc.2 hk next Q fun v u w' hv hg hG' hn hr => ?_
  rw [h1,put_some]
  exact N _ _ w' _ hv hg.any (hG'.put h3 h2 hn (hr d)) (by simp) rfl
 | mkn d =>
  simp only [chkI,Bool.and_eq_true] at hc
  obtain ⟨h1,h2,h3⟩:=dstOk_spec hc.1
  refine mkn_goi hG h1 h3 h2 ?_ hk
  have hc:=hc.2
  unfold mknChk at hc
  split at hc
  ·rename_i h; exact .inl h
  ·rename_i h; exact .inr h
  ·cases hc
 | tk d x =>
  simp only [chkI,Bool.and_eq_true] at hc
  obtain ⟨h1,h2,h3⟩:=dstOk_spec hc.1
  exact tk_goi hG hpar h1 h3 h2 hc.2 hk
 | st p v =>
  simp only [chkI,Bool.and_eq_true,beq_iff_eq] at hc
  obtain ⟨h1,hc⟩:=hc
  split at hc
  ·rename_i t p' v' hop
   simp only [Bool.and_eq_true] at hc
   exact st_goi hG h1 hop hc.1.1 hc.1.2 hc.2 hk
  ·cases hc
 | app d x e k =>
  simp only [chkI,Bool.and_eq_true] at hc
  obtain ⟨h1,h2,h3⟩:=dstOk_spec hc.1
  exact app_goi hG h1 h3 h2 hc.2 hk
 | box d x =>
  simp only [chkI,Bool.and_eq_true] at hc
  obtain ⟨h1,h2,h3⟩:=dstOk_spec hc.1
  have hc:=hc.2
  split at hc
  ·rename_i e x' hop
   by_cases hl : ∃ y n ts, s.look x = .ag y n ts
   ·obtain ⟨y,n,ts,hl⟩:=hl
    exact box_ag_goi hG h1 h3 h2 hop hc hl hk
   ·exact box_goi hG h1 h3 h2 hop hc (fun y n ts e => hl ⟨y,n,ts,e⟩) hk
  ·cases hc
 | new d zs =>
  simp only [chkI,Bool.and_eq_true] at hc
  obtain ⟨h1,h2,h3⟩:=dstOk_spec hc.1
  exact new_goi hG h1 h3 h2 hc.2 hk
 | lit d ps k =>
  simp only [chkI,Bool.and_eq_true] at hc
  obtain ⟨h1,h2,h3⟩:=dstOk_spec hc.1
  exact goesI_lit hG h1 h3 h2 hc.2 hk
 | mk d z l c =>
  simp only [chkI,Bool.and_eq_true] at hc
  obtain ⟨h1,h2,h3⟩:=dstOk_spec hc.1
  have hc:=hc.2
  split at hc
  ·rename_i t l' c' hop
   simp only [Bool.and_eq_true] at hc
   exact mk_goi hG h1 h3 h2 hop hc.1.1 hc.1.2 hc.2 hk
  ·cases hc
 | co d f xs =>
  simp only [chkI,Bool.and_eq_true] at hc
  obtain ⟨h1,h2,h3⟩:=dstOk_spec hc.1
  have hc:=hc.2
  split at hc
  ·rename_i g ys ts hop
   simp only [Bool.and_eq_true,beq_iff_eq] at hc
   obtain ⟨rfl,c1⟩:=hc
   rw [wpI_co] at hk
   obtain ⟨R,k1,k2⟩:=hk
   have hres:=xsOk_res hG c1
   rw [List.map_map] at hres
   refine co_goi hG h1 h3 h2 ?_ k1 hres k2
   simp [execOp,hop,resolve,Act.eval,Deferred.ofValue,invoke]
   rw [mapArr]
  ·cases hc
 | coC d xs =>
  simp only [chkI,Bool.and_eq_true] at hc
  obtain ⟨h1,h2,h3⟩:=dstOk_spec hc.1
  have hc:=hc.2
  split at hc
  ·rename_i x xs0 y ys ts hop _
   simp only [Bool.and_eq_true] at hc
   have hx:=xOk_sound hG hc.1
   have hres:=xsOk_res hG hc.2
   rw [wpI_coC] at hk
   simp only [List.map_cons] at hk
   have run : ∀ (f : FuncId) (cs : List Value), a.eval y = .func (.func f) #[] cs.toArray → (execOp a.eval oper).run P w = (callFunc f ((ys.toList.map a.eval) ++ cs).toArray).run P w := by
    intro f cs e
    simp [execOp,hop,resolve,Deferred.ofValue,invoke,e]
    rw [mapArr]
    simp
   generalize s.look x = wx at hx hk
   cases wx with
   | t g r =>
    cases r with
    | c f ts' =>
     rw [coCK_t] at hk
     obtain ⟨R,k1,k2⟩:=hk
     simp only [RepW,Fz] at hx
     obtain ⟨cs,e,hcs⟩:=hx
     exact co_goi hG h1 h3 h2 (run f cs e) k1 (hres.app (hcs.mono fun _ _ => trivial)) k2
    | _ => exact hk.elim
   | clo f cp ts' =>
    rw [coCK_c] at hk
    obtain ⟨R,k1,k2⟩:=hk
    obtain ⟨_,cs,e,hcs⟩:=hx
    exact co_goi hG h1 h3 h2 (run f cs e) k1 (hres.app hcs) k2
   | _ => exact hk.elim
  ·cases hc
 | cox d f xs i =>
  simp only [chkI,Bool.and_eq_true] at hc
  obtain ⟨hdd,hc⟩:=hc
  have hd : oper.dst = d ∧ ∀ k, d = some k → k < 1000 ∧ k < a.tmps.size := by
   cases d with
   | none => exact ⟨by simpa using hdd,fun k e => by cases e⟩
   | some k =>
    obtain ⟨h1,h2,h3⟩:=dstOk_spec hdd
    exact ⟨h1,fun k' e => by cases e; exact ⟨h3,h2⟩⟩
  split at hc
  ·rename_i g ys ts hop
   simp only [Bool.and_eq_true,beq_iff_eq] at hc
   obtain ⟨rfl,c1⟩:=hc
   rw [wpI_cox] at hk
   obtain ⟨l1,l2⟩:=xsOk_sound hG c1
   have run : (execOp a.eval oper).run P w = (callFunc f (ys.toList.map a.eval).toArray).run P w := by
    simp [execOp,hop,resolve,Act.eval,Deferred.ofValue,invoke]
    rw [mapArr]
   have hres:=xsOk_res hG c1
   have hlen:(ys.toList.map a.eval).length = ((xs.map s.look).map W.res).length:=by rw [hres.length]
   have vals : ∀ {y : Nat}, (∃ m nl cs, s.get y = .own m nl cs) → s.offL y i (xs.map s.look) = true → ∀ (j : Nat) (tj : T) (vj : Value), j ≠ i → ((xs.map s.look).map W.res)[j]? = some tj → (ys.toList.map a.eval)[j]? = some vj → Fz (offY ow y) w tj vj := by
    intro y hy hoff j tj vj hj h1 h2
    rw [List.getElem?_map] at h1
    cases e:(xs.map s.look)[j]? with
    | none => rw [e] at h1; cases h1
    | some x =>
     rw [e] at h1
     simp only [Option.map_some,Option.some.injEq] at h1
     subst h1
     refine RepW.off hG hy (fun f cp ts hx => ?_) (offL_get hoff hj e) (l2 j x vj e h2)
     rw [List.getElem?_map] at e
     cases e':xs[j]? with
     | none => rw [e'] at e; cases e
     | some X0 => rw [e'] at e; simp only [Option.map_some,Option.some.injEq] at e; rw [hx] at e; exact look_clo e
   cases hwi:(xs.map s.look)[i]? with
   | none => rw [hwi] at hk; exact hk.elim
   | some wx =>
    rw [hwi] at hk
    have hil:i < (ys.toList.map a.eval).length:=by rw [← l1]; exact (List.getElem?_eq_some_iff.1 hwi).1
    have hvi:(ys.toList.map a.eval)[i]? = some ((ys.toList.map a.eval)[i]):=List.getElem?_eq_getElem hil
    have hR:=l2 i wx _ hwi hvi
    have hti:((xs.map s.look).map W.res)[i]? = some wx.res:=by rw [List.getElem?_map,hwi]; rfl
    cases wx with
    | own y m nl cs =>
     rw [coxK_own] at hk
     obtain ⟨hoff,hm,t,nl',cs',hcx,hm',hk⟩:=hk
     obtain ⟨f1,f2,f3,f4⟩:=hR
     exact coxOwn_goi hG hd.1 hd.2 run hcx hlen hti hvi (vals ⟨m,nl,cs,f1⟩ hoff) hm hm' f2 f3 f4 hk
    | er y j m nl cs =>
     rw [coxK_er] at hk
     obtain ⟨hoff,hm,hj,hrow,t,nl',cs',hcx,hsc,hk⟩:=hk
     obtain ⟨f1,f2,b,len,cap,f3,f4,f5⟩:=hR
     exact coxRow_goi hG hd.1 hd.2 run hcx hlen hti hvi (vals ⟨m,nl,cs,f1⟩ hoff) hm hj hrow hsc f1 f2 f3 f4 f5 hk
    | _ => exact hk.elim
  ·cases hc
 | coc d f xs is =>
  simp only [chkI,Bool.and_eq_true] at hc
  obtain ⟨h1,h2,h3⟩:=dstOk_spec hc.1
  have hc:=hc.2
  split at hc
  ·rename_i g ys ts hop
   simp only [Bool.and_eq_true,beq_iff_eq] at hc
   obtain ⟨rfl,c1⟩:=hc
   rw [wpI_coc] at hk
   obtain ⟨l1,l2⟩:=xsOk_sound hG c1
   have run : (execOp a.eval oper).run P w = (callFunc f (ys.toList.map a.eval).toArray).run P w := by
    simp [execOp,hop,resolve,Act.eval,Deferred.ofValue,invoke]
    rw [mapArr]
   refine coc_goi hG h1 h3 h2 run l1.symm (fun j x v h1 h2 => l2 j x v h1 h2) (fun j f cp ts e => ?_) hk
   rw [List.getElem?_map] at e
   cases e':xs[j]? with
   | none => rw [e'] at e; cases e
   | some X0 => rw [e'] at e; simp only [Option.map_some,Option.some.injEq] at e; exact look_clo e
  ·cases hc
 | cut d x h =>
  simp only [chkI,Bool.and_eq_true] at hc
  obtain ⟨h1,h2,h3⟩:=dstOk_spec hc.1
  have hc:=hc.2
  split at hc
  ·rename_i t x' h' hop
   simp only [Bool.and_eq_true] at hc
   exact cut_goi hG hpar h1 h3 h2 hop hc.1.1 hc.1.2 hc.2 hk
  ·cases hc
 | cpy d p q =>
  simp only [chkI,Bool.and_eq_true] at hc
  obtain ⟨h1,h2,h3⟩:=dstOk_spec hc.1
  have hc:=hc.2
  split at hc
  ·rename_i ys ts hop
   split at hc
   ·rename_i y1 y2 t tr hys hts
    simp only [Bool.and_eq_true] at hc
    exact cpy_goi hG h1 h3 h2 hop hys hts hc.1.1 hc.1.2 hc.2 hk
   ·cases hc
  ·cases hc
 | clr p z =>
  simp only [chkI,Bool.and_eq_true,beq_iff_eq] at hc
  obtain ⟨h1,hc⟩:=hc
  split at hc
  ·rename_i ys ts hop
   split at hc
   ·rename_i y1 t hys hts
    simp only [Bool.and_eq_true] at hc
    exact clr_goi hG h1 hop hys hts hc.1 hc.2 hk
   ·cases hc
  ·cases hc
 | apz d x n z =>
  simp only [chkI,Bool.and_eq_true] at hc
  obtain ⟨h1,h2,h3⟩:=dstOk_spec hc.1
  have hc:=hc.2
  split at hc
  ·rename_i ys ts hop
   split at hc
   ·rename_i y1 y2 t ti hys hts
    simp only [Bool.and_eq_true] at hc
    exact apz_goi hG h1 h3 h2 hop hys hts hc.1.1.1 hc.1.1.2 hc.1.2 hc.2 hk
   ·cases hc
  ·cases hc
 | con d f xs =>
  simp only [chkI,Bool.and_eq_true] at hc
  obtain ⟨h1,h2,h3⟩:=dstOk_spec hc.1
  have hc:=hc.2
  split at hc
  ·rename_i g ys ts hop
   simp only [Bool.and_eq_true,beq_iff_eq] at hc
   obtain ⟨rfl,c1⟩:=hc
   rw [wpI_con] at hk
   obtain ⟨l1,l2⟩:=xsOk_sound hG c1
   have run : (execOp a.eval oper).run P w = (callFunc f (ys.toList.map a.eval).toArray).run P w := by
    simp [execOp,hop,resolve,Act.eval,Deferred.ofValue,invoke]
    rw [mapArr]
   obtain ⟨k1,cs',k2,k3,k4,k5⟩:=hk
   exact con_goi hG h1 h3 h2 run l1.symm (fun j x v h1 h2 => l2 j x v h1 h2) k1 k2 k3 k4 k5
  ·cases hc
 | cop d f xs i =>
  simp only [chkI,Bool.and_eq_true] at hc
  obtain ⟨h1,h2,h3⟩:=dstOk_spec hc.1
  have hc:=hc.2
  split at hc
  ·rename_i g ys ts hop
   simp only [Bool.and_eq_true,beq_iff_eq] at hc
   obtain ⟨rfl,c1⟩:=hc
   rw [wpI_cop] at hk
   obtain ⟨l1,l2⟩:=xsOk_sound hG c1
   have run : (execOp a.eval oper).run P w = (callFunc f (ys.toList.map a.eval).toArray).run P w := by
    simp [execOp,hop,resolve,Act.eval,Deferred.ofValue,invoke]
    rw [mapArr]
   have hlen:(ys.toList.map a.eval).length = ((xs.map s.look).map W.res).length:=by rw [(xsOk_res hG c1).length]
   cases hwi:(xs.map s.look)[i]? with
   | none => rw [hwi] at hk; exact hk.elim
   | some wx =>
    rw [hwi] at hk
    cases wx with
    | pc z v us =>
     rw [copK_pc] at hk
     obtain ⟨k1,k2,k3,k4,k5,cs',R,k6,k7,k8⟩:=hk
     have hiv : ∃ u, (ys.toList.map a.eval)[i]? = some u := by
      have : i < (ys.toList.map a.eval).length := by
       rw [hlen,List.length_map]; exact (List.getElem?_eq_some_iff.1 hwi).1
      exact ⟨_,List.getElem?_eq_getElem this⟩
     obtain ⟨u,hu⟩:=hiv
     obtain ⟨n,b,arr,ty,r1,r2,r3,r4,r5,_,_,r8,_⟩:=l2 i _ u hwi hu
     have hcells : ∃ m, s.get (z % 1000) = .bx m ∧ us = s.cells (z % 1000) 1 0 m := by
      have:=hwi
      rw [List.getElem?_map] at this
      cases hxi:xs[i]? with
      | none => rw [hxi] at this; cases this
      | some x =>
       rw [hxi] at this
       exact look_pc (Option.some.inj this)
     obtain ⟨m,e1,rfl⟩:=hcells
     rw [r1] at e1
     have e1:n = m:=by simpa using e1
     subst e1
     rw [cells_len] at k3 k4
     rw [k1,Nat.sub_self] at r8
     subst r8
     have k2:d ≠ z % 1000:=by simpa using k2
     have hti : ((xs.map s.look).map W.res)[i]? = some (.q (s.cells (z % 1000) 1 0 n) 0) := by
      rw [List.getElem?_map,hwi]; simp [W.res,k1]
     refine cop_goi hG h1 h3 h2 run k6 hlen hti hu (Nat.mod_lt _ (by omega)) r1 (by rw [nmv_slot (Nat.mod_lt _ (by omega))] at r2; simpa using r2) r3 r4 r5 k3 k2 k4 (fun j tj vj hj h1 h2 => ?_) k7 k8
     rw [List.getElem?_map] at h1
     cases e:(xs.map s.look)[j]? with
     | none => rw [e] at h1; cases h1
     | some x =>
      rw [e] at h1
      simp only [Option.map_some,Option.some.injEq] at h1
      subst h1
      obtain ⟨g,r,rfl,hs⟩:=scalI_get k5 hj e
      have:=l2 j _ vj e h2
      exact ⟨hs,Fz.mono (fun _ _ => trivial) this⟩
    | _ => exact hk.elim
  ·cases hc
 | frz y => simp [chkI] at hc
 | onl y => simp [chkI] at hc
 | tkr y => simp [chkI] at hc
 | sts p v n =>
  simp only [chkI,Bool.and_eq_true,beq_iff_eq] at hc
  obtain ⟨h1,hc⟩:=hc
  split at hc
  ·rename_i t p' v' hop
   simp only [Bool.and_eq_true] at hc
   exact sts_goi hG h1 hop hc.1.1 hc.1.2 hc.2 hk
  ·cases hc
 | coa d f xs i =>
  simp only [chkI,Bool.and_eq_true] at hc
  obtain ⟨hdd,hc⟩:=hc
  have hd : oper.dst = d ∧ ∀ k, d = some k → k < 1000 ∧ k < a.tmps.size := by
   cases d with
   | none => exact ⟨by simpa using hdd,fun k e => by cases e⟩
   | some k =>
    obtain ⟨h1,h2,h3⟩:=dstOk_spec hdd
    exact ⟨h1,fun k' e => by cases e; exact ⟨h3,h2⟩⟩
  split at hc
  ·rename_i g ys ts hop
   simp only [Bool.and_eq_true,beq_iff_eq] at hc
   obtain ⟨rfl,c1⟩:=hc
   rw [wpI_coa] at hk
   obtain ⟨l1,l2⟩:=xsOk_sound hG c1
   have run : (execOp a.eval oper).run P w = (callFunc f (ys.toList.map a.eval).toArray).run P w := by
    simp [execOp,hop,resolve,Act.eval,Deferred.ofValue,invoke]
    rw [mapArr]
   have hres:=xsOk_res hG c1
   have hlen:(ys.toList.map a.eval).length = ((xs.map s.look).map W.res).length:=by rw [hres.length]
   cases hwi:(xs.map s.look)[i]? with
   | none => rw [hwi] at hk; exact hk.elim
   | some wx =>
    rw [hwi] at hk
    cases wx with
    | bv z n us =>
     rw [coaK_bv] at hk
     obtain ⟨k1,k2,k3,k4,t,k5,k6⟩:=hk
     have hiv : ∃ u, (ys.toList.map a.eval)[i]? = some u := by
      have : i < (ys.toList.map a.eval).length := by
       rw [hlen,List.length_map]; exact (List.getElem?_eq_some_iff.1 hwi).1
      exact ⟨_,List.getElem?_eq_getElem this⟩
     obtain ⟨u,hu⟩:=hiv
     have hR:=l2 i _ u hwi hu
     obtain ⟨r1,r2,b,arr,ty,r3,r4,r5,r6,r7,r8⟩:=hR
     subst r7
     have hcells : us = s.cells z 1 0 n := by
      have:=hwi
      rw [List.getElem?_map] at this
      cases hxi:xs[i]? with
      | none => rw [hxi] at this; cases this
      | some x =>
       rw [hxi] at this
       exact look_bv (Option.some.inj this)
     subst hcells
     refine coa_goi hG hd.1 hd.2 run k5 hlen (by rw [List.getElem?_map,hwi]; rfl) k2 r1 r2 k3 r3 r4 r6 hu r8 (fun j tj vj hj h1 h2 => ?_) k4 k6
     rw [List.getElem?_map] at h1
     cases e:(xs.map s.look)[j]? with
     | none => rw [e] at h1; cases h1
     | some x =>
      rw [e] at h1
      simp only [Option.map_some,Option.some.injEq] at h1
      subst h1
      obtain ⟨g,r,rfl,hs⟩:=scalI_get k1 hj e
      have:=l2 j _ vj e h2
      exact Fz.scal hs this
    | _ => exact hk.elim
  ·cases hc
end
end Go.Vc
namespace Go.Vc
open Go
section
variable {P:Program} {N:Nat} {Xb:Nat → Prop} {par:Nat → Option Value} {w0:World} {a:Act} {w w':World} {s s':St} {K:St → Prop}
structure OkS (Xb : Nat → Prop) (par : Nat → Option Value) (N : Nat) (w0 : World) (a : Act) (w : World) (s : St) : Prop where
 gam:∃ ow,Gam w0.heap.size Xb par ow s a.tmps w
 size:a.tmps.size = N
 df:a.defers = []
 grow:Grow Xb w0 w
theorem Grow.step {lo : Nat} (h : Grow Xb w0 w) (hl : lo = w0.heap.size) (h' : Grow (fun k => lo ≤ k ∨ Xb k) w w') : Grow Xb w0 w' :=
 ⟨h'.os.trans h.os, h'.tape.trans h.tape, h'.output.trans h.output, Nat.le_trans h.size h'.size, fun k hk hx => (h'.block k (Nat.lt_of_lt_of_le hk h.size) (by
  rintro (h | h)
  ·omega
  ·exact hx h)).trans (h.block k hk hx),Nat.le_trans h.drawn h'.drawn⟩
theorem OkS.any {t : Nat} (h : OkS Xb par N w0 a w s) (u : Value) (ht : t < 1000) (hN : t < N) : OkS Xb par N w0 (a.put (some t) u) w ((t, .any) :: s) := by
 obtain ⟨ow,hG⟩:=h.gam
 exact ⟨⟨ow,hG.put ht (by rw [h.size]; exact hN) rfl (Rep.any t u)⟩,by rw [put_some]; simp [h.size],h.df,h.grow⟩
theorem set_self {tm : Array Value} {t : Nat} : tm.setIfInBounds t (tm.getD t undef) = tm := by
 apply Array.ext
 ·simp
 ·intro i h1 h2
  by_cases h : t = i
  ·subst h; simp [h2]
  ·rw [Array.getElem_setIfInBounds_ne _ h]
theorem OkS.guard {t : Nat} {g : G} {x : Bool} (h : OkS Xb par N w0 a w s) (ht : t < 1000) (hN : t < N) (hv : s.get t = .t g (.b x)) : a.tmps.getD t undef = .bool x ∧ OkS Xb par N w0 a w ((t, .b x) :: s) := by
 obtain ⟨ow,hG⟩:=h.gam
 obtain ⟨u,e,hr⟩:=hG.ent t (lv_iff.2 (.inl ht)) (by rw [hv]; rfl)
 rw [nmv_slot ht] at e
 have e:=Option.some.inj e
 rw [hv] at hr
 have hu:u = .bool x:=by simpa [Rep,Fz] using hr
 rw [hu] at e
 refine ⟨e,⟨ow,?_⟩,h.size,h.df,h.grow⟩
 have:=hG.put (v:=.b x) (u:=a.tmps.getD t undef) ht (by rw [h.size]; exact hN) rfl (by rw [e]; simp [Rep,Fz])
 rwa [set_self] at this
theorem OkS.un {t : Nat} (h : OkS Xb par N w0 a w s) (ht : t < 1000) (hN : t < N) : OkS Xb par N w0 (a.put (some t) undef) w ((t, .un) :: s) := by
 obtain ⟨ow,hG⟩:=h.gam
 exact ⟨⟨ow,hG.put ht (by rw [h.size]; exact hN) rfl (by simp only [Rep,Fz]; exact ⟨[],rfl,by simp [FzL]⟩)⟩,by rw [put_some]; simp [h.size],h.df,h.grow⟩
theorem OkS.guardU {t : Nat} {g : G} (h : OkS Xb par N w0 a w s) (ht : t < 1000) (hN : t < N) (hv : s.get t = .t g (.u [])) : a.tmps.getD t undef = undef ∧ OkS Xb par N w0 a w ((t, .un) :: s) := by
 obtain ⟨ow,hG⟩:=h.gam
 obtain ⟨u,e,hr⟩:=hG.ent t (lv_iff.2 (.inl ht)) (by rw [hv]; rfl)
 rw [nmv_slot ht] at e
 have e:=Option.some.inj e
 rw [hv] at hr
 simp only [Rep,Fz] at hr
 obtain ⟨xs,hu,hx⟩:=hr
 simp only [FzL] at hx
 subst hx
 rw [hu] at e
 refine ⟨e,⟨ow,?_⟩,h.size,h.df,h.grow⟩
 have:=hG.put (v:=.un) (u:=a.tmps.getD t undef) ht (by rw [h.size]; exact hN) rfl (by rw [e]; simp only [Rep,Fz]; exact ⟨[],rfl,by simp [FzL]⟩)
 rwa [set_self] at this
def gdOk (N : Nat) (ops : Array Oper) : Gd → Option (Nat × Bool) → Bool
 | none,none => true
 | some (t,x),some (j,y) => x == y && decide (t < 1000) && decide (t < N) && (ops[j]?).bind (·.dst) == some t
 | _,_ => false
def chkL (P : Program) (N : Nat) (fz : Bool) (ops : Array Oper) : List (Gd × I) → List Oper → Bool
 | [],[] => true
 | (none,.frz _) :: r,os => fz && chkL P N fz ops r os
 | (none,.onl _) :: r,os => chkL P N fz ops r os
 | (none,.tkr _) :: r,os => chkL P N fz ops r os
 | (g,i) :: r,o :: os => gdOk N ops g o.guard && chkI P N i o && chkL P N fz ops r os
 | _,_ => false
theorem chkL_cons {fz : Bool} {ops : Array Oper} {g : Gd} {i : I} {r : List (Gd × I)} {os : List Oper} (h : chkL P N fz ops ((g, i) :: r) os = true) :
  (∃ y,g = none ∧ i = .frz y ∧ fz = true ∧ chkL P N fz ops r os = true) ∨ (∃ y,g = none ∧ i = .onl y ∧ chkL P N fz ops r os = true) ∨ (∃ y,g = none ∧ i = .tkr y ∧ chkL P N fz ops r os = true) ∨ ∃ o os',os = o :: os' ∧ gdOk N ops g o.guard = true ∧ chkI P N i o = true ∧ chkL P N fz ops r os' = true:=by
 unfold chkL at h
 split at h
 ·rename_i h1; cases h1
 ·rename_i y r' h1
  cases h1
  simp only [Bool.and_eq_true] at h
  exact .inl ⟨y,rfl,rfl,h.1,h.2⟩
 ·rename_i y r' h1
  cases h1
  exact .inr (.inl ⟨y,rfl,rfl,h⟩)
 ·rename_i y r' h1
  cases h1
  exact .inr (.inr (.inl ⟨y,rfl,rfl,h⟩))
 ·rename_i h1
  cases h1
  rename_i o os' _ _ _
  simp only [Bool.and_eq_true] at h
  exact .inr (.inr (.inr ⟨o,os',rfl,h.1.1,h.1.2,h.2⟩))
 ·cases h
theorem wpL_list {ops : Array Oper} {fz : Bool} {Q : Exit → Act → World → Prop} (hpar : ∀ z, 1000 ≤ z → par z = none) (hfz : fz = true → ∀ b, ¬ Xb b) :
  ∀ (r : List (Gd × I)) (os : List Oper) (a : Act) (w : World) (s : St), chkL P N fz ops r os = true → OkS Xb par N w0 a w s → wpL P r K s →
   (∀ s' a' w',K s' → OkS Xb par N w0 a' w' s' → Q .normal a' w') → wpList P ops Q os a w
 | [], os, a, w, s, hc, hO, hk, hQ => by
  cases os with
  | nil => exact hQ s a w hk hO
  | cons o os => simp [chkL] at hc
 | (g, i) :: r, os, a, w, s, hc, hO, hk, hQ => by
  rcases chkL_cons hc with ⟨y, rfl, rfl, hf, hc'⟩ | ⟨y, rfl, rfl, hc'⟩ | ⟨y, rfl, rfl, hc'⟩ | ⟨o, os', rfl, hg, hi, hc'⟩
  ·obtain ⟨ow,hG⟩:=hO.gam
   obtain ⟨s',ow',h1,h2⟩:=frz_gam hG (hfz hf) hk
   exact wpL_list hpar hfz r os a w s' hc' ⟨⟨ow',h2⟩,hO.size,hO.df,hO.grow⟩ h1 hQ
  ·obtain ⟨ow,hG⟩:=hO.gam
   obtain ⟨s',ow',h1,h2⟩:=onl_gam hG hk
   exact wpL_list hpar hfz r os a w s' hc' ⟨⟨ow',h2⟩,hO.size,hO.df,hO.grow⟩ h1 hQ
  ·obtain ⟨ow,hG⟩:=hO.gam
   obtain ⟨s',ow',h1,h2⟩:=tkr_gam hG hk
   exact wpL_list hpar hfz r os a w s' hc' ⟨⟨ow',h2⟩,hO.size,hO.df,hO.grow⟩ h1 hQ
  ·have run : ∀ {s : St}, OkS Xb par N w0 a w s → wpI P i (wpL P r K) s → Region.wanted o (yielded ops a.tmps) = true → wpList P ops Q (o :: os') a w := by
    intro s hO hk hw
    simp only [wpList,hw,if_true]
    left
    obtain ⟨ow,hG⟩:=hO.gam
    refine wpI_goi hG hpar (by rw [hO.size]; exact hi) hk _ _ fun s' a' w' ow' hk' hgr hG' hsz hdf => ?_
    exact wpL_list hpar hfz r os' a' w' s' hc' ⟨⟨ow',hG'⟩,by rw [hsz]; exact hO.size,by rw [hdf]; exact hO.df,hO.grow.step rfl hgr⟩ hk' hQ
   have pass : ∀ {s1 : St}, OkS Xb par N w0 a w s1 → wpL P r K (skipI i s1) → Region.wanted o (yielded ops a.tmps) = false → wpList P ops Q (o :: os') a w := by
    intro s1 hO' hk2 hw
    simp only [wpList,hw]
    cases hd:i.dst with
    | none =>
     have hod : o.dst = none := by
      cases i <;> simp [I.dst] at hd
      ·simp only [chkI,Bool.and_eq_true,beq_iff_eq] at hi; exact hi.1
      ·subst hd; simp only [chkI,Bool.and_eq_true] at hi; simpa using hi.1
      ·simp only [chkI,Bool.and_eq_true,beq_iff_eq] at hi; exact hi.1
      ·simp [chkI] at hi
      ·simp [chkI] at hi
      ·simp [chkI] at hi
      ·simp only [chkI,Bool.and_eq_true,beq_iff_eq] at hi; exact hi.1
      ·subst hd; simp only [chkI,Bool.and_eq_true] at hi; simpa using hi.1
     rw [hod]
     have:skipI i s1 = s1:=by unfold skipI; rw [hd]
     rw [this] at hk2
     exact wpL_list hpar hfz r os' a w _ hc' hO' hk2 hQ
    | some d =>
     have hod : o.dst = some d ∧ d < N ∧ d < 1000 := by
      cases i <;> simp [I.dst] at hd <;> subst hd <;> simp only [chkI,Bool.and_eq_true] at hi <;> exact dstOk_spec hi.1
     rw [hod.1]
     have:skipI i s1 = (d,.un) :: s1:=by unfold skipI; rw [hd]
     rw [this] at hk2
     exact wpL_list hpar hfz r os' _ w _ hc' (hO'.un hod.2.2 hod.2.1) hk2 hQ
   cases g with
   | none =>
    have hgn : o.guard = none := by
     unfold gdOk at hg; split at hg
     ·rename_i h; exact h
     ·rename_i h _; cases h
     ·cases hg
    exact run hO hk (by simp [Region.wanted,hgn])
   | some g =>
    obtain ⟨t,x⟩:=g
    unfold gdOk at hg
    split at hg
    ·rename_i h _; cases h
    case h_3 => cases hg
    rename_i t' x' j y h1 hgd
    cases h1
    simp only [Bool.and_eq_true,beq_iff_eq,decide_eq_true_eq] at hg
    obtain ⟨⟨⟨rfl,ht⟩,hN⟩,hj⟩:=hg
    simp only [wpL] at hk
    have hlt:t < a.tmps.size:=by rw [hO.size]; exact hN
    cases hv:s.get t with
    | t g r' =>
     cases g <;> try (cases r' <;> (rw [hv] at hk; exact hk.elim))
     cases r' with
     | b z =>
      rw [hv] at hk
      obtain ⟨k1,k2⟩:=hk
      obtain ⟨e,hO'⟩:=hO.guard ht hN hv
      have hy : yielded ops a.tmps j = some z := by
       unfold yielded
       rw [hj]
       have : a.tmps[t]? = some (.bool z) := by
        rw [Array.getElem?_eq_getElem hlt]; simpa [hlt] using e
       simp only [Option.bind_some,this]
      by_cases hz : z = x
      ·subst hz
       exact run hO' (k1 rfl) (by simp [Region.wanted,hgd,hy])
      ·have hz':z = !x:=by cases z <;> cases x <;> simp_all
       subst hz'
       exact pass hO' (k2 rfl) (by simp [Region.wanted,hgd,hy])
     | u vs =>
      cases vs with
      | cons _ _ => rw [hv] at hk; exact hk.elim
      | nil =>
       rw [hv] at hk
       obtain ⟨e,hO'⟩:=hO.guardU ht hN hv
       have hy : yielded ops a.tmps j = none := by
        unfold yielded
        rw [hj]
        have : a.tmps[t]? = some undef := by
         rw [Array.getElem?_eq_getElem hlt]; simpa [hlt] using e
        simp only [Option.bind_some,this,undef]
       exact pass hO' hk (by simp [Region.wanted,hgd,hy])
     | _ => rw [hv] at hk; exact hk.elim
    | _ => rw [hv] at hk; exact hk.elim
end
end Go.Vc
namespace Go.Vc
open Go
section
variable {P:Program} {N:Nat} {Xb:Nat → Prop} {par:Nat → Option Value} {w0:World} {a:Act} {w w':World} {s s' s1 s2:St} {K:St → Prop} {κ:V → Prop}
theorem toV_noName (x:W):x.toV.isName = false:=by cases x <;> rfl
theorem mk_noName (g:G) (r:T):(V.mk g r).isName = false:=by cases r <;> rfl
theorem frV_noName (R : St) : (frV R).isName = false := by
 rw [frV_eq]; cases R.get 0 <;> first | exact mk_noName _ _ | rfl
theorem stepK_ex {o : O} {ws : List W} (h : stepK P o ws κ) : ∃ v, κ v ∧ v.isName = false ∧ stepK P o ws (· = v) := by
 have sub : ∀ {x : W} {l r : Int}, subK x l r κ → ∃ v, κ v ∧ v.isName = false ∧ subK x l r (· = v) := by
  intro x l r h
  cases x with
  | t g q => cases q <;> first | exact ⟨_,h.2,rfl,h.1,rfl⟩ | exact h.elim
  | own y m nl cs => exact ⟨_,h.2,rfl,h.1,rfl⟩
  | _ => exact h.elim
 have bin : ∀ {b : Bo} {x y : Int}, binK b x y κ → ∃ v, κ v ∧ v.isName = false ∧ binK b x y (· = v) := by
  intro b x y h
  cases b <;> simp only [binK] at h ⊢
  case quo => exact ⟨_,h.2.2,rfl,h.1,h.2.1,rfl⟩
  case shl => exact ⟨_,h.2.2.2,rfl,h.1,h.2.1,h.2.2.1,rfl⟩
  case shr => exact ⟨_,h.2.2,rfl,h.1,h.2.1,rfl⟩
  all_goals first | exact ⟨_,h.2,rfl,h.1,rfl⟩ | exact ⟨_,h,rfl,rfl⟩
 have ubin : ∀ {b : Bo} {k : IntKind} {x y : Int}, ubK b k x y κ → ∃ v, κ v ∧ v.isName = false ∧ ubK b k x y (· = v) := by
  intro b k x y h
  cases b <;> simp only [ubK] at h ⊢
  case shr => exact ⟨_,h.2.2,rfl,h.1,h.2.1,rfl⟩
  all_goals first | exact h.elim | exact ⟨_,h,rfl,rfl⟩
 have opt : ∀ {α : Type} {x : Option α} {f : α → V}, (optK x fun p => κ (f p)) → (∀ p, (f p).isName = false) → ∃ v, κ v ∧ v.isName = false ∧ optK x fun p => f p = v := by
  intro α x f h hf
  cases x with
  | none => exact h.elim
  | some p => exact ⟨_,h,hf p,rfl⟩
 have call : ∀ {f : FuncId} {ts : List T}, (CallK P f ts fun R => κ (frV R)) → ∃ v, κ v ∧ v.isName = false ∧ CallK P f ts fun R => frV R = v := by
  rintro f ts ⟨R,h1,h2⟩
  exact ⟨_,h2,frV_noName R,R,h1,rfl⟩
 have w:∀ {p:V → Prop},(∃ v,κ v ∧ v.isName = false ∧ p v) → ∃ v,κ v ∧ v.isName = false ∧ p v:=id
 have nk : ∀ {nl : Option Bool} {cs : List T} {f : Bool → V}, (nilK nl cs fun n => κ (f n)) → (∀ n, (f n).isName = false) → ∃ v, κ v ∧ v.isName = false ∧ nilK nl cs fun n => f n = v := by
  intro nl cs f h hf
  cases nl with
  | none => exact ⟨_,h.2,hf _,h.1,rfl⟩
  | some n => exact ⟨_,h,hf _,rfl⟩
 unfold stepK at h
 split at h
 case h_1 => exact ⟨_,h,(toV_noName _),rfl⟩
 case h_2 p x y => exact ⟨_,h,(by cases p <;> exact toV_noName _),rfl⟩
 case h_3 => exact w (bin h)
 case h_4 => exact ⟨_,h,rfl,rfl⟩
 case h_5 => exact ⟨_,h,rfl,rfl⟩
 case h_6 => exact w (nk h fun _ => rfl)
 case h_7 => exact w (nk h fun _ => rfl)
 case h_8 => exact w (nk h fun _ => rfl)
 case h_9 => exact w (nk h fun _ => rfl)
 case h_10 => exact ⟨_,h,rfl,rfl⟩
 case h_11 => exact ⟨_,h.2,rfl,h.1,rfl⟩
 case h_12 => exact ⟨_,h,rfl,rfl⟩
 case h_13 => exact ⟨_,h,rfl,rfl⟩
 case h_14 => exact ⟨_,h.2.2,rfl,h.1,h.2.1,rfl⟩
 case h_15 => exact ⟨_,h.2.2,rfl,h.1,h.2.1,rfl⟩
 case h_16 => exact ⟨_,h.2,(mk_noName _ _),h.1,rfl⟩
 case h_17 => exact ⟨_,h.2,(mk_noName _ _),h.1,rfl⟩
 case h_18 => exact ⟨_,h.2,h.1,h.1,rfl⟩
 case h_19 => exact ⟨_,h.2,rfl,h.1,rfl⟩
 case h_20 => exact ⟨_,h,rfl,rfl⟩
 case h_21 => exact ⟨_,h.2,rfl,h.1,rfl⟩
 case h_22 => exact ⟨_,h.2,(mk_noName _ _),h.1,rfl⟩
 case h_23 => exact w (sub h)
 case h_24 => exact w (sub h)
 case h_25 => exact w (sub h)
 case h_26 => exact w (sub h)
 case h_27 => have:=w (opt h fun _ => rfl); simp only [stepK_bld]; exact this
 case h_28 => have:=w (opt h fun _ => rfl); simp only [stepK_litF]; exact this
 case h_29 => exact w (opt h fun _ => rfl)
 case h_30 => have:=w (opt h fun _ => rfl); simp only [stepK_clo]; exact this
 case h_31 => exact ⟨_,h.2,(toV_noName _),h.1,rfl⟩
 case h_32 => have:=w (opt h fun _ => rfl); simp only [stepK_mn]; exact this
 case h_33 => have:=w (opt h fun _ => rfl); simp only [stepK_mx]; exact this
 case h_34 => have:=w (call h); simp only [stepK_call]; exact this
 case h_35 => exact w (call h)
 case h_36 => exact w (call h)
 case h_37 => exact ⟨_,h.2,(mk_noName _ _),h.1,rfl⟩
 case h_38 => exact ⟨_,h,rfl,rfl⟩
 case h_39 => exact ⟨_,h,rfl,rfl⟩
 case h_40 => exact ⟨_,h.2.2,rfl,h.1,h.2.1,rfl⟩
 case h_41 => exact ⟨_,h.2,rfl,h.1,rfl⟩
 case h_42 => exact ⟨_,h.2,rfl,h.1,rfl⟩
 case h_43 => exact ⟨_,h.2.2,rfl,h.1,h.2.1,rfl⟩
 case h_44 => exact ⟨_,h,rfl,rfl⟩
 case h_45 => exact ⟨_,h.2,rfl,h.1,rfl⟩
 case h_46 => obtain ⟨v,a,b,c⟩:=ubin h.2; exact ⟨v,a,b,h.1,c⟩
 case h_47 =>
  obtain ⟨R,h1,h2⟩:=h
  cases hv:R.get 0 with
  | own m nl cs =>
   rw [hv,foK_o] at h2
   exact ⟨_,h2.2.2,rfl,R,h1,by show foK _ _ (R.get 0) _ _; rw [hv,foK_o]; exact ⟨h2.1,h2.2.1,rfl⟩⟩
  | tp n =>
   cases hv1:R.get 100000 with
   | own m nl cs =>
    cases hv2:R.get 101000 with
    | t g t =>
     rw [hv,hv1,hv2,foK_tp] at h2
     exact ⟨_,h2.2.2.2.2,rfl,R,h1,by show foK _ _ (R.get 0) (R.get 100000) (R.get 101000); rw [hv,hv1,hv2,foK_tp]; exact ⟨h2.1,h2.2.1,h2.2.2.1,h2.2.2.2.1,rfl⟩⟩
    | _ => rw [hv,hv1,hv2] at h2; exact h2.elim
   | _ => rw [hv,hv1] at h2; exact h2.elim
  | _ => rw [hv] at h2; exact h2.elim
 case h_48 => exact ⟨_,h.2.2.2.2,rfl,h.1,h.2.1,h.2.2.1,h.2.2.2.1,rfl⟩
 case h_49 k z t nl cs =>
  match k,h with
  | 0,h => exact ⟨_,h.2,rfl,h.1,rfl⟩
  | 1,h => exact ⟨_,h.2,rfl,h.1,rfl⟩
  | _ + 2,h => exact h.elim
 case h_50 => exact w (opt h fun _ => rfl)
 case h_51 => exact ⟨_,h,rfl,rfl⟩
 case h_52 => exact ⟨_,h,rfl,rfl⟩
 case h_53 => exact ⟨_,h.2.2.2,rfl,h.1,h.2.1,h.2.2.1,rfl⟩
 case h_54 => exact ⟨_,h.2.2.2,rfl,h.1,h.2.1,h.2.2.1,rfl⟩
 case h_55 => exact ⟨_,h,rfl,rfl⟩
 case h_56 => exact ⟨_,h.2.2,rfl,h.1,h.2.1,rfl⟩
 case h_57 => exact ⟨_,h.2,rfl,h.1,rfl⟩
 case h_58 => exact ⟨_,h.2.2.2.2,rfl,h.1,h.2.1,h.2.2.1,h.2.2.2.1,rfl⟩
 case h_59 y j m nl cs g n =>
  obtain ⟨h1,h2,h3⟩:=h
  cases hq:cs.getD j .any with
  | s nl' row =>
   rw [hq,erI_s] at h3
   exact ⟨_,h3.2.2,rfl,h1,h2,by rw [hq,erI_s]; exact ⟨h3.1,h3.2.1,rfl⟩⟩
  | _ => rw [hq] at h3; exact h3.elim
 case h_60 => exact h.elim
end
end Go.Vc
