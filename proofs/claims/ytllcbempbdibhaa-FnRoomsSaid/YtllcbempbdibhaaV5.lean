/-
  Own work, laid by a program of the author's: what is walked in a plain frame is walked in a round; contracts of functions that are lent a box or make one. No condition.
-/
import Derived.Test.YtllcbempbdibhaaV4
import Derived.OrdersIn
import Derived.TacticsIn
import Derived.RangeFuncRecord
set_option linter.unusedSimpArgs false
set_option linter.unusedVariables false
namespace Go.Vc
open Go
def fw (ro:Option Nat):Fence:={ Fence.wide with round:=ro }
section
variable {P:Program} {ro:Option Nat} {nn:Nat} {ops:Array Oper} {ds:List Deferred} {a a0:Act} {w w':World} {next:Act → World → Prop} {Q:Exit → Act → World → Prop} {D:Nat → Bool}
theorem callsIn_fw {f:FuncId} {args:Array Value} {R:Ending → World → Prop} (h:Calls P f args w R):CallsIn (fw ro) nn P f args w R:=callsIn_wide.2 h
theorem calls_fw {f:FuncId} {args:Array Value} {R:Ending → World → Prop} (h:CallsIn (fw ro) nn P f args w R):Calls P f args w R:=callsIn_wide.1 (show CallsIn Fence.wide nn P f args w R from h)
theorem rowsIn_fw {row : String} {args : Array Value} {R : Value → World → Prop} (h : Rows P row args w R) : RowsIn (fw ro) nn P row args w R :=
 fun c cs _ => let ⟨v,w',r,s⟩:=h c cs; ⟨v,w',r,(show StepsIn (Machine.fenced P Fence.wide) P _ _ from stepsIn_wide.2 s)⟩
def Act.df (a:Act) (ds:List Deferred):Act:={ a with defers:=ds }
theorem df_eval (a:Act) (ds:List Deferred):(Act.df a ds).eval = a.eval:=by funext x; cases x <;> rfl
theorem df_put (a:Act) (ds:List Deferred) (d:Option Tmp) (v:Value):(Act.df a ds).put d v = Act.df (a.put d v) ds:=by cases d <;> rfl
def Agree (D:Nat → Bool) (a a':Act):Prop:=∀ d,D d = true → a'.tmps.getD d undef = a.tmps.getD d undef
theorem Agree.refl (a:Act):Agree D a a:=fun _ _ => rfl
theorem Agree.trans {a b c:Act} (h:Agree D a b) (k:Agree D b c):Agree D a c:=fun d hd => (k d hd).trans (h d hd)
theorem Agree.put {d : Option Tmp} {v : Value} (h : ∀ t, d = some t → D t = false) : Agree D a (a.put d v) := by
 intro t ht
 cases d with
 | none => rfl
 | some u =>
  have:u ≠ t:=fun e => by subst e; rw [h u rfl] at ht; cases ht
  simp [Act.put,Array.getD_eq_getD_getElem?,Array.getElem?_setIfInBounds_ne this]
def dstOf (D:Nat → Bool) (o:Oper):Bool:=match o.dst with | some d => !D d | none => true
theorem dstOf_spec {o : Oper} (h : dstOf D o = true) : ∀ t, o.dst = some t → D t = false := by
 intro t ht
 unfold dstOf at h; rw [ht] at h; simpa using h
theorem defer_no {o : Oper} {c : Call} (ho : o.op = .defer c) (hn : ∀ a w, next a w → a.defers = []) (hQ : ∀ e a w, Q e a w → e = .normal) (h : o.wp P a w next Q) : False := by
 unfold Oper.wp at h
 simp only [execOp,ho,Sem.run_bind] at h
 cases hr:(resolve a.eval c o.type).run P w with
 | ok d w1 =>
  rw [hr] at h
  simp only [Result.andThen,Sem.run_pure,Oper.upon] at h
  have:=hn _ _ h
  cases hd:o.dst <;> rw [hd] at this <;> simp [Act.put] at this
 | halt x w1 =>
  rw [hr] at h
  simp only [Result.andThen] at h
  cases x <;> simp only [Oper.upon] at h
  have:=hQ _ _ _ h; cases this
theorem oper_in {o : Oper} {Q' : Exit → Act → World → Prop} (hd : dstOf D o = true) (hn : ∀ a w, next a w → a.defers = []) (hQ : ∀ e a w, Q e a w → e = .normal) (h : o.wp P a w next Q) :
  o.wpIn (fw ro) nn P (Act.df a ds) w (fun a' w' => ∃ a1,a' = Act.df a1 ds ∧ next a1 w' ∧ Agree D a a1) Q':=by
 have hop:∀ c,o.op ≠ .defer c:=fun c ho => defer_no ho hn hQ h
 have hdf:=df_put a ds
 refine ⟨fun _ _ => trivial,?_⟩
 rw [Oper.semAt_eq _ _ _ hop,df_eval]
 unfold Oper.wp at h
 have hag:∀ {v:Value},Agree D a (a.put o.dst v):=fun {v} => Agree.put (dstOf_spec hd)
 generalize (execOp a.eval o).run P w = r at h
 have nop:∀ {ch:List PanicEntry} {a:Act} {w:World},¬ Q (.panic ch) a w:=fun h => by have:=hQ _ _ _ h; cases this
 have noo:¬ LetsOut Q:=fun ⟨a,w,h⟩ => by have:=hQ _ _ _ h; cases this
 cases r with
 | ok x w1 =>
  cases x <;> simp only [Oper.upon] at h <;> try exact h.elim
  ·rename_i v; simp only [Oper.uponIn]; exact ⟨_,hdf _ _,h,hag⟩
  ·simp only [Oper.uponIn]; exact ⟨_,hdf _ _,h,hag⟩
  ·simp only [Oper.uponIn]
   refine ⟨fun h => by simp [fw,Fence.wide] at h,CallsIn.mono (callsIn_fw h) fun e w2 he => ?_⟩
   cases e with
   | returned v => exact ⟨_,hdf _ _,he,hag⟩
   | panicked ch => exact absurd he nop
   | outgrown => exact absurd he noo
  ·have:=hn _ _ h
   exfalso
   cases hd:o.dst <;> rw [hd] at this <;> simp [Act.put] at this
  ·simp only [Oper.uponIn]
   exact ⟨fun h => by simp [fw,Fence.wide] at h,RowsIn.mono (rowsIn_fw h) fun v w2 he => ⟨_,hdf _ _,he,hag⟩⟩
 | halt x w1 =>
  cases x <;> simp only [Oper.upon] at h
  exact absurd h nop
theorem oper_df {o : Oper} (hn : ∀ a w, next a w → a.defers = []) (hQ : ∀ e a w, Q e a w → e = .normal) (h : o.wp P a w next Q) : a.defers = [] := by
 have hput:∀ {v:Value},(a.put o.dst v).defers = a.defers:=by intro v; cases o.dst <;> rfl
 have nop:∀ {ch:List PanicEntry} {a:Act} {w:World},¬ Q (.panic ch) a w:=fun h => by have:=hQ _ _ _ h; cases this
 have noo:¬ LetsOut Q:=fun ⟨a,w,h⟩ => by have:=hQ _ _ _ h; cases this
 unfold Oper.wp at h
 generalize (execOp a.eval o).run P w = r at h
 cases r with
 | ok x w1 =>
  cases x <;> simp only [Oper.upon] at h <;> try exact h.elim
  ·rw [← hput]; exact hn _ _ h
  ·rw [← hput]; exact hn _ _ h
  ·obtain ⟨e,w2,fr,hR,_⟩:=h []
   cases e with
   | returned v => rw [← hput]; exact hn _ _ hR
   | panicked ch => exact absurd hR nop
   | outgrown => exact absurd hR noo
  ·have:=hn _ _ h
   exfalso
   cases hd:o.dst <;> rw [hd] at this <;> simp [Act.put] at this
  ·obtain ⟨v,w2,hR,_⟩:=h default []
   rw [← hput]; exact hn _ _ hR
 | halt x w1 =>
  cases x <;> simp only [Oper.upon] at h
  exact absurd h nop
theorem list_df (hQ : ∀ e a w, Q e a w → e = .normal ∧ a.defers = []) : ∀ (l : List Oper) (a : Act) (w : World), wpList P ops Q l a w → a.defers = []
 | [],a,w,h => (hQ _ _ _ h).2
 | o :: l, a, w, h => by
  unfold wpList at h
  split at h
  ·rcases h with h | ⟨_, a', w', h⟩
   ·exact oper_df (fun a w h => list_df hQ l a w h) (fun e a w h => (hQ e a w h).1) h
   ·have:=(hQ _ _ _ h).1; cases this
  ·have:=list_df hQ l _ w h
   cases hd:o.dst <;> rw [hd] at this <;> exact this
theorem list_in (hQ : ∀ e a w, Q e a w → e = .normal ∧ a.defers = []) : ∀ (l : List Oper) (a : Act) (w : World), (∀ o ∈ l, dstOf D o = true) → Agree D a0 a → wpList P ops Q l a w →
  wpListIn (fw ro) nn P ops (fun e a' w' => ∃ a1,a' = Act.df a1 ds ∧ Q e a1 w' ∧ Agree D a0 a1) l (Act.df a ds) w
 | [],a,w,_,hA,h => ⟨a,rfl,h,hA⟩
 | o :: l, a, w, hd, hA, h => by
  have hd':∀ o ∈ l,dstOf D o = true:=fun x hx => hd x (by simp [hx])
  unfold wpList at h
  unfold wpListIn
  by_cases hw : Region.wanted o (yielded ops a.tmps) = true
  ·rw [if_pos hw] at h
   rw [if_pos (show Region.wanted o (yielded ops (Act.df a ds).tmps) = true from hw)]
   rcases h with h | ⟨_, a', w', h⟩
   ·refine Oper.wpIn_mono (fun a' w' hh => ?_) (oper_in (ro:=ro) (nn:=nn) (ds:=ds) (D:=D) (hd o (by simp)) (fun a w h => list_df hQ l a w h) (fun e a w h => (hQ e a w h).1) h)
    obtain ⟨a1,rfl,h1,h2⟩:=hh
    exact list_in hQ l a1 w' hd' (hA.trans h2) h1
   ·have:=(hQ _ _ _ h).1; cases this
  ·rw [if_neg hw] at h
   rw [if_neg (show ¬ Region.wanted o (yielded ops (Act.df a ds).tmps) = true from hw)]
   refine ⟨fun _ _ => trivial,?_⟩
   rw [df_put]
   exact list_in hQ l _ w hd' (hA.trans (Agree.put (dstOf_spec (hd o (by simp))))) h
theorem wpOp_df {i : Nat} {K : Act → World → Prop} (hK : ∀ a w, K a w → a.defers = []) (hQ : ∀ e a w, Q e a w → e = .normal) (h : wpOp P ops Q i K a w) : a.defers = [] := by
 unfold wpOp at h
 split at h
 ·exact hK _ _ h
 ·rename_i o _
  split at h
  ·rcases h with h | ⟨_, a', w', h⟩
   ·exact oper_df hK hQ h
   ·have:=hQ _ _ _ h; cases this
  ·have:=hK _ _ h
   cases hd:o.dst <;> rw [hd] at this <;> exact this
theorem any_df (hQ : ∀ e a w, Q e a w → e = .normal ∧ a.defers = []) : ∀ (fuel : Nat) (listed : Array Bool) (a : Act) (w : World), wpAny P .any ops Q fuel listed a w → a.defers = []
 | 0,listed,a,w,h => (hQ _ _ _ h.2).2
 | fuel + 1, listed, a, w, h => by
  cases hr:Region.ready .any ops listed with
  | nil => exact (hQ _ _ _ (h.1 hr)).2
  | cons i is => exact wpOp_df (fun a w h => any_df hQ fuel _ a w h) (fun e a w h => (hQ e a w h).1) (h.2 i (by rw [hr]; simp))
theorem any_in (hQ : ∀ e a w, Q e a w → e = .normal ∧ a.defers = []) (hd : ∀ o ∈ ops.toList, dstOf D o = true) : ∀ (fuel : Nat) (listed : Array Bool) (a : Act) (w : World), Agree D a0 a → wpAny P .any ops Q fuel listed a w →
  wpAnyIn (fw ro) nn P .any ops (fun e a' w' => ∃ a1,a' = Act.df a1 ds ∧ Q e a1 w' ∧ Agree D a0 a1) fuel listed (Act.df a ds) w
 | 0,listed,a,w,hA,h => ⟨h.1,a,rfl,h.2,hA⟩
 | fuel + 1, listed, a, w, hA, h => by
  refine ⟨fun hr => ⟨a,rfl,h.1 hr,hA⟩,fun i hi => ?_⟩
  have h:=h.2 i hi
  unfold wpOp at h
  unfold wpOpIn
  cases ho:ops[i]? with
  | none => rw [ho] at h; exact any_in hQ hd fuel _ a w hA h
  | some o =>
   rw [ho] at h
   have hdo : dstOf D o = true := hd o (by
    obtain ⟨h1,h2⟩:=Array.getElem?_eq_some_iff.1 ho
    rw [← h2]; simp)
   simp only at h ⊢
   by_cases hw : Region.wanted o (yielded ops a.tmps) = true
   ·rw [if_pos hw] at h
    rw [if_pos (show Region.wanted o (yielded ops (Act.df a ds).tmps) = true from hw)]
    rcases h with h | ⟨_, a', w', h⟩
    ·refine Oper.wpIn_mono (fun a' w' hh => ?_) (oper_in (ro:=ro) (nn:=nn) (ds:=ds) (D:=D) hdo (fun a w h => any_df hQ fuel _ a w h) (fun e a w h => (hQ e a w h).1) h)
     obtain ⟨a1,rfl,h1,h2⟩:=hh
     exact any_in hQ hd fuel _ a1 w' (hA.trans h2) h1
    ·have:=(hQ _ _ _ h).1; cases this
   ·rw [if_neg hw] at h
    rw [if_neg (show ¬ Region.wanted o (yielded ops (Act.df a ds).tmps) = true from hw)]
    refine ⟨fun _ _ => trivial,?_⟩
    rw [df_put]
    exact any_in hQ hd fuel _ _ w (hA.trans (Agree.put (dstOf_spec hdo))) h
end
def dstB (D : Nat → Bool) : Code → Bool
 | .region _ ops _ => ops.toList.all (dstOf D)
 | .seq a b => dstB D a && dstB D b
 | .cond _ a b => dstB D a && dstB D b
 | .block _ c => dstB D c
 | .loop c => dstB D c
 | _ => true
section
variable {P:Program} {ro:Option Nat} {nn N:Nat} {Xb:Nat → Prop} {par:Nat → Option Value} {w0:World} {ds:List Deferred} {D:Nat → Bool} {a0:Act}
theorem wpC_in {fz : Bool} (hmo : P.follows .mixedOrders = true) (hpar : ∀ z, 1000 ≤ z → par z = none) (hfz : fz = true → ∀ b, ¬ Xb b) :
  ∀ (c : C) (code : Code) (Q : Ex → St → Prop) (R : Exit → Act → World → Prop) (a : Act) (w : World) (s : St), chk P N fz c code = true → dstB D code = true → OkS Xb par N w0 a w s → Agree D a0 a → wpC P c Q s →
   (∀ e s' a' w',Q e s' → OkS Xb par N w0 a' w' s' → Agree D a0 a' → R e.to (Act.df a' ds) w') → code.wpIn (fw ro) nn P R (Act.df a ds) w:=by
 intro c
 induction c with
 | no => intro code Q R a w s hc hd hO hA hk hR; exact hk.elim
 | skip =>
  intro code Q R a w s hc hd hO hA hk hR
  cases code <;> first | (simp [chk] at hc; done) | exact wpIn_skip (hR .n s a w hk hO hA)
 | rg n r =>
  intro code Q R a w s hc hd hO hA hk hR
  cases code <;> try (simp [chk] at hc; done)
  rename_i id ops draw
  obtain ⟨h1,h2⟩:=hk
  have hd':∀ o ∈ ops.toList,dstOf D o = true:=List.all_eq_true.1 hd
  let Qn:Exit → Act → World → Prop:=fun e a w => e = .normal ∧ a.defers = [] ∧ ∃ s',Q .n s' ∧ OkS Xb par N w0 a w s'
  have hQn:∀ e a w,Qn e a w → e = .normal ∧ a.defers = []:=fun e a w h => ⟨h.1,h.2.1⟩
  have fin : ∀ e a' w', (∃ a1, a' = Act.df a1 ds ∧ Qn e a1 w' ∧ Agree D a0 a1) → R e a' w' := by
   rintro e a' w' ⟨a1,rfl,⟨rfl,_,s',hq,ho⟩,hA'⟩
   exact hR .n s' a1 w' hq ho hA'
  cases draw with
  | true =>
   simp only [chk,cond_true] at hc
   have:=drawn_any (K:=Q .n) (Q:=Qn) hpar hfz (fun s' a' w' hk hO => ⟨rfl,hO.df,s',hk,hO⟩) hc hO h1 h2
   exact wpIn_mono (wpIn_region_any hmo (any_in (ro:=ro) (nn:=nn) (ds:=ds) hQn hd' _ _ a _ hA this)) fin
  | false =>
   simp only [chk,cond_false,Bool.and_eq_true] at hc
   have:=wpL_list (K:=Q .n) (Q:=Qn) hpar hfz r ops.toList a w s hc.2 hO h2 fun s' a' w' hk hO => ⟨rfl,hO.df,s',hk,hO⟩
   exact wpIn_mono (wpIn_region_list (list_in (ro:=ro) (nn:=nn) (ds:=ds) hQn _ a w hd' hA this)) fin
 | rgF n e F r =>
  intro code Q R a w s hc hd hO hA hk hR
  cases code <;> try (simp [chk] at hc; done)
  rename_i id ops draw
  obtain ⟨h0,h1,h2⟩:=hk
  simp only [chk,Bool.and_eq_true] at hc
  obtain ⟨⟨⟨c1,c2⟩,c3⟩,c4⟩:=hc
  subst c1
  have hd':∀ o ∈ ops.toList,dstOf D o = true:=List.all_eq_true.1 hd
  let Qn:Exit → Act → World → Prop:=fun e a w => e = .normal ∧ a.defers = [] ∧ ∃ s',Q .n s' ∧ OkS Xb par N w0 a w s'
  have hQn:∀ e a w,Qn e a w → e = .normal ∧ a.defers = []:=fun e a w h => ⟨h.1,h.2.1⟩
  have fin : ∀ e a' w', (∃ a1, a' = Act.df a1 ds ∧ Qn e a1 w' ∧ Agree D a0 a1) → R e a' w' := by
   rintro e a' w' ⟨a1,rfl,⟨rfl,_,s',hq,ho⟩,hA'⟩
   exact hR .n s' a1 w' hq ho hA'
  have:=flt_any (K:=Q .n) (Q:=Qn) hpar hfz (fun s' a' w' hk hO => ⟨rfl,hO.df,s',hk,hO⟩) c2 (fun f hf => of_decide_eq_true (List.all_eq_true.1 c3 f hf)) c4 hO h0 h1 h2
  exact wpIn_mono (wpIn_region_any hmo (any_in (ro:=ro) (nn:=nn) (ds:=ds) hQn hd' _ _ a _ hA this)) fin
 | rgE n k d e t =>
  intro code Q R a w s hc hd hO hA hk hR
  cases code <;> try (simp [chk] at hc; done)
  rename_i id ops draw
  obtain ⟨h1,h2⟩:=hk
  simp only [chk,Bool.and_eq_true] at hc
  obtain ⟨c1,c2⟩:=hc
  subst c1
  have hd':∀ o ∈ ops.toList,dstOf D o = true:=List.all_eq_true.1 hd
  let Qn:Exit → Act → World → Prop:=fun e a w => e = .normal ∧ a.defers = [] ∧ ∃ s',Q .n s' ∧ OkS Xb par N w0 a w s'
  have hQn:∀ e a w,Qn e a w → e = .normal ∧ a.defers = []:=fun e a w h => ⟨h.1,h.2.1⟩
  have fin : ∀ e a' w', (∃ a1, a' = Act.df a1 ds ∧ Qn e a1 w' ∧ Agree D a0 a1) → R e a' w' := by
   rintro e a' w' ⟨a1,rfl,⟨rfl,_,s',hq,ho⟩,hA'⟩
   exact hR .n s' a1 w' hq ho hA'
  have:=drawn_anyE (K:=Q .n) (Q:=Qn) hpar hfz (fun s' a' w' hk hO => ⟨rfl,hO.df,s',hk,hO⟩) c2 hO h1 h2
  exact wpIn_mono (wpIn_region_any hmo (any_in (ro:=ro) (nn:=nn) (ds:=ds) hQn hd' _ _ a _ hA this)) fin
 | rgC n k d e t =>
  intro code Q R a w s hc hd hO hA hk hR
  cases code <;> try (simp [chk] at hc; done)
  rename_i id ops draw
  obtain ⟨h1,h2⟩:=hk
  simp only [chk,Bool.and_eq_true] at hc
  obtain ⟨c1,c2⟩:=hc
  subst c1
  have hd':∀ o ∈ ops.toList,dstOf D o = true:=List.all_eq_true.1 hd
  let Qn:Exit → Act → World → Prop:=fun e a w => e = .normal ∧ a.defers = [] ∧ ∃ s',Q .n s' ∧ OkS Xb par N w0 a w s'
  have hQn:∀ e a w,Qn e a w → e = .normal ∧ a.defers = []:=fun e a w h => ⟨h.1,h.2.1⟩
  have fin : ∀ e a' w', (∃ a1, a' = Act.df a1 ds ∧ Qn e a1 w' ∧ Agree D a0 a1) → R e a' w' := by
   rintro e a' w' ⟨a1,rfl,⟨rfl,_,s',hq,ho⟩,hA'⟩
   exact hR .n s' a1 w' hq ho hA'
  have:=drawn_anyR (K:=Q .n) (Q:=Qn) hpar hfz (fun s' a' w' hk hO => ⟨rfl,hO.df,s',hk,hO⟩) c2 hO h1 h2
  exact wpIn_mono (wpIn_region_any hmo (any_in (ro:=ro) (nn:=nn) (ds:=ds) hQn hd' _ _ a _ hA this)) fin
 | rgH is es ls effs =>
  intro code Q R a w s hc hd hO hA hk hR
  cases code <;> try (simp [chk] at hc; done)
  rename_i id ops draw
  simp only [chk,Bool.and_eq_true] at hc
  obtain ⟨c1,c2⟩:=hc
  subst c1
  have hd':∀ o ∈ ops.toList,dstOf D o = true:=List.all_eq_true.1 hd
  let Qn:Exit → Act → World → Prop:=fun e a w => e = .normal ∧ a.defers = [] ∧ ∃ s',Q .n s' ∧ OkS Xb par N w0 a w s'
  have hQn:∀ e a w,Qn e a w → e = .normal ∧ a.defers = []:=fun e a w h => ⟨h.1,h.2.1⟩
  have fin : ∀ e a' w', (∃ a1, a' = Act.df a1 ds ∧ Qn e a1 w' ∧ Agree D a0 a1) → R e a' w' := by
   rintro e a' w' ⟨a1,rfl,⟨rfl,_,s',hq,ho⟩,hA'⟩
   exact hR .n s' a1 w' hq ho hA'
  have:=drawn_anyH (K:=Q .n) (Q:=Qn) hpar hfz (fun s' a' w' hk hO => ⟨rfl,hO.df,s',hk,hO⟩) (fun c a w h => by cases h.1) c2 hO (show wpL P ls (heldL P ls effs (Q .n)) s from hk)
  exact wpIn_mono (wpIn_region_any hmo (any_in (ro:=ro) (nn:=nn) (ds:=ds) hQn hd' _ _ a _ hA this)) fin
 | seq x y ih1 ih2 =>
  intro code Q R a w s hc hd hO hA hk hR
  cases code <;> try (simp [chk] at hc; done)
  rename_i cx cy
  simp only [chk,Bool.and_eq_true] at hc
  simp only [dstB,Bool.and_eq_true] at hd
  refine wpIn_seq (ih1 cx _ _ a w s hc.1 hd.1 hO hA hk fun e s' a' w' hq hO' hA' => ?_)
  cases e with
  | n => exact ih2 cy Q R a' w' s' hc.2 hd.2 hO' hA' hq hR
  | x j => exact hR (.x j) s' a' w' hq hO' hA'
  | r => exact hR .r s' a' w' hq hO' hA'
 | cond x c1 c2 ih1 ih2 =>
  intro code Q R a w s hc hd hO hA hk hR
  cases code <;> try (simp [chk] at hc; done)
  rename_i c' t e
  simp only [chk,Bool.and_eq_true] at hc
  simp only [dstB,Bool.and_eq_true] at hd
  obtain ⟨ow,hG⟩:=hO.gam
  have hx:=xOk_sound hG hc.1.1
  have hk:condK (wpC P c1 Q s) (wpC P c2 Q s) (s.look x):=hk
  generalize s.look x = wx at hx hk
  cases wx with
  | t g r =>
   cases r with
   | b p =>
    have hv:=repB hx
    have hv':(Act.df a ds).eval c' = .bool p:=by rw [df_eval]; exact hv
    obtain ⟨k1,k2⟩:=hk
    cases p with
    | true => exact wpIn_cond_true hv' (ih1 t Q R a w s hc.1.2 hd.1 hO hA (k1 rfl) hR)
    | false => exact wpIn_cond_false hv' (ih2 e Q R a w s hc.2 hd.2 hO hA (k2 rfl) hR)
   | _ => exact hk.elim
  | _ => exact hk.elim
 | block id b ih =>
  intro code Q R a w s hc hd hO hA hk hR
  cases code <;> try (simp [chk] at hc; done)
  rename_i id' c
  simp only [chk,Bool.and_eq_true,beq_iff_eq] at hc
  simp only [dstB] at hd
  obtain ⟨rfl,hc⟩:=hc
  refine wpIn_block (ih c _ _ a w s hc hd hO hA hk fun e s' a' w' hq hO' hA' => ?_)
  cases e with
  | n => exact hR .n s' a' w' hq hO' hA'
  | x j =>
   simp only [blockK] at hq
   simp only [Ex.to,Exit.inBlock]
   by_cases hj : j = id
   ·subst hj
    simp only [BEq.rfl,cond_true] at hq
    simp only [if_true]
    exact hR .n s' a' w' hq hO' hA'
   ·have:(j == id) = false:=by simpa using hj
    rw [this] at hq
    simp only [hj,if_false]
    exact hR (.x j) s' a' w' hq hO' hA'
  | r => exact hR .r s' a' w' hq hO' hA'
 | loop b ih =>
  intro code Q R a w s hc hd hO hA hk hR
  cases code <;> try (simp [chk] at hc; done)
  rename_i c
  simp only [chk] at hc
  simp only [dstB] at hd
  obtain ⟨ι,f,μ,⟨i0,h0⟩,hround⟩:=hk
  let O:Act → World → ι → Prop:=fun a w i => ∃ a1,a = Act.df a1 ds ∧ OkS Xb par N w0 a1 w (f i) ∧ Agree D a0 a1
  let J:Act → World → Nat → Prop:=fun a w n => ∃ i,μ i = n ∧ O a w i
  have least : ∀ a w, (∃ i, O a w i) → ∃ n, J a w n ∧ ∀ m, J a w m → n ≤ m := by
   rintro a w ⟨i,hi⟩
   have : ∀ n, (∃ k, k ≤ n ∧ J a w k) → ∃ n, J a w n ∧ ∀ m, J a w m → n ≤ m := by
    intro n
    induction n with
    | zero => rintro ⟨k,hk,hJ⟩; exact ⟨k,hJ,fun m _ => by omega⟩
    | succ n ihn =>
     rintro ⟨k,hk,hJ⟩
     by_cases h : ∃ k, k ≤ n ∧ J a w k
     ·exact ihn h
     ·exact ⟨k,hJ,fun m hm => Nat.le_of_not_lt fun hlt => h ⟨m,by omega,hm⟩⟩
   exact this (μ i) ⟨μ i,Nat.le_refl _,i,rfl,hi⟩
  open Classical in
  let ν:Act → World → Nat:=fun a w => if h:∃ i,O a w i then Classical.choose (least a w h) else 0
  refine wpIn_loop (fun a w => ∃ i,O a w i) ν ⟨i0,a,rfl,hO.le h0,hA⟩ fun a w hI => ?_
  have hν : J a w (ν a w) ∧ ∀ m, J a w m → ν a w ≤ m := by
   simp only [ν,dif_pos hI]; exact Classical.choose_spec (least a w hI)
  obtain ⟨⟨i,hi,a1,rfl,hOi,hAi⟩,_⟩:=hν
  refine ih c _ _ a1 w (f i) hc hd hOi hAi (hround i) fun e s' a' w' hq hO' hA' => ?_
  cases e with
  | n =>
   obtain ⟨j,hj,hle⟩:=hq
   have hOj:O (Act.df a' ds) w' j:=⟨a',rfl,hO'.le hle,hA'⟩
   have hI':∃ i,O (Act.df a' ds) w' i:=⟨j,hOj⟩
   refine ⟨hI',?_⟩
   have hν' : J (Act.df a' ds) w' (ν (Act.df a' ds) w') ∧ ∀ m, J (Act.df a' ds) w' m → ν (Act.df a' ds) w' ≤ m := by
    simp only [ν,dif_pos hI']; exact Classical.choose_spec (least _ w' hI')
   have:=hν'.2 (μ j) ⟨j,rfl,hOj⟩
   omega
  | x j => exact hR (.x j) s' a' w' hq hO' hA'
  | r => exact hR .r s' a' w' hq hO' hA'
 | exit id =>
  intro code Q R a w s hc hd hO hA hk hR
  cases code <;> try (simp [chk] at hc; done)
  rename_i id'
  simp only [chk,beq_iff_eq] at hc
  subst hc
  exact wpIn_exit (hR (.x id) s a w hk hO hA)
 | ret =>
  intro code Q R a w s hc hd hO hA hk hR
  cases code <;> first | (simp [chk] at hc; done) | exact wpIn_ret (hR .r s a w hk hO hA)
 | cl ks b ih =>
  intro code Q R a w s hc hd hO hA hk hR
  exact ih code Q R a w _ (by cases code <;> simpa [chk] using hc) hd (hO.le cl_le) hA hk hR
end
theorem df_nil {a:Act} (h:a.defers = []):Act.df a [] = a:=by cases a; simp only at h; subst h; rfl
end Go.Vc
namespace Go.Vc
open Go
def retNo (s : St) (cs' : List T) : W → Prop
 | .pc z _ ts => z / 1000 = 1 ∧ ts.length < 90 ∧ curC s (z % 1000) 0 ts.length ∧ T.leL ts cs'
 | _ => False
def RetN (r : Nat) (cs' : List T) : Ex → St → Prop
 | .x _,_ => False
 | _,s => retNo s cs' (s.look (.s r))
def boxO (s : St) (i : Nat) (cs' : List T) : V → Prop
 | .bx n => n = cs'.length ∧ curC s i 0 n ∧ T.leL (s.cells i 1 0 n) cs'
 | _ => False
def retVq : W → V → Prop
 | .t .fr t,.t .fr t' => V.le (.t .fr t) (.t .fr t')
 | .own _ m nl cs,.own m' nl' cs' => m < 2 ∧ m' < 2 ∧ V.le (.own m nl cs) (.own m' nl' cs')
 | _,_ => False
def RetP (i r : Nat) (cs' : List T) (v : V) : Ex → St → Prop
 | .x _,_ => False
 | _,s => retVq (s.look (.s r)) v ∧ boxO s i cs' (s.get i)
def RetPB (i z : Nat) (cs' : List T) (R : St) : Ex → St → Prop
 | .x _,_ => False
 | _,s => retB s z R ∧ boxO s i cs' (s.get i)
def argQC (n : Nat) : Bool → T → V
 | true,_ => .bx n
 | false,t => .mk .arg t
def argStQ (i n : Nat) : Nat → List T → St
 | _,[] => []
 | k,t :: ts => (k,argQC n (k == i) t) :: argStQ i n (k + 1) ts
section
variable {s s':St} {i r n:Nat} {cs cs':List T} {v v':V}
@[go_sem] theorem retNo_pc {z:Nat} {ts:List T}:retNo s cs' (.pc z v ts) = (z / 1000 = 1 ∧ ts.length < 90 ∧ curC s (z % 1000) 0 ts.length ∧ T.leL ts cs'):=_root_.id rfl
@[go_sem] theorem RetN_r:RetN r cs' .r s = retNo s cs' (s.look (.s r)):=_root_.id rfl
@[go_sem] theorem RetN_n:RetN r cs' .n s = retNo s cs' (s.look (.s r)):=_root_.id rfl
@[go_sem] theorem RetN_x {j:Nat}:RetN r cs' (.x j) s = False:=_root_.id rfl
@[go_sem] theorem boxO_b:boxO s i cs' (.bx n) = (n = cs'.length ∧ curC s i 0 n ∧ T.leL (s.cells i 1 0 n) cs'):=_root_.id rfl
@[go_sem] theorem retVq_t {t t':T}:retVq (.t .fr t) (.t .fr t') = V.le (.t .fr t) (.t .fr t'):=_root_.id rfl
@[go_sem] theorem retVq_o {y m m':Nat} {nl nl':Option Bool}:retVq (.own y m nl cs) (.own m' nl' cs') = (m < 2 ∧ m' < 2 ∧ V.le (.own m nl cs) (.own m' nl' cs')):=_root_.id rfl
@[go_sem] theorem RetP_r:RetP i r cs' v .r s = (retVq (s.look (.s r)) v ∧ boxO s i cs' (s.get i)):=_root_.id rfl
@[go_sem] theorem RetP_n:RetP i r cs' v .n s = (retVq (s.look (.s r)) v ∧ boxO s i cs' (s.get i)):=_root_.id rfl
@[go_sem] theorem RetP_x {j:Nat}:RetP i r cs' v (.x j) s = False:=_root_.id rfl
@[go_sem] theorem RetPB_r {z:Nat} {R:St}:RetPB i z cs' R .r s = (retB s z R ∧ boxO s i cs' (s.get i)):=_root_.id rfl
@[go_sem] theorem RetPB_n {z:Nat} {R:St}:RetPB i z cs' R .n s = (retB s z R ∧ boxO s i cs' (s.get i)):=_root_.id rfl
@[go_sem] theorem RetPB_x {j z:Nat} {R:St}:RetPB i z cs' R (.x j) s = False:=_root_.id rfl
@[congr] theorem RetPB_congr {z:Nat} {R:St} {e:Ex} (h:s = s'):RetPB i z cs' R e s = RetPB i z cs' R e s':=by rw [h]
@[go_sem] theorem argQC_t {t:T}:argQC n true t = .bx n:=_root_.id rfl
@[go_sem] theorem argQC_f {t:T}:argQC n false t = .mk .arg t:=_root_.id rfl
@[go_sem] theorem argStQ_n {k:Nat}:argStQ i n k [] = []:=_root_.id rfl
@[go_sem] theorem argStQ_c {k:Nat} {t:T} {ts:List T}:argStQ i n k (t :: ts) = (k,argQC n (k == i) t) :: argStQ i n (k + 1) ts:=_root_.id rfl
@[congr] theorem RetN_congr {e:Ex} (h:s = s'):RetN r cs' e s = RetN r cs' e s':=by rw [h]
@[congr] theorem RetP_congr {e:Ex} (h:s = s'):RetP i r cs' v e s = RetP i r cs' v e s':=by rw [h]
@[congr] theorem retNo_congr {w w':W} (h:s = s') (h1:w = w'):retNo s cs' w = retNo s' cs' w':=by rw [h,h1]
@[congr] theorem boxO_congr (h:s = s') (h1:v = v'):boxO s i cs' v = boxO s' i cs' v':=by rw [h,h1]
@[congr] theorem retVq_congr {w w':W} (h:w = w') (h1:v = v'):retVq w v = retVq w' v':=by rw [h,h1]
end
section
variable {P:Program} {lo:Nat} {Xb:Nat → Prop} {par:Nat → Option Value} {ow:Ow} {tm:Array Value} {w0 w:World} {s:St}
theorem callN_of {f : FuncId} {fn : Func} {code : Code} {c : C} {ts : List T} {r : Nat} {cs' : List T} (hf : P.funcs[f]? = some fn) (hb : fn.body = some code) (hmo : P.follows .mixedOrders = true)
  (hE:∀ args w,(callFunc f args).run P w = .ok (.enter f args) w) (hres:fn.results = #[ResultVar.tmp r]) (hc:chk P fn.ntmps true c code = true) (hts:ts.length ≤ fn.ntmps) (hts2:ts.length ≤ 1000) (hr:r < 1000)
  (hw:wpC P c (RetN r cs') (argSt 0 ts)):CallN P f ts cs':=by
 refine ⟨hE,fun w vs hv => ?_⟩
 refine calls_of_wp hf hb ?_
 have hvl:=hv.length
 have hO : OkS (fun _ => False) (fun _ => none) fn.ntmps w { tmps := vs.toArray ++ Array.replicate (fn.ntmps - vs.toArray.size) undef, defers := [] } w (argSt 0 ts) := by
  refine ⟨⟨fun _ => none,⟨(fun b p h => (by cases h)),Nat.le_refl _,fun y hl hn => ?_⟩⟩,(by simp; omega),rfl,Grow.refl _ _⟩
  obtain ⟨h1, h2⟩ := args_get (lo := w.heap.size) (par := fun _ => none) (s := argSt 0 ts) (k := 0) (tm := vs.toArray ++ Array.replicate (fn.ntmps - vs.toArray.size) undef) (by omega) hv (fun j v hj => by
   have hjl:j < vs.length:=(List.getElem?_eq_some_iff.1 hj).1
   rw [Nat.zero_add]
   have hj':=(List.getElem?_eq_some_iff.1 hj).2
   simp [Array.getElem?_append,hjl,hj']) y hn
  exact ⟨_,nmv_slot h1,h2⟩
 refine wpC_wp hmo (fun _ _ => rfl) (fun _ b h => h) c code (RetN r cs') _ _ w (argSt 0 ts) hc hO hw fun e s' a' w' hq hO' => ?_
 have key : retNo s' cs' (s'.look (.s r)) → a'.defers = [] ∧ ∃ v, (results fn a'.tmps).run P w' = .ok v w' ∧ ∃ b, Ending.returned v = .returned (.pointer (some ⟨b, 0, none⟩)) ∧ Grow (fun _ => False) w w' ∧ w.heap.size ≤ b ∧
   ∃ (arr:Array Value) (ty:TypeId),w'.heap[b]? = some (.cells arr ty (0,0)) ∧ FzL (fun _ => True) w' cs' arr.toList:=by
  intro hR
  refine ⟨hO'.df,?_⟩
  obtain ⟨ow',hG⟩:=hO'.gam
  have hrun : (results fn a'.tmps).run P w' = .ok (a'.tmps.getD r undef) w' := by
   unfold results
   rw [hres,show (#[ResultVar.tmp r]:Array ResultVar) = ([r].map ResultVar.tmp).toArray from rfl]
   rw [Sem.run_bind,run_resVars (fun t w => rfl)]
   simp
  refine ⟨_,hrun,?_⟩
  have hx:=hG.look hr
  generalize hwx:s'.look (.s r) = wx at hR hx
  cases wx with
  | pc z v us =>
   rw [retNo_pc] at hR
   obtain ⟨hz1,h90,hcur,hle⟩:=hR
   obtain ⟨m,hm,eus⟩:=look_pc hwx
   obtain ⟨n,b,arr,ty,h1,h2,h3,h4,h5,h6,h7,h8,_⟩:=hx
   have:m = n:=by rw [hm] at h1; cases h1; rfl
   subst this
   have hz:z % 1000 < 1000:=Nat.mod_lt _ (by omega)
   have h8':a'.tmps.getD r undef = .pointer (some ⟨b,0,none⟩):=by rw [h8,hz1]
   have hul:us.length = m:=by rw [eus,cells_len]
   rw [hul] at hcur h90
   rw [nmv_slot hz] at h2
   have hcont:=box_content hG hz hm (Option.some.inj h2) h3 h5 h90 hcur
   rw [← eus] at hcont
   refine ⟨b,by rw [h8'],hO'.grow,(hG.base b _ h4).2.resolve_right (fun h => h),arr,ty,h3,(hcont.mono fun _ _ => trivial).le hle⟩
  | _ => exact hR.elim
 cases e with
 | n => exact key hq
 | r => exact key hq
 | x j => exact hq.elim
theorem argsQ_get {i n : Nat} : ∀ {ts : List T} {k : Nat} {vs : List Value} {tm : Array Value}, k + ts.length ≤ 1000 → vs.length = ts.length →
  (∀ (j:Nat) (t:T) (v:Value),ts[j]? = some t → vs[j]? = some v → k + j ≠ i → Fz (fun b => ow b = none) w t v) →
  (∀ (j:Nat) (v:Value),vs[j]? = some v → tm.getD (k + j) undef = v) →
  ∀ y,((argStQ i n k ts).get y).isAny = false → y < 1000 ∧ (y ≠ i → Rep lo par ow tm w s y ((argStQ i n k ts).get y) (tm.getD y undef)) ∧ (y = i → (argStQ i n k ts).get y = .bx n)
 | [],k,vs,tm,_,_,_,_,y,hn => by simp [argStQ,St.get,V.isAny] at hn
 | t :: ts,k,[],tm,_,hl,_,_,y,hn => by simp at hl
 | t :: ts, k, x :: xs, tm, hk, hl, hf, hv, y, hn => by
  simp only [argStQ] at hn ⊢
  rw [get_if] at hn ⊢
  by_cases hky : k = y
  ·rw [if_pos hky] at hn ⊢
   subst hky
   have e:tm.getD k undef = x:=by simpa using hv 0 x (by simp)
   simp only [List.length_cons] at hk
   refine ⟨by omega,fun hi => ?_,fun hi => by simp [hi,argQC]⟩
   rw [e]
   have h1:=hf 0 t x rfl rfl (by omega)
   rw [show (k == i) = false from by simpa using hi,argQC_f]
   exact (Fz.mk (g:=.arg) (fun b hb => hb) h1).2 k
  ·rw [if_neg hky] at hn ⊢
   simp only [List.length_cons] at hk hl
   exact argsQ_get (k := k + 1) (ts := ts) (vs := xs) (by omega) (by omega) (fun j t' v h1 h2 h3 => hf (j + 1) t' v (by simpa using h1) (by simpa using h2) (by omega)) (fun j v hj => by
    have:=hv (j + 1) v (by simpa using hj)
    rwa [show k + (j + 1) = k + 1 + j from by omega] at this) y hn
theorem argsQ_at {i n : Nat} : ∀ {ts : List T} {k : Nat} {t : T}, ts[i - k]? = some t → k ≤ i → (argStQ i n k ts).get i = .bx n
 | [],_,_,h,_ => by simp at h
 | t :: ts, k, t', h, hk => by
  simp only [argStQ]
  rw [get_if]
  by_cases hki : k = i
  ·rw [if_pos hki]; simp [hki,argQC]
  ·rw [if_neg hki]
   refine argsQ_at (k:=k + 1) (ts:=ts) (t:=t') ?_ (by omega)
   rw [show i - k = (i - (k + 1)) + 1 from by omega] at h
   simpa using h
theorem callQ_core {f : FuncId} {fn : Func} {code : Code} {c : C} {ts : List T} {i : Nat} {cs cs' : List T} {Q : Ex → St → Prop} {R : St} (hf : P.funcs[f]? = some fn) (hb : fn.body = some code) (hmo : P.follows .mixedOrders = true)
  (hE:∀ args w,(callFunc f args).run P w = .ok (.enter f args) w) (hc:chk P fn.ntmps false c code = true) (hd:dstB (fun k => k == i) code = true)
  (hts:ts.length ≤ fn.ntmps) (hts2:ts.length ≤ 1000) (hti:ts[i]? = some (.q cs 0)) (hl:cs'.length = cs.length) (h90:cs.length < 90)
  (hw:wpC P c Q (boxG .arg i 0 cs ++ argStQ i cs.length 0 ts))
  (hkey : ∀ (w w' : World) (b : Nat) (ow' : Ow) (a' : Act) (s' : St) (e : Ex), Q e s' → i < 1000 → Gam w.heap.size (fun k => k = b) (fun _ => none) ow' s' a'.tmps w' → a'.tmps.getD i undef = .pointer (some ⟨b, 0, none⟩) → Grow (fun k => k = b) w w' →
   (∀ j,e ≠ .x j) ∧ ∃ v,(results fn a'.tmps).run P w' = .ok v w' ∧ ResRep w.heap.size (fun _ => False) w' v R ∧ ∃ (arr':Array Value) (ty':TypeId),w'.heap[b]? = some (.cells arr' ty' (0,0)) ∧ FzL (fun _ => True) w' cs' arr'.toList):CallQ P f i ts cs' R:=by
 refine ⟨hE,cs,hti,hl,fun w vs b arr ty hvl hvi hheap hcs hoth => calls_fw (ro:=none) (nn:=0) (callsIn_of_wp_marks hf hb trivial ?_)⟩
 have hi:i < ts.length:=(List.getElem?_eq_some_iff.1 hti).1
 let ow0:Ow:=fun k => if k = b then some (i,0) else none
 have ow0b:ow0 b = some (i,0):=by simp [ow0]
 have ow0n:∀ k,k ≠ b → ow0 k = none:=fun k hk => by simp [ow0,hk]
 have ow0i : ∀ k p, ow0 k = some p → k = b := fun k p h => by
  by_cases e : k = b
  ·exact e
  ·rw [ow0n k e] at h; cases h
 have hti' : ∀ (j : Nat) (v : Value), vs[j]? = some v → (vs.toArray ++ Array.replicate (fn.ntmps - vs.toArray.size) undef).getD (0 + j) undef = v := fun j v hj => by
  have hjl:j < vs.length:=(List.getElem?_eq_some_iff.1 hj).1
  rw [Nat.zero_add]
  have hj':=(List.getElem?_eq_some_iff.1 hj).2
  simp [Array.getElem?_append,hjl,hj']
 have hbl:b < w.heap.size:=(Array.getElem?_eq_some_iff.1 hheap).1
 have hcl:arr.size = cs.length:=by have:=hcs.length; simpa using this
 have hgi : (boxG .arg i 0 cs ++ argStQ i cs.length 0 ts).get i = .bx cs.length := by
  rw [boxG_no fun j _ => by omega]
  exact argsQ_at (k:=0) (by simpa using hti) (by omega)
 have hO : OkS (fun k => k = b) (fun _ => none) fn.ntmps w { tmps := vs.toArray ++ Array.replicate (fn.ntmps - vs.toArray.size) undef, defers := [] } w (boxG .arg i 0 cs ++ argStQ i cs.length 0 ts) := by
  refine ⟨⟨ow0,⟨fun k p h => by have:=ow0i k p h; subst this; exact ⟨hbl,.inr rfl⟩,Nat.le_refl _,fun y hl hn => ?_⟩⟩,(by simp; omega),rfl,Grow.refl _ _⟩
  by_cases hy : ∃ j, j < cs.length ∧ y = i + 1000 * (1 + j)
  ·obtain ⟨j,hj,rfl⟩:=hy
   obtain ⟨x,hx,hf⟩:=hcs.get j hj
   have ht:cs[j]? = some (cs.getD j .any):=by rw [List.getD,List.getElem?_eq_getElem hj]; rfl
   rw [boxG_yes ht]
   refine ⟨x,?_,(Fz.mk (g:=.arg) (ow:=ow0) (fun k hk => ow0n k hk) hf).2 _⟩
   unfold nmv
   have hpi:=hti' i _ hvi
   rw [Nat.zero_add] at hpi
   rw [if_neg (by omega),show (i + 1000 * (1 + j)) % 1000 = i from by omega,hpi]
   simp only
   rw [show (i + 1000 * (1 + j)) / 1000 = 1 + j from by omega,if_pos (by omega),show 1 + j - 1 = j from by omega,cell_of_row w b j arr ty (0,0) hheap]
   simpa using hx
  ·have hno:∀ j,j < cs.length → y ≠ i + 1000 * (1 + j):=fun j hj e => hy ⟨j,hj,e⟩
   rw [boxG_no hno] at hn ⊢
   obtain ⟨h1, h2, h3⟩ := argsQ_get (lo := w.heap.size) (par := fun _ => none) (ow := ow0) (s := boxG .arg i 0 cs ++ argStQ i cs.length 0 ts) (k := 0) (tm := vs.toArray ++ Array.replicate (fn.ntmps - vs.toArray.size) undef) (by omega) hvl
    (fun j t v h1 h2 h3 => (hoth j t v (by omega) h1 h2).mono fun k hk => ow0n k hk) hti' y hn
   refine ⟨_,nmv_slot h1,?_⟩
   by_cases hyi : y = i
   ·rw [h3 hyi]
    have hpi:=hti' i _ hvi
    rw [Nat.zero_add] at hpi
    subst hyi
    exact ⟨h1,b,arr,ty,hpi,ow0b,hheap,hcl⟩
   ·exact h2 hyi
 have hpi:=hti' i _ hvi
 rw [Nat.zero_add] at hpi
 generalize hs0:boxG .arg i 0 cs ++ argStQ i cs.length 0 ts = s0 at hO hw hgi
 generalize ha0:({ tmps:=vs.toArray ++ Array.replicate (fn.ntmps - vs.toArray.size) undef,defers:=[] }:Act) = a at hO
 have hpa:a.tmps.getD i undef = .pointer (some ⟨b,0,none⟩):=by rw [← ha0]; exact hpi
 show code.wpIn (fw none) 0 P (bodyPostM (fw none) 0 P fn _) a w
 rw [← df_nil hO.df]
 refine wpC_in (ro:=none) (nn:=0) (ds:=[]) (D:=fun k => k == i) (a0:=a) hmo (fun _ _ => rfl) (fun h => by cases h) c code Q _ a w s0 hc hd hO (Agree.refl _) hw ?_
 intro e s' a' w' hq hO' hA
 obtain ⟨ow',hG⟩:=hO'.gam
 have hip:a'.tmps.getD i undef = .pointer (some ⟨b,0,none⟩):=by rw [hA i (by simp),hpa]
 obtain ⟨hne,v,hrun,hR,hB⟩:=hkey w w' b ow' a' s' e hq (by omega) hG hip hO'.grow
 have key : LeavesInM (fw none) 0 P fn a'.tmps (fun e w' => ∃ u, e = .returned u ∧ Grow (fun k => k = b) w w' ∧ ResRep w.heap.size (fun _ => False) w' u R ∧
   ∃ (arr':Array Value) (ty':TypeId),w'.heap[b]? = some (.cells arr' ty' (0,0)) ∧ FzL (fun _ => True) w' cs' arr'.toList) [] .returning w':=⟨v,hrun,v,rfl,hO'.grow,hR,hB⟩
 cases e with
 | n => exact key
 | r => exact key
 | x j => exact absurd rfl (hne j)
theorem callQ_of {f : FuncId} {fn : Func} {code : Code} {c : C} {ts : List T} {i r : Nat} {cs cs' : List T} {v : V} (hf : P.funcs[f]? = some fn) (hb : fn.body = some code) (hmo : P.follows .mixedOrders = true)
  (hE:∀ args w,(callFunc f args).run P w = .ok (.enter f args) w) (hres:fn.results = #[ResultVar.tmp r]) (hc:chk P fn.ntmps false c code = true) (hd:dstB (fun k => k == i) code = true)
  (hts:ts.length ≤ fn.ntmps) (hts2:ts.length ≤ 1000) (hr:r < 1000) (hti:ts[i]? = some (.q cs 0)) (hl:cs'.length = cs.length) (h90:cs.length < 90)
  (hw:wpC P c (RetP i r cs' v) (boxG .arg i 0 cs ++ argStQ i cs.length 0 ts)):CallQ P f i ts cs' [(0,v)]:=by
 refine callQ_core hf hb hmo hE hc hd hts hts2 hti hl h90 hw fun w w' b ow' a' s' e hq hi1000 hG hip hg => ?_
 have key : (retVq (s'.look (.s r)) v ∧ boxO s' i cs' (s'.get i)) → ∃ u, (results fn a'.tmps).run P w' = .ok u w' ∧ ResRep w.heap.size (fun _ => False) w' u [(0, v)] ∧
   ∃ (arr':Array Value) (ty':TypeId),w'.heap[b]? = some (.cells arr' ty' (0,0)) ∧ FzL (fun _ => True) w' cs' arr'.toList:=by
  rintro ⟨hR,hB⟩
  have hrun : (results fn a'.tmps).run P w' = .ok (a'.tmps.getD r undef) w' := by
   unfold results
   rw [hres,show (#[ResultVar.tmp r]:Array ResultVar) = ([r].map ResultVar.tmp).toArray from rfl]
   rw [Sem.run_bind,run_resVars (fun t w => rfl)]
   simp
  refine ⟨_,hrun,?_⟩
  cases hgi':s'.get i with
  | bx n =>
   rw [hgi',boxO_b] at hB
   obtain ⟨hn,hcur,hle⟩:=hB
   obtain ⟨u,eu,_,b',arr',ty',e1,e2,e3,e4⟩:=hgi' ▸ hG.ent i (lv_iff.2 (.inl (by omega))) (by rw [hgi']; rfl)
   rw [nmv_slot (by omega),hip] at eu
   have:b' = b:=by rw [← Option.some.inj eu] at e1; simpa using e1.symm
   subst this
   have hcont:=box_content hG (by omega) hgi' hip e3 e4 (by omega) hcur
   refine ⟨?_,arr',ty',e3,(hcont.mono fun _ _ => trivial).le hle⟩
   have hx:=hG.look hr
   have low:∀ k p,ow' k = some p → k ≠ b' → w.heap.size ≤ k:=fun k p h hk => (hG.base k p h).2.resolve_right hk
   generalize hwx:s'.look (.s r) = wx at hR hx
   cases wx with
   | own y m nl us =>
    cases v with
    | own m' nl' cs2 =>
     rw [retVq_o] at hR
     obtain ⟨hy1,hy2,hy3,hy4⟩:=hx
     have hyi:y ≠ i:=fun e => by subst e; rw [hgi'] at hy1; cases hy1
     have oy:∀ {k r},ow' k = some (y,r) → owOnly ow' y 0 k = some (0,r):=fun h => by unfold owOnly; rw [h]; simp
     have on:∀ {k},ow' k = none → owOnly ow' y 0 k = none:=fun h => by unfold owOnly; rw [h]
     have G1 : Gam w.heap.size (fun _ => False) (fun _ => none) (owOnly ow' y 0) [(0, .own m nl us)] #[a'.tmps.getD r undef] w' := by
      refine ⟨fun k p hp => ?_, hG.low, fun z hl hn => ?_⟩
      ·cases e:ow' k with
       | none => rw [on e] at hp; cases hp
       | some q =>
        refine ⟨(hG.base k q e).1,.inl (low k q e fun ek => ?_)⟩
        subst ek
        rw [e2] at e; cases e
        unfold owOnly at hp; rw [e2] at hp; simp only at hp
        rw [if_neg (Ne.symm hyi)] at hp; cases hp
      ·rw [get_if] at hn ⊢
       by_cases h0 : 0 = z
       ·rw [if_pos h0]
        subst h0
        exact ⟨_,by rw [nmv_slot (by omega)]; rfl,OwnAt.ren (ow:=ow') (y:=y) (par:=fun _ => none) (by omega) (fun b r h => oy h) (fun b h => on h) ⟨fun h => absurd h (by omega),hy4.2⟩⟩
       ·rw [if_neg h0] at hn; cases hn
     refine ⟨fun p hp => by simp at hp; subst hp; exact ⟨rfl,hR.2.1⟩,owOnly ow' y 0,G1.le fun p hp => ?_⟩
     simp at hp; subst hp
     rw [get_if,if_pos rfl]; exact hR.2.2
    | _ => exact hR.elim
   | t g t =>
    cases g with
    | fr =>
     cases v with
     | t g' t' =>
      cases g' with
      | fr =>
       have hx:Fz (okG w.heap.size ow' .fr) w' t (a'.tmps.getD r undef):=hx
       have hx2:Fz (fun k => w.heap.size ≤ k) w' t (a'.tmps.getD r undef):=Fz.mono (fun k hk => hk.2) hx
       have h:V.le (.t .fr t) (.t .fr t'):=hR
       rcases le_cases h with h | h | ⟨_, _, _, _, _, _, h, _⟩ | ⟨_, _, _, _, z1, z2, _, h2⟩
       ·obtain ⟨g,e⟩:=isAny_eq h; cases e; exact resRep_fz (by simp [Fz]) hg.size
       ·cases h; exact resRep_fz hx2 hg.size
       ·cases h
       ·cases z1; cases z2; exact resRep_fz (Fz.le h2 hx2) hg.size
      | _ => exact hR.elim
     | _ => exact hR.elim
    | _ => cases v <;> exact hR.elim
   | _ => cases v <;> exact hR.elim
  | _ => rw [hgi'] at hB; exact hB.elim
 cases e with
 | n => exact ⟨fun j h => (by cases h),key hq⟩
 | r => exact ⟨fun j h => (by cases h),key hq⟩
 | x j => exact hq.elim
theorem callQB_of {f : FuncId} {fn : Func} {code : Code} {c : C} {ts : List T} {i z n : Nat} {ty : TypeId} {cs cs' : List T} {R : St} (hf : P.funcs[f]? = some fn) (hb : fn.body = some code) (hmo : P.follows .mixedOrders = true)
  (hE:∀ args w,(callFunc f args).run P w = .ok (.enter f args) w) (hres:fn.results = #[ResultVar.cell z ty]) (hty:tyStL P ty n = true) (hc:chk P fn.ntmps false c code = true) (hd:dstB (fun k => k == i) code = true)
  (hts:ts.length ≤ fn.ntmps) (hts2:ts.length ≤ 1000) (hz:z < 1000) (hti:ts[i]? = some (.q cs 0)) (hl:cs'.length = cs.length) (h90:cs.length < 90)
  (hw:wpC P c (RetPB i z cs' ((0,.ag n) :: R)) (boxG .arg i 0 cs ++ argStQ i cs.length 0 ts)):CallQ P f i ts cs' ((0,.ag n) :: R):=by
 refine callQ_core hf hb hmo hE hc hd hts hts2 hti hl h90 hw fun w w' b ow' a' s' e hq hi1000 hG hip hg => ?_
 have key : (retB s' z ((0, .ag n) :: R) ∧ boxO s' i cs' (s'.get i)) → ∃ u, (results fn a'.tmps).run P w' = .ok u w' ∧ ResRep w.heap.size (fun _ => False) w' u ((0, .ag n) :: R) ∧
   ∃ (arr':Array Value) (ty':TypeId),w'.heap[b]? = some (.cells arr' ty' (0,0)) ∧ FzL (fun _ => True) w' cs' arr'.toList:=by
  rintro ⟨hR,hB⟩
  cases hgi':s'.get i with
  | bx n1 =>
   rw [hgi',boxO_b] at hB
   obtain ⟨hn1,hcur,hle1⟩:=hB
   obtain ⟨u,eu,_,b',arr',ty',e1',e2',e3',e4'⟩:=hgi' ▸ hG.ent i (lv_iff.2 (.inl (by omega))) (by rw [hgi']; rfl)
   rw [nmv_slot (by omega),hip] at eu
   have:b' = b:=by rw [← Option.some.inj eu] at e1'; simpa using e1'.symm
   subst this
   have hcont:=box_content hG (by omega) hgi' hip e3' e4' (by omega) hcur
   rw [retB_a] at hR
   cases hbx:s'.get z with
   | bx m =>
    rw [hbx,retBb_b] at hR
    obtain ⟨rfl,hRl,hn90,hRL⟩:=hR
    obtain ⟨bz,arr,ty2,e1,e2,e3,e4,e5,e6⟩:=hG.box hbx hz
    obtain ⟨t1,t2⟩:=tyStL_spec hty w'
    have htm:a'.tmps.getD z undef = .pointer (some ⟨bz,0,none⟩):=by rw [nmv_slot hz] at e1; simpa using e1
    have hcells := loadCells_run (P := P) (w := w') (ad := ⟨bz, 0, none⟩) m 0 #[] arr.toList (by simpa using e4) fun j v hj => by
     have e : (⟨bz, 0, none⟩ : Addr).add (0 + j) = ⟨bz, j, none⟩ := by
      unfold Addr.add; split
      ·rename_i h0
       have:j = 0:=by omega
       subst this; rfl
      ·simp
     rw [e,cell_of_row w' bz j arr ty2 (0,0) e2]; simpa using hj
    have hrun : (results fn a'.tmps).run P w' = .ok (.agg arr) w' := by
     unfold results
     rw [hres]
     have htm2:a'.tmps[z]?.getD undef = .pointer (some ⟨bz,0,none⟩):=by simpa using htm
     simp [htm2,asAddr,loadVar,t1,t2,loadCells,hcells]
    refine ⟨_, hrun, ⟨?_, ?_⟩, arr', ty', e3', (hcont.mono fun _ _ => trivial).le hle1⟩
    ·intro p hp
     rcases List.mem_cons.1 hp with rfl | hp
     ·exact ⟨rfl,trivial⟩
     ·exact retBL_good hRL p hp
    ·have oR : ∀ {c b r}, c < m → ow' b = some (z + 1000 * (1 + c), r) → owR ow' z b = some (1000 * (200 + c), r) := fun {c b r} hc h => by
      unfold owR; rw [h]
      simp only
      rw [if_pos (by omega)]
      congr 2; omega
     refine ⟨owR ow' z, ⟨fun b2 p hp => ?_, hG.low, fun y hl hn => ?_⟩⟩
     ·have : ∃ q, ow' b2 = some q ∧ 1000 ≤ q.1 := by
       unfold owR at hp
       split at hp
       ·rename_i q r hq
        split at hp
        ·rename_i h; exact ⟨_,hq,h.1⟩
        ·cases hp
       ·cases hp
      obtain ⟨q,hq,hq1⟩:=this
      refine ⟨(hG.base _ _ hq).1,.inl ((hG.base _ _ hq).2.resolve_right fun h => ?_)⟩
      subst h
      rw [e2'] at hq
      cases hq
      simp only at hq1; omega
     ·rw [get_if] at hn ⊢
      by_cases h0 : 0 = y
      ·rw [if_pos h0]
       subst h0
       exact ⟨.agg arr,by rw [nmv_slot (by omega)]; rfl,by omega,arr.toList,by simp,by simpa using e4⟩
      ·rw [if_neg h0] at hn ⊢
       obtain ⟨c,c1,c2,c3⟩:=retBL_get hRL hn
       rw [Nat.zero_add] at c2 c3
       have hlv:s'.lv (z + 1000 * (1 + c)) = true:=lv_iff.2 (.inr (by rw [show (z + 1000 * (1 + c)) % 1000 = z by omega,hbx]; rfl))
       cases hx:s'.get (z + 1000 * (1 + c)) with
       | own m1 nl cs =>
        rw [hx] at c3
        cases hy:St.get R y with
        | own m2 nl2 cs2 =>
         rw [hy,retBV_o] at c3
         obtain ⟨u',f1,f2⟩:=hG.ent _ hlv (by rw [hx]; rfl)
         rw [e6 c (by omega)] at f1
         rw [hx] at f2
         refine ⟨u', ?_, ?_⟩
         ·subst c2
          unfold nmv
          rw [if_neg (by omega),show 1000 * (200 + c) % 1000 = 0 by omega]
          have:(#[Value.agg arr]:Array Value).getD 0 undef = .agg arr:=rfl
          rw [this]
          simp only
          rw [if_pos (by omega),show 1000 * (200 + c) / 1000 - 200 = c by omega]
          exact f1
         ·have f2:OwnAt w.heap.size (fun _ => none) ow' w' (z + 1000 * (1 + c)) m1 nl cs u':=f2
          have h3:=OwnAt.le (by omega) c3.2.2 f2
          subst c2
          refine OwnAt.ren (ow:=ow') (y:=z + 1000 * (1 + c)) (par:=fun _ => none) (by omega) (fun b r h => oR (by omega) h) (fun b h => by unfold owR; rw [h]) ⟨fun h => absurd h (by omega),h3.2⟩
        | _ => rw [hy] at c3; exact c3.elim
       | _ => rw [hx] at c3; cases hy:St.get R y <;> rw [hy] at c3 <;> exact c3.elim
   | _ => rw [hbx] at hR; exact hR.elim
  | _ => rw [hgi'] at hB; exact hB.elim
 cases e with
 | n => exact ⟨fun j h => (by cases h),key hq⟩
 | r => exact ⟨fun j h => (by cases h),key hq⟩
 | x j => exact hq.elim
end
section
open Go.ChangeShapes Go.WideShapes Go.RowKit Go.Deep
variable {H:Type} {enc:TypeId × Value → H} {P:Program} {W:World}
theorem fzL_w {ok : Nat → Prop} {q : IntKind} : ∀ {xs : List Int}, FzL ok W (xs.map fun n => T.w q n) (xs.map fun n => Value.int q n)
 | [] => by simp [FzL]
 | x :: xs => by
  simp only [List.map_cons,FzL]
  exact ⟨_,_,rfl,by simp only [Fz],fzL_w⟩
theorem fz_rowW {ok : Nat → Prop} {q : IntKind} {a : Addr} {len cap : Nat} {zs : List Int} (hl : len ≤ cap) (hm : cap ≤ maxLen) (hz : len ≤ zs.length) (hok : ok a.block)
  (hc:∀ i,i < len → W.cell? (a.add i) = some (.int q (zs.getD i 0))):Fz ok W (.s none ((zs.take len).map fun n => T.w q n)) (.slice (some a) len cap):=by
 have hlen:(zs.take len).length = len:=by rw [List.length_take]; omega
 have spot0 : 0 < len → a.spot = none := fun h0 => by
  cases hs:a.spot with
  | none => rfl
  | some s =>
   have:=hc 0 h0
   rw [show a.add 0 = a from rfl] at this
   unfold World.cell? at this
   rw [hs] at this
   split at this <;> simp at this
 simp only [Fz]
 right
 refine ⟨by simp, a.block, a.off, a.spot, cap, (zs.take len).map fun n => Value.int q n, by rw [List.length_map, hlen], by rw [List.length_map, hlen]; exact hl, hm, fun hne => ⟨hok, spot0 ?_⟩, fzL_w, fun k x hk => ?_⟩
 ·rcases Nat.eq_zero_or_pos len with h | h
  ·exfalso; apply hne; rw [h]; rfl
  ·exact h
 ·rw [List.getElem?_map] at hk
  have hk' : k < len := by
   have : k < (zs.take len).length := by
    cases e:(zs.take len)[k]? with
    | none => rw [e] at hk; cases hk
    | some _ => exact (List.getElem?_eq_some_iff.1 e).1
   omega
  have h1:=hc k hk'
  have h2 : (zs.take len)[k]? = some (zs.getD k 0) := by
   rw [List.getElem?_take,if_pos hk',List.getD,List.getElem?_eq_getElem (by omega)]; rfl
  rw [h2] at hk
  simp only [Option.map_some,Option.some.injEq] at hk
  rw [← hk,← h1]
  have h0:a.spot = none:=spot0 (by omega)
  congr 1
  unfold Addr.add
  split
  ·rename_i h; subst h; cases a; simp at h0 ⊢; exact h0.symm
  ·rfl
theorem fz_bytes {t e : TypeId} {b0 : Nat} {v : Value} {d : DataW H} {ps : List MemPlace} (ht : P.underlying t = some (.slice e)) (he : P.underlying e = some (.int .u8)) (hc : P.cellsOf e = 1)
  (hval:Value.okWide P W .any b0 t v) (hd:DataW.Trod enc P W 0 (fun _ => true) true t v d ps):∃ xs:List Int,xs.length ≤ maxLen ∧ (∀ x ∈ xs,0 ≤ x ∧ x < 256) ∧ Fz (fun _ => True) W (.xv v (.s none (xs.map fun n => T.w .u8 n))) v:=by
 obtain ⟨a0,len,cap,rfl⟩:=okWide_slice ht hval
 obtain ⟨fuel,hf⟩:=hd
 rw [cells_slice] at hf
 have fin:∀ {r:T} {v:Value},Fz (fun _ => True) W r v → Fz (fun _ => True) W (.xv v r) v:=fun h => by simp only [Fz]; exact ⟨trivial,h⟩
 rcases open_ints ht he hc hf with ⟨e1, _⟩ | ⟨a, len', cap', zs, e1, _, hl, hm, hz, _, hcell, hw⟩
 ·cases e1
  exact ⟨[],by simp,by simp,fin (by simp [Fz])⟩
 ·cases e1
  simp only [if_true] at hz
  refine ⟨zs.take len,by rw [List.length_take]; omega,fun x hx => ?_,fin (fz_rowW hl hm (by omega) trivial fun i hi => hcell i (by omega))⟩
  have:=hw x (List.mem_of_mem_take hx)
  simp only [Lit.wf,Bool.and_eq_true,decide_eq_true_eq] at this
  have h1:IntKind.u8.min = 0:=by decide
  have h2:IntKind.u8.max = 255:=by decide
  rw [h1,h2] at this
  omega
end
end Go.Vc
