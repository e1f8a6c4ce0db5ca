/-
  Own work, laid by a program of the author's: the abstract states of a layer of verification conditions over the kit's Code.wp, and what they say: definitions and their equations. No condition.
-/
import Derived.WalkKit
import Derived.Orders
import Derived.KernelRfl
set_option linter.unusedSimpArgs false
set_option linter.unusedVariables false
namespace Go.Vc
open Go
inductive T where
 | any
 | i (n : Int)
 | b (x : Bool)
 | s (nl : Option Bool) (cs : List T)
 | q (cs : List T) (k : Nat)
 | c (f : Nat) (caps : List T)
 | a (fs : List T)
 | u (vs : List T)
 | w (k : IntKind) (n : Int)
 | xv (u : Value) (t : T)
def T.scal : T → Prop
 | .i _ => True
 | .b _ => True
 | _ => False
inductive G where
 | arg | fr | rw (y : Nat) | sp (y : Nat)
inductive Cap where
 | p (z : Nat)
 | t (g : G) (t : T)
inductive V where
 | t (g : G) (t : T)
 | own (m : Nat) (nl : Option Bool) (cs : List T)
 | bx (k : Nat)
 | tp (k : Nat)
 | ag (k : Nat)
 | al (y : Nat)
 | pc (z : Nat)
 | pe (y : Nat) (j : Nat)
 | er (y : Nat) (j : Nat)
 | sl (y l h : Nat)
 | bv (z : Nat)
 | clo (f : Nat) (caps : List Cap)
 | fo (z : Nat) (k : Option T) (nl : Option Bool) (cs : List T)
abbrev V.any : V := .t .arg .any
abbrev V.i (n : Int) : V := .t .fr (.i n)
abbrev V.b (x : Bool) : V := .t .fr (.b x)
def V.mk (g : G) : T → V
 | .i n => .t .fr (.i n)
 | .b x => .t .fr (.b x)
 | r => .t g r
abbrev St := List (Nat × V)
def St.get : St → Nat → V
 | [], _ => .any
 | (k, v) :: s, y => bif k == y then v else St.get s y
def hangs (y z : Nat) : Bool := z == y || (y < 1000 && z % 1000 == y)
def G.on (y : Nat) : G → Bool
 | .rw z => hangs y z
 | .sp z => hangs y z
 | _ => false
def Cap.on (y : Nat) : Cap → Bool
 | .p z => hangs y (z % 1000)
 | .t g _ => g.on y
def V.on (y : Nat) : V → Bool
 | .t g _ => g.on y
 | .al z => hangs y z
 | .pc z => hangs y (z % 1000)
 | .pe z _ => hangs y z
 | .er z _ => hangs y z
 | .sl z _ _ => hangs y z
 | .bv z => hangs y z
 | .clo _ caps => caps.any (Cap.on y)
 | .fo z _ _ _ => hangs y z
 | _ => false
def St.kill (y : Nat) : St → St
 | [] => []
 | (k, v) :: s => (k, bif hangs y k || v.on y then .any else v) :: St.kill y s
def V.rt (y d : Nat) : V → V
 | .t (.rw z) r => bif z == y then .t (.rw d) r else bif hangs y z then .any else .t (.rw z) r
 | v => bif v.on y then .any else v
def St.rt (y d : Nat) : St → St
 | [] => []
 | (k, v) :: s => (k, bif hangs y k then .any else v.rt y d) :: St.rt y d s
def G.onSp (y : Nat) : G → Bool
 | .sp z => z == y
 | _ => false
def V.onSp (y : Nat) : V → Bool
 | .t g _ => g.onSp y
 | .er z _ => z == y
 | .bv z => z == y
 | .clo _ caps => caps.any fun | .t g _ => g.onSp y | _ => false
 | _ => false
def St.killSp (y : Nat) : St → St
 | [] => []
 | (k, v) :: s => (k, bif v.onSp y then .any else v) :: St.killSp y s
def G.onRs (y : Nat) : G → Bool
 | .rw z => z == y
 | .sp z => z == y
 | _ => false
def V.onRs (y : Nat) : V → Bool
 | .t g _ => g.onRs y
 | .er z _ => z == y
 | .bv z => z == y
 | .clo _ caps => caps.any fun | .t g _ => g.onRs y | _ => false
 | .fo z _ _ _ => z == y
 | _ => false
def St.killRs (y : Nat) : St → St
 | [] => []
 | (k, v) :: s => (k, bif v.onRs y then .any else v) :: St.killRs y s
def V.isName : V → Bool
 | .own .. => true
 | .bx _ => true
 | .tp _ => true
 | .ag _ => true
 | _ => false
def V.cont : V → Bool
 | .bx _ => true
 | .tp _ => true
 | .ag _ => true
 | _ => false
def St.lv (s : St) (y : Nat) : Bool := y < 1000 || (s.get (y % 1000)).cont
inductive W where
 | t (g : G) (t : T)
 | own (y m : Nat) (nl : Option Bool) (cs : List T)
 | pe (y j m : Nat) (nl : Option Bool) (cs : List T)
 | er (y j m : Nat) (nl : Option Bool) (cs : List T)
 | sl (y l h m : Nat) (nl : Option Bool) (cs : List T)
 | bv (z n : Nat) (ts : List T)
 | pc (z : Nat) (v : V) (ts : List T)
 | clo (f : Nat) (caps : List Cap) (ts : List T)
 | tp (y k : Nat)
 | ag (y k : Nat) (ts : List T)
 | fo (z : Nat) (k : Option T) (nl : Option Bool) (cs : List T)
 | no
def St.resN (s : St) (y : Nat) : T :=
 match s.get y with
 | .t _ r => r
 | .own _ nl cs => .s nl cs
 | .al z => match s.get z with
  | .own _ nl cs => bif s.lv z then .s nl cs else .any
  | _ => .any
 | _ => .any
def St.cells (s : St) (x c : Nat) : Nat → Nat → List T
 | _, 0 => []
 | j, n + 1 => s.resN (x + 1000 * (c + j)) :: St.cells s x c (j + 1) n
def St.pcW (s : St) (z : Nat) : W :=
 match s.get (z % 1000) with
 | .bx n => bif z / 1000 - 1 < n && 1000 ≤ z then .pc z (match s.get z with | .own .. => .al z | v => v) (s.cells (z % 1000) 1 0 n) else .no
 | _ => .no
def St.capT (s : St) : Cap → T
 | .t _ t => t
 | .p z => match s.get (z % 1000) with
  | .bx n => .q (s.cells (z % 1000) 1 0 n) (z / 1000 - 1)
  | _ => .any
def St.enr (s : St) (n : Nat) : V → W
 | .t g t => .t g t
 | .own m nl cs => .own n m nl cs
 | .bx _ => s.pcW (n + 1000)
 | .tp k => .tp n k
 | .ag k => .ag n k (s.cells n 200 0 k)
 | .al y => match s.get y with
  | .own m nl cs => bif s.lv y then .own y m nl cs else .no
  | .ag k => bif y < 1000 then .ag y k (s.cells y 200 0 k) else .no
  | _ => .no
 | .pc z => s.pcW z
 | .pe y j => match s.get y with
  | .own m nl cs => bif s.lv y then .pe y j m nl cs else .no
  | _ => .no
 | .er y j => match s.get y with
  | .own m nl cs => bif s.lv y then .er y j m nl cs else .no
  | _ => .no
 | .sl y l h => match s.get y with
  | .own m nl cs => bif s.lv y then .sl y l h m nl cs else .no
  | _ => .no
 | .bv z => match s.get z with
  | .bx n => bif z < 1000 then .bv z n (s.cells z 1 0 n) else .no
  | _ => .no
 | .clo f caps => .clo f caps (caps.map s.capT)
 | .fo z k nl cs => .fo z k nl cs
inductive X where
 | s (n : Nat)
 | k (t : T)
def St.look (s : St) : X → W
 | .s n => s.enr n (s.get n)
 | .k t => .t .fr t
def W.toV : W → V
 | .t g r => .t g r
 | .own y _ _ _ => .al y
 | .pe y j _ _ _ => .pe y j
 | .er y j _ _ _ => .er y j
 | .sl y l h _ _ _ => .sl y l h
 | .bv z _ _ => .bv z
 | .pc z _ _ => .pc z
 | .clo f caps _ => .clo f caps
 | .ag y _ _ => .al y
 | .fo z k nl cs => .fo z k nl cs
 | _ => .any
def W.res : W → T
 | .t _ r => r
 | .own _ _ nl cs => .s nl cs
 | .pe _ j _ _ cs => .q cs j
 | .er _ j _ _ cs => cs.getD j .any
 | .pc z _ ts => .q ts (z / 1000 - 1)
 | .clo f _ ts => .c f ts
 | .ag _ _ ts => .a ts
 | .bv _ _ ts => .a ts
 | _ => .any
def inR (n : Int) : Prop := -9223372036854775808 ≤ n ∧ n ≤ 9223372036854775807
def tagM (m y : Nat) : G := bif m % 10 == 1 then .rw y else bif m % 10 == 0 then .fr else .arg
mutual
def Fz (ok : Nat → Prop) (w : World) : T → Value → Prop
 | .any, _ => True
 | .i n, v => v = .int .i64 n ∧ inR n
 | .b x, v => v = .bool x
 | .s nl cs, v => (v = .slice none 0 0 ∧ cs = [] ∧ nl ≠ some false) ∨
   (nl ≠ some true ∧ ∃ b o sp cap xs, v = .slice (some ⟨b, o, sp⟩) cs.length cap ∧ cs.length ≤ cap ∧ cap ≤ maxLen ∧ (cs ≠ [] → ok b ∧ sp = none) ∧ FzL ok w cs xs ∧ ∀ k x, xs[k]? = some x → w.cell? ⟨b, o + k, none⟩ = some x)
 | .q cs k, v => ∃ b o xs, v = .pointer (some ⟨b, o + k, none⟩) ∧ (cs ≠ [] → ok b) ∧ FzL ok w cs xs ∧ ∀ k x, xs[k]? = some x → w.cell? ⟨b, o + k, none⟩ = some x
 | .c f caps, v => ∃ xs : List Value, v = .func (.func f) #[] xs.toArray ∧ FzL ok w caps xs
 | .a fs, v => ∃ xs : List Value, v = .agg xs.toArray ∧ FzL ok w fs xs
 | .u vs, v => ∃ xs : List Value, v = .tuple xs.toArray ∧ FzL ok w vs xs
 | .w k n, v => v = .int k n
 | .xv u t, v => v = u ∧ Fz ok w t v
def FzL (ok : Nat → Prop) (w : World) : List T → List Value → Prop
 | [], xs => xs = []
 | t :: ts, xs => ∃ x ys, xs = x :: ys ∧ Fz ok w t x ∧ FzL ok w ts ys
end
def nmv (tm : Array Value) (w : World) (y : Nat) : Option Value :=
 if y < 1000 then some (tm.getD y undef) else
 match tm.getD (y % 1000) undef with
 | .pointer (some a) => if y / 1000 < 100 then w.cell? ⟨a.block, y / 1000 - 1, none⟩ else none
 | .tuple vs => if 100 ≤ y / 1000 ∧ y / 1000 < 200 then vs[y / 1000 - 100]? else none
 | .agg vs => if 200 ≤ y / 1000 then vs[y / 1000 - 200]? else none
 | _ => none
abbrev Ow := Nat → Option (Nat × Nat)
def okG (lo : Nat) (ow : Ow) : G → Nat → Prop
 | .arg, b => ow b = none
 | .fr, b => ow b = none ∧ lo ≤ b
 | .rw y, b => ow b = some (y, 1)
 | .sp y, b => ow b = some (y, 0) ∨ ow b = some (y, 1) ∨ ow b = none
def rowBlk : Value → Option Nat
 | .slice (some a) _ _ => some a.block
 | _ => none
def DeepR (ow : Ow) (y : Nat) (w : World) (xs : List Value) : Prop :=
 (∀ i j b : Nat, (xs[i]?).bind rowBlk = some b → (xs[j]?).bind rowBlk = some b → i = j) ∧
 ∀ (i b : Nat), (xs[i]?).bind rowBlk = some b → ow b = some (y, 1) ∧ ∃ arr ty len, w.heap[b]? = some (.cells arr ty (0, 0)) ∧ xs[i]? = some (.slice (some ⟨b, 0, none⟩) len arr.size)
def T.isAny : T → Bool
 | .any => true
 | _ => false
def scalL (cs : List T) : Prop := ∀ t ∈ cs, t.scal
def foT : Option T → World → Value → Value → Prop
 | none, _, u, u0 => u = u0
 | some t, w, u, u0 => (t.scal ∧ ∃ u1, u = .tuple #[u0, u1] ∧ Fz (fun _ => True) w t u1) ∨ (t = .any ∧ u = u0 ∧ ∃ ad, u = .slice (some ad) 0 0) ∨ (∃ us, t = .u us ∧ ∃ b, u = .pointer (some ⟨b, 0, none⟩) ∧ u0 = .slice (some ⟨b, 0, none⟩) 0 (us.length + 1))
def veil : List T → List Value → List Value
 | t :: ts, v :: vs => (bif t.isAny then undef else v) :: veil ts vs
 | _, _ => []
def OwnAt (lo : Nat) (par : Nat → Option Value) (ow : Ow) (w : World) (y m : Nat) (nl : Option Bool) (cs : List T) (u : Value) : Prop :=
 (10 ≤ m → par y = some u) ∧
 ((u = .slice none 0 0 ∧ cs = [] ∧ nl ≠ some false) ∨
  (nl ≠ some true ∧ ∃ b cap arr ty xs, u = .slice (some ⟨b, 0, none⟩) cs.length cap ∧ ow b = some (y, 0) ∧ w.heap[b]? = some (.cells arr ty (0, 0)) ∧ arr.size = cap ∧
   cs.length ≤ cap ∧ cap ≤ maxLen ∧ arr.toList.take cs.length = xs ∧ FzL (okG lo ow (tagM m y)) w cs xs ∧ (m % 10 = 1 → DeepR ow y w (veil cs xs))))
def erB : Nat := 9223372036854775808
def erV (j : Nat) (r u : Value) : Prop :=
 (j < erB ∧ u = r) ∨ (erB ≤ j ∧ ∃ b l c, r = .slice (some ⟨b, 0, none⟩) l c ∧ u = .pointer (some ⟨b, j / erB - 1, none⟩))
def erC (w : World) (b j : Nat) (u : Value) : Prop := ∃ r, w.cell? ⟨b, j % erB, none⟩ = some r ∧ erV j r u
def Rep (lo : Nat) (par : Nat → Option Value) (ow : Ow) (tm : Array Value) (w : World) (s : St) (y : Nat) : V → Value → Prop
 | .t g t, u => Fz (okG lo ow g) w t u
 | .own m nl cs, u => OwnAt lo par ow w y m nl cs u
 | .bx k, u => y < 1000 ∧ ∃ b arr ty, u = .pointer (some ⟨b, 0, none⟩) ∧ ow b = some (y, 0) ∧ w.heap[b]? = some (.cells arr ty (0, 0)) ∧ arr.size = k
 | .tp k, u => y < 1000 ∧ ∃ xs : List Value, u = .tuple xs.toArray ∧ xs.length = k
 | .ag k, u => y < 1000 ∧ ∃ xs : List Value, u = .agg xs.toArray ∧ xs.length = k
 | .al z, u => (match s.get z with | .own .. => s.lv z = true | .ag _ => z < 1000 | _ => False) → nmv tm w z = some u
 | .pc z, u => (match s.get (z % 1000) with | .bx _ => True | _ => False) → ∃ b, nmv tm w (z % 1000) = some (.pointer (some ⟨b, 0, none⟩)) ∧ u = .pointer (some ⟨b, z / 1000 - 1, none⟩)
 | .pe z j, u => (match s.get z with | .own .. => s.lv z = true | _ => False) → ∃ b len cap, nmv tm w z = some (.slice (some ⟨b, 0, none⟩) len cap) ∧ u = .pointer (some ⟨b, j, none⟩)
 | .er z j, u => (match s.get z with | .own .. => s.lv z = true | _ => False) → ∃ b len cap, nmv tm w z = some (.slice (some ⟨b, 0, none⟩) len cap) ∧ okG lo ow (.sp z) b ∧ erC w b j u
 | .sl z l h, u => (match s.get z with | .own .. => s.lv z = true | _ => False) → ∃ a0 len cap, nmv tm w z = some (.slice a0 len cap) ∧ l ≤ h ∧ h ≤ len ∧ len ≤ cap ∧ u = .slice (if cap = l then a0 else a0.map (·.add (l * 1))) (h - l) (cap - l)
 | .bv z, u => z < 1000 ∧ ((match s.get z with | .bx _ => True | _ => False) → ∃ b arr ty, nmv tm w z = some (.pointer (some ⟨b, 0, none⟩)) ∧ okG lo ow (.sp z) b ∧ w.heap[b]? = some (.cells arr ty (0, 0)) ∧ u = .agg arr)
 | .clo f caps, u => ∃ xs : List Value, u = .func (.func f) #[] xs.toArray ∧ xs.length = caps.length ∧ ∀ (i : Nat) (cp : Cap) (x : Value), caps[i]? = some cp → xs[i]? = some x →
   match cp with
   | .t g t => Fz (okG lo ow g) w t x
   | .p z => (match s.get (z % 1000) with | .bx _ => True | _ => False) → ∃ b, nmv tm w (z % 1000) = some (.pointer (some ⟨b, 0, none⟩)) ∧ x = .pointer (some ⟨b, z / 1000 - 1, none⟩)
 | .fo z k nl cs, u => scalL cs ∧ ∃ u0, foT k w u u0 ∧ ((u0 = .slice none 0 0 ∧ cs = [] ∧ nl ≠ some false) ∨
   (nl ≠ some true ∧ ∃ b arr ty xs, u0 = .slice (some ⟨b, 0, none⟩) cs.length arr.size ∧ ow b = some (z, 1) ∧ w.heap[b]? = some (.cells arr ty (0, 0)) ∧
    cs.length ≤ arr.size ∧ arr.size ≤ maxLen ∧ arr.toList.take cs.length = xs ∧ FzL (fun _ => False) w cs xs))
def V.isAny : V → Bool
 | .t _ .any => true
 | _ => false
structure Grow (X : Nat → Prop) (w w' : World) : Prop where
 os : w'.os = w.os
 tape : w'.tape = w.tape
 output : w'.output = w.output
 size : w.heap.size ≤ w'.heap.size
 block : ∀ k, k < w.heap.size → ¬ X k → w'.heap[k]? = w.heap[k]?
structure Gam (lo : Nat) (X : Nat → Prop) (par : Nat → Option Value) (ow : Ow) (s : St) (tm : Array Value) (w : World) : Prop where
 base : ∀ b p, ow b = some p → b < w.heap.size ∧ (lo ≤ b ∨ X b)
 low : lo ≤ w.heap.size
 ent : ∀ y, s.lv y = true → (s.get y).isAny = false → ∃ u, nmv tm w y = some u ∧ Rep lo par ow tm w s y (s.get y) u
def RGood (R : St) : Prop := ∀ p ∈ R, p.1 % 1000 = 0 ∧ match p.2 with
 | .t .fr _ => True
 | .own m _ _ => m < 2
 | .tp _ => True
 | .ag _ => True
 | _ => False
def ResRep (lo : Nat) (X : Nat → Prop) (w : World) (u : Value) (R : St) : Prop :=
 RGood R ∧ ∃ ow, Gam lo X (fun _ => none) ow R #[u] w
def CallOk (P : Program) (f : FuncId) (ts : List T) (R : St) : Prop :=
 (∀ args w, (callFunc f args).run P w = .ok (.enter f args) w) ∧ ∀ (w : World) (vs : List Value), FzL (fun _ => True) w ts vs →
  Calls P f vs.toArray w fun e w' => ∃ u, e = .returned u ∧ Grow (fun _ => False) w w' ∧ ResRep w.heap.size (fun _ => False) w' u R
def CallX (P : Program) (f : FuncId) (i : Nat) (ts : List T) (t : T) (nl' : Option Bool) (cs' : List T) : Prop :=
 (∀ args w, (callFunc f args).run P w = .ok (.enter f args) w) ∧ ∃ nl cs, ts[i]? = some (.s nl cs) ∧
 ∀ (w : World) (vs : List Value) (ow : Ow) (u : Value), vs.length = ts.length → (∀ b p, ow b = some p → p.1 = i ∧ b < w.heap.size) → vs[i]? = some u →
  (∀ (j : Nat) (tj : T) (vj : Value), j ≠ i → ts[j]? = some tj → vs[j]? = some vj → Fz (fun b => ow b = none) w tj vj) →
  OwnAt w.heap.size (fun z => if z = i then some u else none) ow w i 11 nl cs u →
  Calls P f vs.toArray w fun e w' => ∃ r, e = .returned r ∧ Grow (fun b => ow b ≠ none) w w' ∧ Fz (fun _ => False) w' t r ∧
   ∃ ow' : Ow, (∀ b p, ow' b = some p → p.1 = i ∧ b < w'.heap.size ∧ (w.heap.size ≤ b ∨ ow b ≠ none)) ∧ OwnAt w.heap.size (fun _ => none) ow' w' i 1 nl' cs' u
def CallC (P : Program) (f : FuncId) (is : List Nat) (ts : List T) (R : St) : Prop :=
 (∀ args w, (callFunc f args).run P w = .ok (.enter f args) w) ∧ ∀ (w : World) (vs : List Value) (ow : Ow), vs.length = ts.length → (∀ b p, ow b = some p → p.1 ∈ is ∧ b < w.heap.size) →
  (∀ (j : Nat) (t : T) (v : Value), ts[j]? = some t → vs[j]? = some v → (j ∈ is → ∃ nl cs, t = .s nl cs ∧ OwnAt w.heap.size (fun _ => none) ow w j 1 nl cs v) ∧ (j ∉ is → Fz (fun b => ow b = none) w t v)) →
  Calls P f vs.toArray w fun e w' => ∃ u, e = .returned u ∧ Grow (fun b => ow b ≠ none) w w' ∧ ResRep w.heap.size (fun b => ow b ≠ none) w' u R
def CallCK (P : Program) (f : FuncId) (is : List Nat) (ts : List T) (κ : St → Prop) : Prop := ∃ R, CallC P f is ts R ∧ κ R
def CallA (P : Program) (f : FuncId) (i : Nat) (ts : List T) (t : T) : Prop :=
 (∀ args w, (callFunc f args).run P w = .ok (.enter f args) w) ∧ ∃ fs, ts[i]? = some (.a fs) ∧
 ∀ (w : World) (vs : List Value) (ow : Ow) (xs : List Value), vs.length = ts.length → (∀ b p, ow b = some p → p.1 % 1000 = i ∧ b < w.heap.size) → vs[i]? = some (.agg xs.toArray) → xs.length = fs.length →
  (∀ (c : Nat) (t' : T), fs[c]? = some t' → ∃ nl cs x, t' = .s nl cs ∧ xs[c]? = some x ∧ OwnAt w.heap.size (fun _ => none) ow w (i + 1000 * (200 + c)) 1 nl cs x) →
  (∀ (j : Nat) (tj : T) (vj : Value), j ≠ i → ts[j]? = some tj → vs[j]? = some vj → Fz (fun b => ow b = none) w tj vj) →
  Calls P f vs.toArray w fun e w' => ∃ r, e = .returned r ∧ Grow (fun b => ow b ≠ none) w w' ∧ Fz (fun _ => False) w' t r
def CallAK (P : Program) (f : FuncId) (i : Nat) (ts : List T) (κ : T → Prop) : Prop := ∃ t, CallA P f i ts t ∧ κ t
def CallQ (P : Program) (f : FuncId) (i : Nat) (ts : List T) (cs' : List T) (R : St) : Prop :=
 (∀ args w, (callFunc f args).run P w = .ok (.enter f args) w) ∧ ∃ cs, ts[i]? = some (.q cs 0) ∧ cs'.length = cs.length ∧
 ∀ (w : World) (vs : List Value) (b : Nat) (arr : Array Value) (ty : TypeId), vs.length = ts.length → vs[i]? = some (.pointer (some ⟨b, 0, none⟩)) → w.heap[b]? = some (.cells arr ty (0, 0)) →
  FzL (fun k => k ≠ b) w cs arr.toList → (∀ (j : Nat) (tj : T) (vj : Value), j ≠ i → ts[j]? = some tj → vs[j]? = some vj → Fz (fun k => k ≠ b) w tj vj) →
  Calls P f vs.toArray w fun e w' => ∃ u, e = .returned u ∧ Grow (fun k => k = b) w w' ∧ ResRep w.heap.size (fun _ => False) w' u R ∧
   ∃ (arr' : Array Value) (ty' : TypeId), w'.heap[b]? = some (.cells arr' ty' (0, 0)) ∧ FzL (fun _ => True) w' cs' arr'.toList
def CallQK (P : Program) (f : FuncId) (i : Nat) (ts : List T) (κ : List T → St → Prop) : Prop := ∃ cs' R, CallQ P f i ts cs' R ∧ κ cs' R
def CallN (P : Program) (f : FuncId) (ts : List T) (cs' : List T) : Prop :=
 (∀ args w, (callFunc f args).run P w = .ok (.enter f args) w) ∧ ∀ (w : World) (vs : List Value), FzL (fun _ => True) w ts vs →
  Calls P f vs.toArray w fun e w' => ∃ b, e = .returned (.pointer (some ⟨b, 0, none⟩)) ∧ Grow (fun _ => False) w w' ∧ w.heap.size ≤ b ∧
   ∃ (arr : Array Value) (ty : TypeId), w'.heap[b]? = some (.cells arr ty (0, 0)) ∧ FzL (fun _ => True) w' cs' arr.toList
def CallNK (P : Program) (f : FuncId) (ts : List T) (κ : List T → Prop) : Prop := ∃ cs', CallN P f ts cs' ∧ κ cs'
def CallXK (P : Program) (f : FuncId) (i : Nat) (ts : List T) (κ : T → Option Bool → List T → Prop) : Prop := ∃ t nl' cs', CallX P f i ts t nl' cs' ∧ κ t nl' cs'
inductive Bo where
 | add | sub | mul | quo | rem | and | shl | shr | xor | or | eql | neq | lss | leq | gtr | geq | adw | sbw | mlw
def andI (a b : Int) : Int := IntKind.i64.wrap ((BitVec.ofInt 64 a &&& BitVec.ofInt 64 b).toNat : Int)
def xorI (a b : Int) : Int := IntKind.i64.wrap ((BitVec.ofInt 64 a ^^^ BitVec.ofInt 64 b).toNat : Int)
def wrI (n : Int) : Int := IntKind.i64.wrap n
def orI (a b : Int) : Int := IntKind.i64.wrap ((BitVec.ofInt 64 a ||| BitVec.ofInt 64 b).toNat : Int)
inductive O where
 | mv | pick | bin (o : Bo) | beq | bne | nil | nnil | not | neg | len | idx | ld
 | fa (k : Nat) | fld (k : Nat) | sub (lo hi : Bool) | bld | litF | boxF | clo (f : Nat) | nilc | mn | mx
 | call (f : Nat) | callC | ext (k : Nat) | lde | cap | subp | boxS | lds (n : Nat) | cvw (k : IntKind) | cvi | ub (o : Bo) | callO (f z : Nat) | mkO (z : Nat) (t : T) | cloF (f : Nat) | litO (z : Nat) (e : Bool) | appO (z : Nat) | newO (z n : Nat) | shw (n : Nat) | mkF (t : T)
def frV (R : St) : V :=
 match R.get 0 with
 | .t _ t => .mk .fr t
 | .own _ nl cs => .t .fr (.s nl cs)
 | .tp k => .t .fr (.u (R.cells 0 100 0 k))
 | .ag k => .t .fr (.a (R.cells 0 200 0 k))
 | _ => .any
def G.bas : G → Bool
 | .arg => true
 | .fr => true
 | _ => false
def G.join : G → G → Option G
 | .fr, .fr => some .fr
 | .fr, .arg => some .arg
 | .arg, .fr => some .arg
 | .arg, .arg => some .arg
 | _, _ => none
def T.one : T → Bool
 | .i _ => true
 | .b _ => true
 | .s _ _ => true
 | .q _ _ => true
 | .c _ _ => true
 | .w _ _ => true
 | .xv _ t => t.one
 | _ => false
def partsC (g : G) (r : T) : Option (G × List T) → Option (G × List T)
 | some (g', ts) => bif r.one then (g.join g').map fun h => (h, r :: ts) else none
 | none => none
def parts : List W → Option (G × List T)
 | [] => some (.fr, [])
 | .t g t :: ws => partsC g t (parts ws)
 | _ => none
def caps : List W → Option (List Cap)
 | [] => some []
 | .t g t :: ws => (caps ws).map (.t g t :: ·)
 | .pc z _ _ :: ws => bif z / 1000 == 1 then (caps ws).map (.p z :: ·) else none
 | _ => none
def subOk (l h : Int) (n : Nat) : Prop := 0 ≤ l ∧ l ≤ h ∧ h ≤ n
def W.len : W → Int
 | .t _ (.s _ cs) => cs.length
 | .own _ _ _ cs => cs.length
 | _ => 0
def minI : List W → Option Int
 | [.t _ (.i a)] => some a
 | .t _ (.i a) :: ws => (minI ws).map (min a)
 | _ => none
def maxI : List W → Option Int
 | [.t _ (.i a)] => some a
 | .t _ (.i a) :: ws => (maxI ws).map (max a)
 | _ => none
def CallK (P : Program) (f : FuncId) (ts : List T) (κ : St → Prop) : Prop := ∃ R, CallOk P f ts R ∧ κ R
def subK (w : W) (l h : Int) (κ : V → Prop) : Prop :=
 match w with
 | .t g (.s nl cs) => subOk l h cs.length ∧ κ (.t g (.s nl ((cs.take h.toNat).drop l.toNat)))
 | .own y _ nl cs => subOk l h cs.length ∧ κ (.t (.sp y) (.s nl ((cs.take h.toNat).drop l.toNat)))
 | _ => False
def binK : Bo → Int → Int → (V → Prop) → Prop
 | .add, a, b, κ => inR (a + b) ∧ κ (.i (a + b))
 | .sub, a, b, κ => inR (a - b) ∧ κ (.i (a - b))
 | .mul, a, b, κ => inR (a * b) ∧ κ (.i (a * b))
 | .quo, a, b, κ => b ≠ 0 ∧ inR (a.tdiv b) ∧ κ (.i (a.tdiv b))
 | .rem, a, b, κ => b ≠ 0 ∧ κ (.i (a.tmod b))
 | .and, a, b, κ => κ (.i (andI a b))
 | .shl, a, b, κ => 0 ≤ b ∧ b < 64 ∧ inR (a * 2 ^ b.toNat) ∧ κ (.i (a * 2 ^ b.toNat))
 | .shr, a, b, κ => 0 ≤ b ∧ b < 64 ∧ κ (.i (a / 2 ^ b.toNat))
 | .xor, a, b, κ => κ (.i (xorI a b))
 | .or, a, b, κ => κ (.i (orI a b))
 | .eql, a, b, κ => κ (.b (decide (a = b)))
 | .neq, a, b, κ => κ (.b (decide (a ≠ b)))
 | .lss, a, b, κ => κ (.b (decide (a < b)))
 | .leq, a, b, κ => κ (.b (decide (a ≤ b)))
 | .gtr, a, b, κ => κ (.b (decide (b < a)))
 | .geq, a, b, κ => κ (.b (decide (b ≤ a)))
 | .adw, a, b, κ => κ (.i (wrI (a + b)))
 | .sbw, a, b, κ => κ (.i (wrI (a - b)))
 | .mlw, a, b, κ => κ (.i (wrI (a * b)))
def andK (k : IntKind) (a b : Int) : Int := k.wrap ((BitVec.ofInt k.bits a &&& BitVec.ofInt k.bits b).toNat : Int)
def ubK : Bo → IntKind → Int → Int → (V → Prop) → Prop
 | .add, k, a, b, κ => κ (.t .fr (.w k (k.wrap (a + b))))
 | .sub, k, a, b, κ => κ (.t .fr (.w k (k.wrap (a - b))))
 | .mul, k, a, b, κ => κ (.t .fr (.w k (k.wrap (a * b))))
 | .and, k, a, b, κ => κ (.t .fr (.w k (andK k a b)))
 | .shr, k, a, b, κ => 0 ≤ b ∧ b.toNat ≤ k.bits ∧ κ (.t .fr (.w k (a.fdiv (2 ^ b.toNat))))
 | .eql, _, a, b, κ => κ (.b (decide (a = b)))
 | .neq, _, a, b, κ => κ (.b (decide (a ≠ b)))
 | .lss, _, a, b, κ => κ (.b (decide (a < b)))
 | .leq, _, a, b, κ => κ (.b (decide (a ≤ b)))
 | .gtr, _, a, b, κ => κ (.b (decide (b < a)))
 | .geq, _, a, b, κ => κ (.b (decide (b ≤ a)))
 | _, _, _, _, _ => False
def optK {α : Type} (x : Option α) (κ : α → Prop) : Prop := match x with | some a => κ a | none => False
def nilcOk : W → Bool
 | .pc .. => true | .pe .. => true | .clo .. => true | .t _ (.q _ _) => true | .t _ (.c _ _) => true | _ => false
def nilK : Option Bool → List T → (Bool → Prop) → Prop
 | some n, _, k => k n
 | none, cs, k => cs ≠ [] ∧ k false
def foK (z : Nat) (κ : V → Prop) : V → V → V → Prop
 | .own m nl cs, _, _ => m < 2 ∧ scalL cs ∧ κ (.fo z none nl cs)
 | .tp n, .own m nl cs, .t _ t => n = 2 ∧ m < 2 ∧ scalL cs ∧ t.scal ∧ κ (.fo z (some t) nl cs)
 | _, _, _ => False
def extF (z : Nat) (t : T) (nl : Option Bool) (cs : List T) (κ : V → Prop) : Nat → Prop
 | 0 => t.scal ∧ κ (.fo z none nl cs)
 | 1 => t.scal ∧ κ (.t .fr t)
 | _ => False
def erI (y j : Nat) (n : Int) (κ : V → Prop) : T → Prop
 | .s _ row => 0 ≤ n ∧ n.toNat < row.length ∧ κ (.er y (erB * (1 + n.toNat) + j))
 | _ => False
def stepK (P : Program) : O → List W → (V → Prop) → Prop
 | .mv, [x], κ => κ x.toV
 | .pick, [.t _ (.b p), x, y], κ => κ (bif p then x.toV else y.toV)
 | .bin o, [.t _ (.i a), .t _ (.i b)], κ => binK o a b κ
 | .beq, [.t _ (.b a), .t _ (.b b)], κ => κ (.b (a == b))
 | .bne, [.t _ (.b a), .t _ (.b b)], κ => κ (.b (a != b))
 | .nil, [.t _ (.s nl cs)], κ => nilK nl cs fun n => κ (.b n)
 | .nil, [.own _ _ nl cs], κ => nilK nl cs fun n => κ (.b n)
 | .nnil, [.t _ (.s nl cs)], κ => nilK nl cs fun n => κ (.b (!n))
 | .nnil, [.own _ _ nl cs], κ => nilK nl cs fun n => κ (.b (!n))
 | .not, [.t _ (.b a)], κ => κ (.b (!a))
 | .neg, [.t _ (.i a)], κ => inR (-a) ∧ κ (.i (-a))
 | .len, [.t _ (.s _ cs)], κ => κ (.i cs.length)
 | .len, [.own _ _ _ cs], κ => κ (.i cs.length)
 | .idx, [.t g (.s _ cs), .t _ (.i n)], κ => 0 ≤ n ∧ n.toNat < cs.length ∧ κ (.t g (.q cs n.toNat))
 | .idx, [.own y _ _ cs, .t _ (.i n)], κ => 0 ≤ n ∧ n.toNat < cs.length ∧ κ (.pe y n.toNat)
 | .ld, [.t g (.q cs k)], κ => k < cs.length ∧ κ (.mk g (cs.getD k .any))
 | .ld, [.pe y j m _ cs], κ => j < cs.length ∧ κ (.mk (tagM m y) (cs.getD j .any))
 | .ld, [.pc _ x _], κ => x.isName = false ∧ κ x
 | .lde, [.pe y j _ _ cs], κ => j < cs.length ∧ κ (.er y j)
 | .fa k, [.t g (.q cs j)], κ => κ (.t g (.q cs (j + k)))
 | .fa k, [.pc z _ _], κ => z / 1000 + k < 100 ∧ κ (.pc (z + 1000 * k))
 | .fld k, [.t g (.a fs)], κ => k < fs.length ∧ κ (.mk g (fs.getD k .any))
 | .sub true true, [x, .t _ (.i l), .t _ (.i h)], κ => subK x l h κ
 | .sub true false, [x, .t _ (.i l)], κ => subK x l x.len κ
 | .sub false true, [x, .t _ (.i h)], κ => subK x 0 h κ
 | .sub false false, [x], κ => subK x 0 x.len κ
 | .bld, ws, κ => optK (parts ws) fun p => κ (.t p.1 (.a p.2))
 | .litF, ws, κ => optK (parts ws) fun p => κ (.t p.1 (.s (some false) p.2))
 | .boxF, [.t g r], κ => optK (parts [.t g r]) fun p => κ (.t p.1 (.q p.2 0))
 | .clo f, ws, κ => optK (caps ws) fun cp => κ (.clo f cp)
 | .nilc, [x], κ => nilcOk x = true ∧ κ x.toV
 | .mn, ws, κ => optK (minI ws) fun a => κ (.i a)
 | .mx, ws, κ => optK (maxI ws) fun a => κ (.i a)
 | .call f, ws, κ => CallK P f (ws.map W.res) fun R => κ (frV R)
 | .callC, .clo f _ ts :: ws, κ => CallK P f (ws.map W.res ++ ts) fun R => κ (frV R)
 | .callC, .t _ (.c f ts) :: ws, κ => CallK P f (ws.map W.res ++ ts) fun R => κ (frV R)
 | .ext k, [.t g (.u vs)], κ => k < vs.length ∧ κ (.mk g (vs.getD k .any))
 | .cap, [.t _ (.s (some true) _)], κ => κ (.i 0)
 | .cap, [.own _ _ (some true) _], κ => κ (.i 0)
 | .subp, [.own y _ _ cs, .t _ (.i l)], κ => 0 ≤ l ∧ l ≤ cs.length ∧ κ (.sl y l.toNat cs.length)
 | .boxS, [.t g (.a fs)], κ => g.bas = true ∧ κ (.t g (.q fs 0))
 | .lds n, [.t g (.q cs k)], κ => k + n ≤ cs.length ∧ κ (.t g (.a ((cs.drop k).take n)))
 | .lds n, [.pc z _ ts], κ => z / 1000 = 1 ∧ n = ts.length ∧ κ (.bv (z % 1000))
 | .cvw k, [.t _ (.i a)], κ => κ (.t .fr (.w k (k.wrap a)))
 | .cvi, [.t _ (.w _ a)], κ => inR a ∧ κ (.i a)
 | .ub o, [.t _ (.w k a), .t _ (.w k' b)], κ => k = k' ∧ ubK o k a b κ
 | .callO f z, ws, κ => CallK P f (ws.map W.res) fun R => foK z κ (R.get 0) (R.get 100000) (R.get 101000)
 | .mkO z t, [.t _ (.i l), .t _ (.i c)], κ => 0 ≤ l ∧ l ≤ c ∧ c ≤ 1099511627776 ∧ t.scal ∧ κ (.fo z none (some false) (List.replicate l.toNat t))
 | .ext k, [.fo z (some t) nl cs], κ => extF z t nl cs κ k
 | .cloF f, ws, κ => optK (parts ws) fun p => κ (.t p.1 (.c f p.2))
 | .litO z e, [], κ => κ (.fo z (bif e then some .any else none) (some false) [])
 | .newO z n, [], κ => κ (.fo z (some (.u (List.replicate n .any))) none [])
 | .appO z, [.fo z0 (some .any) _ [], .t _ (.s _ xs)], κ => (z0 = z ∨ xs ≠ []) ∧ scalL xs ∧ xs.length ≤ 1099511627776 ∧ κ (.fo z none (some false) xs)
 | .appO z, [.fo z0 (some .any) _ [], .own _ _ _ xs], κ => (z0 = z ∨ xs ≠ []) ∧ scalL xs ∧ xs.length ≤ 1099511627776 ∧ κ (.fo z none (some false) xs)
 | .len, [.t _ (.xv _ (.s _ cs))], κ => κ (.i cs.length)
 | .idx, [.t g (.xv _ (.s _ cs)), .t _ (.i n)], κ => 0 ≤ n ∧ n.toNat < cs.length ∧ κ (.t g (.q cs n.toNat))
 | .shw n, [.t _ (.i a)], κ => n < 64 ∧ κ (.i (a / 2 ^ n))
 | .mkF t, [.t _ (.i l), .t _ (.i c)], κ => 0 ≤ l ∧ l = c ∧ c ≤ 1048576 ∧ t.scal ∧ κ (.t .fr (.s (some false) (List.replicate l.toNat t)))
 | .idx, [.er y j m _ cs, .t _ (.i n)], κ => j < cs.length ∧ m % 10 = 1 ∧ erI y j n κ (cs.getD j .any)
 | _, _, _ => False
inductive I where
 | v (d : Nat) (o : O) (xs : List X)
 | mkn (d : Nat)
 | tk (d x : Nat)
 | st (p v : X)
 | app (d : Nat) (s x : X) (k : Nat)
 | box (d : Nat) (x : X)
 | new (d : Nat) (zs : List T)
 | lit (d : Nat) (ps : List X) (k : Nat)
 | mk (d : Nat) (z : T) (l c : X)
 | co (d f : Nat) (xs : List X)
 | coC (d : Nat) (xs : List X)
 | cox (d : Option Nat) (f : Nat) (xs : List X) (i : Nat)
 | coc (d f : Nat) (xs : List X) (is : List Nat)
 | cut (d : Nat) (x h : X)
 | cpy (d : Nat) (p q : X)
 | clr (p : X) (z : T)
 | apz (d : Nat) (x n : X) (z : T)
 | onl (y : Nat)
 | frz (y : Nat)
 | tkr (k : Nat)
 | sts (p v : X) (n : Nat)
 | coa (d : Option Nat) (f : Nat) (xs : List X) (i : Nat)
 | cop (d f : Nat) (xs : List X) (i : Nat)
 | con (d f : Nat) (xs : List X)
def I.dst : I → Option Nat
 | .v d _ _ | .mkn d | .tk d _ | .app d _ _ _ | .box d _ | .new d _ | .lit d _ _ | .mk d _ _ _ | .co d _ _ | .coC d _ | .coc d _ _ _ | .cut d _ _ | .cpy d _ _ | .apz d _ _ _ | .cop d _ _ _ | .con d _ _ => some d
 | .cox d _ _ _ => d
 | .coa d _ _ _ => d
 | _ => none
def St.moved (x d : Nat) : St → St
 | [] => []
 | (k, v) :: s => bif hangs x k then (k - x + d, bif v.on d || v.on x then .any else v) :: St.moved x d s else St.moved x d s
def St.mvN (x d : Nat) (s : St) : St := St.moved x d s ++ (s.kill d).rt x d
def St.shift (d : Nat) : St → St
 | [] => []
 | (k, v) :: s => (k + d, v) :: St.shift d s
def boxN (d : Nat) : Nat → List T → St
 | _, [] => []
 | j, t :: ts => (d + 1000 * (1 + j), .mk .fr t) :: boxN d (j + 1) ts
def boxG (g : G) (d : Nat) : Nat → List T → St
 | _, [] => []
 | j, t :: ts => (d + 1000 * (1 + j), .mk g t) :: boxG g d (j + 1) ts
def nlApp (nl : Option Bool) (xs : List T) : Option Bool := bif xs.isEmpty then nl else some false
def appBase : W → Option (Option Nat × Nat × Option Bool × List T)
 | .own y m nl cs => some (some y, m % 10, nl, cs)
 | .t _ (.s (some true) []) => some (none, 1, some true, [])
 | _ => none
def rtO (y : Option Nat) (d : Nat) (s : St) : St := match y with | some y => s.rt y d | none => s
def St.take1 (s : St) (y d : Nat) (nl : Option Bool) (cs : List T) : St := (y, .t (.rw d) (.s nl cs)) :: s.kill y
def rowScal : T → Prop
 | .s _ cs => scalL cs
 | _ => False
def rowL (cs : List T) : Prop := ∀ t ∈ cs, rowScal t
def erS (s : St) (K : St → Prop) (y j m : Nat) (nl : Option Bool) (cs : List T) (r : T) : T → Prop
 | .s nx row => j / erB - 1 < row.length ∧ K ((y, .own m nl (cs.set (j % erB) (.s nx (row.set (j / erB - 1) r)))) :: s.kill y)
 | _ => False
def stK (s : St) (K : St → Prop) : W → W → Prop
 | .pe y j m nl cs, .t g r => j < cs.length ∧ (r.scal ∨ (g = .fr ∧ m % 10 = 0 ∧ r.one = true)) ∧ K ((y, .own m nl (cs.set j r)) :: s.killSp y)
 | .pe y j m nl cs, .own x mx nx cx => hangs x y = false ∧ mx < 10 ∧ scalL cx ∧ j < cs.length ∧ m % 10 = 1 ∧ K ((y, .own m nl (cs.set j (.s nx cx))) :: (s.take1 x y nx cx).killSp y)
 | .pc z _ _, .t g r => r.one = true ∧ (V.t g r).onSp (z % 1000) = false ∧ z / 1000 < 100 ∧ K ((z, .t g r) :: s.killSp (z % 1000))
 | .pc z _ _, .own x mx nx cx => hangs z x = false ∧ hangs x (z % 1000) = false ∧ z / 1000 < 100 ∧ mx < 10 ∧ K ((z, .own mx nx cx) :: ((s.kill z).rt x z).killSp (z % 1000))
 | .er y j m nl cs, .t _ r => erB ≤ j ∧ m % 10 = 1 ∧ r.scal ∧ j % erB < cs.length ∧ rowL cs ∧ erS s K y j m nl cs r (cs.getD (j % erB) .any)
 | _, _ => False
def tkK (d x : Nat) (s : St) (K : St → Prop) : V → Prop
 | .own m _ _ => m < 10 ∧ hangs d x = false ∧ s.lv x = true ∧ K (s.mvN x d)
 | .bx _ => hangs d x = false ∧ x < 1000 ∧ K (s.mvN x d)
 | .tp _ => hangs d x = false ∧ x < 1000 ∧ K (s.mvN x d)
 | .ag _ => hangs d x = false ∧ x < 1000 ∧ K (s.mvN x d)
 | v => s.lv x = true ∧ (x < 1000 ∨ v.isAny = false) ∧ K ((d, (s.look (.s x)).toV) :: s)
def offO (d : Nat) : Option Nat → Bool
 | some y => !hangs d y
 | none => true
def appK (d : Nat) (s : St) (K : St → Prop) (y : Option Nat) (m : Nat) (nl : Option Bool) (cs : List T) : Nat → W → Prop
 | 0, .t _ (.s _ xs) => offO d y = true ∧ scalL xs ∧ cs.length + xs.length ≤ 1099511627776 ∧ K ((d, .own m (nlApp nl xs) (cs ++ xs)) :: rtO y d (s.kill d))
 | 0, .own _ _ _ xs => offO d y = true ∧ scalL xs ∧ cs.length + xs.length ≤ 1099511627776 ∧ K ((d, .own m (nlApp nl xs) (cs ++ xs)) :: rtO y d (s.kill d))
 | 1, .own z 1 _ xs => offO d y = true ∧ hangs d z = false ∧ y ≠ some z ∧ xs.all T.one = true ∧ (m = 1 ∨ cs = []) ∧ cs.length + xs.length ≤ 1099511627776 ∧ K ((d, .own 1 (nlApp nl xs) (cs ++ xs)) :: rtO y d ((s.kill d).rt z d))
 | 2, .t .fr (.s _ xs) => offO d y = true ∧ xs.all T.one = true ∧ (m = 0 ∨ cs = []) ∧ cs.length + xs.length ≤ 1099511627776 ∧ K ((d, .own 0 (nlApp nl xs) (cs ++ xs)) :: rtO y d (s.kill d))
 | 2, .own z 0 _ xs => offO d y = true ∧ xs.all T.one = true ∧ (m = 0 ∨ cs = []) ∧ cs.length + xs.length ≤ 1099511627776 ∧ K ((d, .own 0 (nlApp nl xs) (cs ++ xs)) :: rtO y d (s.kill d))
 | _, _ => False
def st1K (z x : Nat) (s : St) (K : St → Prop) : V → Prop
 | .own m nl cs => s.lv x = true ∧ hangs z x = false ∧ hangs x (z % 1000) = false ∧ z / 1000 < 100 ∧ m < 10 ∧ K ((z, .own m nl cs) :: ((s.kill z).rt x z).killSp (z % 1000))
 | .t g r => s.lv x = true ∧ g.bas = true ∧ r.one = true ∧ z / 1000 < 100 ∧ K ((z, .t g r) :: s.killSp (z % 1000))
 | _ => False
def stFK (g : G) (z : Nat) : Nat → List T → St → (St → Prop) → Prop
 | _, [], s, K => K s
 | j, t :: fs, s, K => t.one = true ∧ stFK g z (j + 1) fs ((z + 1000 * (1 + j), .mk g t) :: s.killSp z) K
def stSK (z y c : Nat) : Nat → Nat → St → (St → Prop) → Prop
 | _, 0, s, K => K s
 | j, n + 1, s, K => st1K (z + 1000 * (1 + j)) (y + 1000 * (c + j)) s (fun s' => stSK z y c (j + 1) n s' K) (s.get (y + 1000 * (c + j)))
def stsK (n : Nat) (s : St) (K : St → Prop) : W → W → Prop
 | .pc z _ ts, .ag y m _ => z / 1000 = 1 ∧ m = n ∧ ts.length = n ∧ n < 90 ∧ stSK (z % 1000) y 200 0 n s K
 | .pc z _ ts, .bv y m _ => z / 1000 = 1 ∧ m = n ∧ ts.length = n ∧ n < 90 ∧ z % 1000 ≠ y ∧ stSK (z % 1000) y 1 0 n s K
 | .pc z _ ts, .t g (.a fs) => z / 1000 = 1 ∧ g.bas = true ∧ fs.length = n ∧ ts.length = n ∧ n < 90 ∧ stFK g (z % 1000) 0 fs s K
 | _, _ => False
def boxK (d : Nat) (s : St) (K : St → Prop) : W → Prop
 | .t g (.a fs) => fs.length < 90 ∧ K ((d, .bx fs.length) :: (boxG g d 0 fs ++ s.kill d))
 | .t g r => r.one = true ∧ K ((d, .bx 1) :: (d + 1000, .t g r) :: s.kill d)
 | .own x m nl cs => hangs d x = false ∧ m < 10 ∧ K ((d, .bx 1) :: (d + 1000, .own m nl cs) :: (s.kill d).rt x (d + 1000))
 | .ag y n _ => hangs d y = false ∧ n < 90 ∧ stSK d y 200 0 n ((d, .bx n) :: s.kill d) K
 | _ => False
def litK (d : Nat) (s : St) (K : St → Prop) : Nat → List W → Prop
 | 0, ws => optK (parts ws) fun p => scalL p.2 ∧ K ((d, .own 1 (some false) p.2) :: s.kill d)
 | 1, [.own x m nl cs] => hangs d x = false ∧ m < 10 ∧ scalL cs ∧ K ((d, .own 1 (some false) [.s nl cs]) :: (s.kill d).take1 x d nl cs)
 | 2, ws => optK (parts ws) fun p => p.1 = .fr ∧ K ((d, .own 0 (some false) p.2) :: s.kill d)
 | _, _ => False
def mkK (d : Nat) (z : T) (s : St) (K : St → Prop) : W → W → Prop
 | .t _ (.i l), .t _ (.i c) => 0 ≤ l ∧ l ≤ c ∧ c ≤ 1099511627776 ∧ K ((d, .own 1 (some false) (List.replicate l.toNat z)) :: s.kill d)
 | _, _ => False
def coCK (P : Program) (d : Nat) (s : St) (K : St → Prop) : List W → Prop
 | .clo f _ ts :: ws => CallK P f (ws.map W.res ++ ts) fun R => K (R.shift d ++ s.kill d)
 | .t _ (.c f ts) :: ws => CallK P f (ws.map W.res ++ ts) fun R => K (R.shift d ++ s.kill d)
 | _ => False
def St.offBox (s : St) (y z : Nat) : Nat → Nat → Bool
 | _, 0 => true
 | j, n + 1 => (match s.get (z + 1000 * (1 + j)) with
  | .t g _ => !g.on y
  | .own _ _ _ => !(z + 1000 * (1 + j) == y)
  | .al q => !(q == y)
  | _ => true) && St.offBox s y z (j + 1) n
def St.offBx (s : St) (y z : Nat) : V → Bool
 | .bx n => s.offBox y z 0 n
 | _ => true
def St.offCaps (s : St) (y : Nat) : List Cap → Bool
 | [] => true
 | .t g _ :: cs => !g.on y && St.offCaps s y cs
 | .p z :: cs => s.offBx y (z % 1000) (s.get (z % 1000)) && St.offCaps s y cs
def St.offW (s : St) (y : Nat) : W → Bool
 | .t g _ => !g.on y
 | .own z _ _ _ => !(z == y)
 | .clo _ cp _ => s.offCaps y cp
 | .tp _ _ => true
 | .no => true
 | _ => false
def St.offA (s : St) (y : Nat) : List W → Bool
 | [] => true
 | w :: ws => s.offW y w && St.offA s y ws
def St.offL (s : St) (y : Nat) : Nat → List W → Bool
 | _, [] => true
 | 0, _ :: ws => s.offA y ws
 | i + 1, w :: ws => s.offW y w && St.offL s y i ws
def putD (d : Option Nat) (v : V) (s : St) : St := match d with | some d => (d, v) :: s | none => s
def coxK (P : Program) (d : Option Nat) (f i : Nat) (s : St) (K : St → Prop) (ws : List W) : Option W → Prop
 | some (.own y m nl cs) => s.offL y i ws = true ∧ (m % 10 = 1 ∨ scalL cs) ∧ CallXK P f i (ws.map W.res) fun t nl' cs' => (m % 10 = 1 ∨ scalL cs') ∧ K (putD d (.mk .fr t) ((y, .own m nl' cs') :: s.kill y))
 | some (.er y j m nl cs) => s.offL y i ws = true ∧ m % 10 = 1 ∧ j < cs.length ∧ rowL cs ∧ CallXK P f i (ws.map W.res) fun t nl' cs' => scalL cs' ∧ K (putD d (.mk .fr t) ((y, .own m nl (cs.set j (.s nl' cs'))) :: s.kill y))
 | _ => False
def scalA : List W → Prop
 | [] => True
 | .t _ r :: ws => r.scal ∧ scalA ws
 | _ => False
def scalI : Nat → List W → Prop
 | _, [] => True
 | 0, _ :: ws => scalA ws
 | i + 1, .t _ r :: ws => r.scal ∧ scalI i ws
 | _, _ => False
def ownV : V → Prop
 | .own m _ cs => m = 1 ∨ (m < 10 ∧ scalL cs)
 | _ => False
def ownC (s : St) (y c : Nat) : Nat → Nat → Prop
 | _, 0 => True
 | j, n + 1 => ownV (s.get (y + 1000 * (c + j))) ∧ ownC s y c (j + 1) n
def coaK (P : Program) (d : Option Nat) (f i : Nat) (s : St) (K : St → Prop) (ws : List W) : Option W → Prop
 | some (.bv z n _) => scalI i ws ∧ i < 1000 ∧ n < 90 ∧ ownC s z 1 0 n ∧ CallAK P f i (ws.map W.res) fun t => K (putD d (.mk .fr t) (s.kill z))
 | _ => False
def curV : V → Prop
 | .t g _ => g.bas = true
 | _ => False
def curC (s : St) (y : Nat) : Nat → Nat → Prop
 | _, 0 => True
 | j, n + 1 => curV (s.get (y + 1000 * (1 + j))) ∧ curC s y (j + 1) n
def curT : T → T → Prop
 | .xv u t, t' => t' = .xv u t
 | _, t' => t'.scal
def curL : List T → List T → Prop
 | [], [] => True
 | t :: ts, t' :: ts' => curT t t' ∧ curL ts ts'
 | _, _ => False
def copK (P : Program) (d f i : Nat) (s : St) (K : St → Prop) (ws : List W) : Option W → Prop
 | some (.pc z _ ts) => z / 1000 = 1 ∧ (d == z % 1000) = false ∧ ts.length < 90 ∧ curC s (z % 1000) 0 ts.length ∧ scalI i ws ∧ CallQK P f i (ws.map W.res) fun cs' R => curL ts cs' ∧ K (boxG .arg (z % 1000) 0 cs' ++ (R.shift d ++ s.kill d).killSp (z % 1000))
 | _ => False
def basA : List W → Prop
 | [] => True
 | .t g _ :: ws => g.bas = true ∧ basA ws
 | _ => False
def hasX (u : Value) (t : T) : List W → Prop
 | [] => False
 | w :: ws => w.res = .xv u t ∨ hasX u t ws
def newT (ws : List W) : T → Prop
 | .xv u t => hasX u t ws
 | t => t.scal
def newL (ws : List W) : List T → Prop
 | [] => True
 | t :: ts => newT ws t ∧ newL ws ts
def conK (P : Program) (d f : Nat) (s : St) (K : St → Prop) (ws : List W) : Prop :=
 basA ws ∧ CallNK P f (ws.map W.res) fun cs' => cs'.length < 90 ∧ newL ws cs' ∧ K ((d, .bx cs'.length) :: (boxG .arg d 0 cs' ++ s.kill d))
def memB (k : Nat) : List Nat → Bool
 | [] => false
 | i :: is => bif k == i then true else memB k is
def St.killL : List Nat → St → St
 | [], s => s
 | z :: zs, s => St.killL zs (s.kill z)
def cocW (zs : List Nat) (κ : Nat → Prop) : Option W → Prop
 | some (.own y m _ cs) => (m = 1 ∨ (scalL cs ∧ m < 10)) ∧ memB y zs = false ∧ κ y
 | _ => False
def cocZ (ws : List W) : List Nat → List Nat → (List Nat → Prop) → Prop
 | [], zs, κ => κ zs
 | i :: is, zs, κ => cocW zs (fun z => cocZ ws is (z :: zs) κ) ws[i]?
def St.offZ (s : St) (w : W) : List Nat → Bool
 | [] => true
 | z :: zs => s.offW z w && St.offZ s w zs
def St.offJ (s : St) (zs is : List Nat) : Nat → List W → Bool
 | _, [] => true
 | k, w :: ws => bif memB k is then St.offJ s zs is (k + 1) ws else (s.offZ w zs && St.offJ s zs is (k + 1) ws)
def cocK (P : Program) (d f : Nat) (is : List Nat) (s : St) (K : St → Prop) (ws : List W) : Prop :=
 cocZ ws is [] fun zs => s.offJ zs is 0 ws = true ∧ CallCK P f is (ws.map W.res) fun R => K (R.shift d ++ St.killL zs (s.kill d))
def frzK (y : Nat) (s : St) (K : St → Prop) : V → Prop
 | .own m nl cs => m < 2 ∧ s.lv y = true ∧ K ((y, .t .fr (.s nl cs)) :: s.kill y)
 | _ => False
def onlK (y : Nat) (s : St) (K : St → Prop) : V → Prop
 | .t _ (.s (some true) _) => s.lv y = true ∧ K ((y, .own 1 (some true) []) :: s.kill y)
 | _ => False
def holL (cs : List T) : Prop := ∀ t ∈ cs, t.isAny = true ∨ rowScal t
def tkrR (k y j m : Nat) (nl : Option Bool) (cs : List T) (s : St) (K : St → Prop) : T → Prop
 | .s nx cx => k < 1000 ∧ hangs k y = false ∧ hangs y k = false ∧ m % 10 = 1 ∧ j < cs.length ∧ holL cs ∧ K ((k, .own 1 nx cx) :: St.kill k ((y, .own m nl (cs.set j .any)) :: s.killRs y))
 | _ => False
def tkrK (k : Nat) (s : St) (K : St → Prop) : W → Prop
 | .er y j m nl cs => tkrR k y j m nl cs s K (cs.getD j .any)
 | .fo z none nl cs => k < 1000 ∧ 1000 ≤ z ∧ hangs k z = false ∧ K ((k, .own 1 nl cs) :: St.kill k (St.kill z s))
 | .fo z (some (.u us)) _ _ => k < 1000 ∧ 1000 ≤ z ∧ hangs k z = false ∧ K ((k, .bx (us.length + 1)) :: St.kill k (St.kill z s))
 | _ => False
def cutK (d : Nat) (s : St) (K : St → Prop) : W → W → Prop
 | .own y m nl cs, .t _ (.i h) => hangs d y = false ∧ m < 10 ∧ 0 ≤ h ∧ h ≤ cs.length ∧ K ((d, .own m nl (cs.take h.toNat)) :: (s.kill d).rt y d)
 | _, _ => False
def cpyD : W → Option (Nat × Nat × Nat × Nat × Option Bool × List T)
 | .own y m nl cs => some (y, 0, cs.length, m, nl, cs)
 | .sl y l h m nl cs => some (y, l, h, m, nl, cs)
 | _ => none
def W.cont? : W → Option (List T)
 | .t _ (.s _ cs) => some cs
 | .own _ _ _ cs => some cs
 | _ => none
def cpyL (l h : Nat) (cs xs : List T) : List T := cs.take l ++ xs.take (h - l) ++ cs.drop (l + min xs.length (h - l))
def cpyK (d : Nat) (s : St) (K : St → Prop) (p : Option (Nat × Nat × Nat × Nat × Option Bool × List T)) (q : Option (List T)) : Prop :=
 optK p fun p => optK q fun xs => p.2.1 ≤ p.2.2.1 ∧ p.2.2.1 ≤ p.2.2.2.2.2.length ∧ scalL p.2.2.2.2.2 ∧ scalL xs ∧
  K ((d, .i (min xs.length (p.2.2.1 - p.2.1) : Nat)) :: (p.1, .own p.2.2.2.1 p.2.2.2.2.1 (cpyL p.2.1 p.2.2.1 p.2.2.2.2.2 xs)) :: s.killSp p.1)
def clrK (s : St) (K : St → Prop) (z : T) (p : Option (Nat × Nat × Nat × Nat × Option Bool × List T)) : Prop :=
 optK p fun p => p.2.1 ≤ p.2.2.1 ∧ p.2.2.1 ≤ p.2.2.2.2.2.length ∧ scalL p.2.2.2.2.2 ∧ z.scal ∧
  K ((p.1, .own p.2.2.2.1 p.2.2.2.2.1 (p.2.2.2.2.2.take p.2.1 ++ List.replicate (p.2.2.1 - p.2.1) z ++ p.2.2.2.2.2.drop p.2.2.1)) :: s.killSp p.1)
def apzK (d : Nat) (z : T) (s : St) (K : St → Prop) : W → W → Prop
 | .t _ (.s (some true) []), .t _ (.i n) => 0 ≤ n ∧ n ≤ 1099511627776 ∧ K ((d, .own 1 none (List.replicate n.toNat z)) :: s.kill d)
 | _, _ => False
def wpI (P : Program) : I → (St → Prop) → St → Prop
 | .v d o xs, K, s => stepK P o (xs.map s.look) fun v => K ((d, v) :: s)
 | .mkn d, K, s => K ((d, .own 1 (some true) []) :: s.kill d)
 | .tk d x, K, s => tkK d x s K (s.get x)
 | .st p v, K, s => stK s K (s.look p) (s.look v)
 | .app d x e k, K, s => optK (appBase (s.look x)) fun q => appK d s K q.1 q.2.1 q.2.2.1 q.2.2.2 k (s.look e)
 | .box d x, K, s => boxK d s K (s.look x)
 | .new d zs, K, s => K ((d, .bx zs.length) :: (boxN d 0 zs ++ s.kill d))
 | .lit d ps k, K, s => litK d s K k (ps.map s.look)
 | .mk d z l c, K, s => mkK d z s K (s.look l) (s.look c)
 | .co d f xs, K, s => CallK P f (xs.map fun x => (s.look x).res) fun R => K (R.shift d ++ s.kill d)
 | .coC d xs, K, s => coCK P d s K (xs.map s.look)
 | .cox d f xs i, K, s => coxK P d f i s K (xs.map s.look) (xs.map s.look)[i]?
 | .frz y, K, s => frzK y s K (s.get y)
 | .coc d f xs is, K, s => cocK P d f is s K (xs.map s.look)
 | .cut d x h, K, s => cutK d s K (s.look x) (s.look h)
 | .cpy d p q, K, s => cpyK d s K (cpyD (s.look p)) (s.look q).cont?
 | .clr p z, K, s => clrK s K z (cpyD (s.look p))
 | .apz d x n z, K, s => apzK d z s K (s.look x) (s.look n)
 | .onl y, K, s => onlK y s K (s.get y)
 | .tkr k, K, s => tkrK k s K (s.look (.s k))
 | .sts p v n, K, s => stsK n s K (s.look p) (s.look v)
 | .coa d f xs i, K, s => coaK P d f i s K (xs.map s.look) (xs.map s.look)[i]?
 | .cop d f xs i, K, s => copK P d f i s K (xs.map s.look) (xs.map s.look)[i]?
 | .con d f xs, K, s => conK P d f s K (xs.map s.look)
abbrev Gd := Option (Nat × Bool)
abbrev V.un : V := .t .fr (.u [])
def guardK (t : Nat) (s : St) (want : Bool) (k1 k2 : St → Prop) : V → Prop
 | .t .fr (.b x) => (x = want → k1 ((t, .b want) :: s)) ∧ (x = !want → k2 ((t, .b (!want)) :: s))
 | .t .fr (.u []) => k2 ((t, .un) :: s)
 | _ => False
def skipI (i : I) (s : St) : St := match i.dst with | some d => (d, .un) :: s | none => s
def wpL (P : Program) : List (Gd × I) → (St → Prop) → St → Prop
 | [], K, s => K s
 | (none, i) :: r, K, s => wpI P i (wpL P r K) s
 | (some g, i) :: r, K, s => guardK g.1 s g.2 (wpI P i (wpL P r K)) (fun s => wpL P r K (skipI i s)) (s.get g.1)
def noNm : Nat → List (Gd × I) → St → Prop
 | 0, _, _ => True
 | _ + 1, [], _ => True
 | n + 1, (_, .frz _) :: r, s => noNm (n + 1) r s
 | n + 1, (_, i) :: r, s => (match i.dst with | some d => (s.get d).isName = false | none => True) ∧ noNm n r s
abbrev FltS := Nat × Nat × Nat × Option (Nat × Int)
def isIV : V → Bool
 | .t _ (.i _) => true
 | _ => false
def intsK : List FltS → St → Prop
 | [], _ => True
 | (_, _, _, none) :: r, s => intsK r s
 | (_, _, y, some _) :: r, s => isIV (s.get y) = true ∧ intsK r s
inductive C where
 | skip
 | rg (n : Nat) (ops : List (Gd × I))
 | rgF (n e : Nat) (F : List FltS) (ops : List (Gd × I))
 | rgE (n k : Nat) (h e t : List (Gd × I))
 | rgH (is es : List Nat) (ls : List (Gd × I)) (effs : List (List (Gd × I) × List Nat))
 | seq (a b : C)
 | cond (x : X) (a b : C)
 | block (id : Nat) (b : C)
 | loop (b : C)
 | exit (id : Nat)
 | ret
 | cl (ks : List Nat) (c : C)
 | no
inductive Ex where | n | x (id : Nat) | r
mutual
def T.le : T → T → Prop
 | .s nl cs, .s nl' cs' => (nl' = none ∨ nl = nl') ∧ T.leL cs cs'
 | .q cs k, .q cs' k' => k = k' ∧ T.leL cs cs'
 | .c f cs, .c f' cs' => f = f' ∧ T.leL cs cs'
 | .a cs, .a cs' => T.leL cs cs'
 | .u cs, .u cs' => T.leL cs cs'
 | .i n, .i n' => n = n'
 | .b x, .b x' => x = x'
 | .w k n, .w k' n' => k = k' ∧ n = n'
 | .xv e t, .xv e' t' => e = e' ∧ T.le t t'
 | _, .any => True
 | _, _ => False
def T.leL : List T → List T → Prop
 | [], [] => True
 | t :: ts, t' :: ts' => T.le t t' ∧ T.leL ts ts'
 | _, _ => False
end
def G.le : G → G → Prop
 | .fr, .arg => True
 | g, g' => g = g'
def V.le : V → V → Prop
 | _, .t _ .any => True
 | .t g r, .t g' r' => g.le g' ∧ T.le r r'
 | .own m nl cs, .own m' nl' cs' => T.leL cs cs' ∧ (nl' = none ∨ nl = nl') ∧ (m = m' ∨ (scalL cs ∧ m < 10 ∧ m' < 10))
 | a, b => a = b
def St.le (s s' : St) : Prop := ∀ p ∈ s', V.le (s.get p.1) p.2
def blockK (id : Nat) (Q : Ex → St → Prop) : Ex → St → Prop
 | .n, s => Q .n s
 | .x j, s => bif j == id then Q .n s else Q (.x j) s
 | .r, s => Q .r s
def condK (k1 k2 : Prop) : W → Prop
 | .t _ (.b p) => (p = true → k1) ∧ (p = false → k2)
 | _ => False
def roundK {ι : Type} (f : ι → St) (μ : ι → Nat) (i : ι) (Q : Ex → St → Prop) : Ex → St → Prop
 | .n, s => ∃ j, μ j < μ i ∧ s.le (f j)
 | .x j, s => Q (.x j) s
 | .r, s => Q .r s
def LoopK (body : (Ex → St → Prop) → St → Prop) (Q : Ex → St → Prop) (s : St) : Prop :=
 ∃ (ι : Type) (f : ι → St) (μ : ι → Nat), (∃ i, s.le (f i)) ∧ ∀ i, body (roundK f μ i Q) (f i)
def seqQ (K : St → Prop) (Q : Ex → St → Prop) : Ex → St → Prop
 | .n, s => K s
 | .x j, s => Q (.x j) s
 | .r, s => Q .r s
def lateW (P : Program) : List (Gd × I) → (St → Prop) → St → Prop
 | [], K, s => K s
 | [f], K, s => wpL P [f] K s
 | [f, g], K, s => wpL P [f, g] K s ∧ wpL P [g, f] K s
 | _, _, _ => False
def latS : List (Gd × I) → Gd × I → List (Gd × I)
 | [], x => [x]
 | [a], x => [a, x]
 | l, x => l ++ [x]
def lateA (P : Program) (e t : List (Gd × I)) (K : St → Prop) (s0 : St) : Nat → List (Gd × I) → List (Gd × I) → St → Prop
 | 0, _, late, s => wpL P e (lateW P late (wpL P t K)) s
 | k + 1, (g, .v d o xs) :: fs, late, s => lateA P e t K s0 k fs late s ∧ lateA P e t K s0 k fs (latS late (g, .v d o xs)) ((d, s0.get d) :: s)
 | _ + 1, _, _, _ => False
def detV (d : Nat) (s : St) : V → Prop
 | .al z => hangs d z = false ∧ (match s.get z with | .own .. => s.lv z = true | .ag _ => z < 1000 | _ => False)
 | _ => False
def lookOf : List (Gd × I) → Nat → Option (O × List X)
 | (_, .v d o xs) :: r, y => bif d == y then some (o, xs) else lookOf r y
 | _ :: r, y => lookOf r y
 | [], _ => none
def HeldOne (P : Program) (ls : List (Gd × I)) (d : Nat) (s : St) : Prop := match lookOf ls d with
 | some (o, xs) => detV d s (s.get d) ∧ stepK P o (xs.map s.look) (· = s.get d)
 | none => False
def HeldAll (P : Program) (ls : List (Gd × I)) : List Nat → St → Prop
 | [], _ => True
 | d :: ds, s => HeldOne P ls d s ∧ HeldAll P ls ds s
def heldL (P : Program) (ls : List (Gd × I)) : List (List (Gd × I) × List Nat) → (St → Prop) → St → Prop
 | [], K, s => K s
 | (r, ds) :: effs, K, s => wpL P r (fun s' => HeldAll P ls ds s' ∧ heldL P ls effs K s') s
def wpC (P : Program) : C → (Ex → St → Prop) → St → Prop
 | .skip, Q, s => Q .n s
 | .rg n ops, Q, s => noNm n ops s ∧ wpL P ops (Q .n) s
 | .rgF n _ F ops, Q, s => intsK F s ∧ noNm n ops s ∧ wpL P ops (Q .n) s
 | .rgE n k h e t, Q, s => noNm n h s ∧ wpL P h (fun s1 => lateA P e t (Q .n) s k h [] s1) s
 | .rgH _ _ ls effs, Q, s => wpL P ls (heldL P ls effs (Q .n)) s
 | .seq a b, Q, s => wpC P a (seqQ (wpC P b Q) Q) s
 | .cond x a b, Q, s => condK (wpC P a Q s) (wpC P b Q s) (s.look x)
 | .block id b, Q, s => wpC P b (blockK id Q) s
 | .loop b, Q, s => LoopK (wpC P b) Q s
 | .exit id, Q, s => Q (.x id) s
 | .ret, Q, s => Q .r s
 | .cl ks c, Q, s => wpC P c Q (ks.map fun k => (k, s.get k))
 | .no, _, _ => False
@[go_sem] theorem stepK_mv {P : Program} {κ : V → Prop} {x : W} : stepK P .mv [x] κ = κ x.toV := _root_.id rfl
@[go_sem] theorem stepK_pick_t {P : Program} {κ : V → Prop} {g : G} {x y : W} : stepK P .pick [.t g (.b true), x, y] κ = κ x.toV := _root_.id rfl
@[go_sem] theorem stepK_pick_f {P : Program} {κ : V → Prop} {g : G} {x y : W} : stepK P .pick [.t g (.b false), x, y] κ = κ y.toV := _root_.id rfl
@[go_sem] theorem mk_w {g : G} {k : IntKind} {n : Int} : V.mk g (.w k n) = .t g (.w k n) := _root_.id rfl
@[go_sem] theorem stepK_callO {P : Program} {κ : V → Prop} {f z : Nat} {ws : List W} : stepK P (.callO f z) ws κ = CallK P f (ws.map W.res) fun R => foK z κ (R.get 0) (R.get 100000) (R.get 101000) := by cases ws with | nil => rfl | cons x ws => cases x <;> rfl
@[go_sem] theorem stepK_mkO {P : Program} {κ : V → Prop} {z : Nat} {t : T} {g h : G} {l c : Int} : stepK P (.mkO z t) [.t g (.i l), .t h (.i c)] κ = (0 ≤ l ∧ l ≤ c ∧ c ≤ 1099511627776 ∧ t.scal ∧ κ (.fo z none (some false) (List.replicate l.toNat t))) := _root_.id rfl
@[go_sem] theorem foK_o {z m : Nat} {κ : V → Prop} {nl : Option Bool} {cs : List T} {v v' : V} : foK z κ (.own m nl cs) v v' = (m < 2 ∧ scalL cs ∧ κ (.fo z none nl cs)) := _root_.id rfl
@[go_sem] theorem foK_tp {z m n : Nat} {κ : V → Prop} {nl : Option Bool} {cs : List T} {g : G} {t : T} : foK z κ (.tp n) (.own m nl cs) (.t g t) = (n = 2 ∧ m < 2 ∧ scalL cs ∧ t.scal ∧ κ (.fo z (some t) nl cs)) := _root_.id rfl
@[congr] theorem foK_congr {z : Nat} {κ : V → Prop} {v v' x x' y y' : V} (h : v = v') (h1 : x = x') (h2 : y = y') : foK z κ v x y = foK z κ v' x' y' := by rw [h, h1, h2]
@[go_sem] theorem stepK_extF {P : Program} {κ : V → Prop} {k z : Nat} {t : T} {nl : Option Bool} {cs : List T} : stepK P (.ext k) [.fo z (some t) nl cs] κ = extF z t nl cs κ k := _root_.id rfl
@[go_sem] theorem extF_0 {z : Nat} {t : T} {nl : Option Bool} {cs : List T} {κ : V → Prop} : extF z t nl cs κ 0 = (t.scal ∧ κ (.fo z none nl cs)) := _root_.id rfl
@[go_sem] theorem stepK_litO {P : Program} {κ : V → Prop} {z : Nat} {e : Bool} : stepK P (.litO z e) [] κ = κ (.fo z (bif e then some .any else none) (some false) []) := _root_.id rfl
@[go_sem] theorem stepK_newO {P : Program} {κ : V → Prop} {z n : Nat} : stepK P (.newO z n) [] κ = κ (.fo z (some (.u (List.replicate n .any))) none []) := _root_.id rfl
@[go_sem] theorem stepK_appO {P : Program} {κ : V → Prop} {z z0 : Nat} {nl nx : Option Bool} {g : G} {xs : List T} : stepK P (.appO z) [.fo z0 (some .any) nl [], .t g (.s nx xs)] κ = ((z0 = z ∨ xs ≠ []) ∧ scalL xs ∧ xs.length ≤ 1099511627776 ∧ κ (.fo z none (some false) xs)) := _root_.id rfl
@[go_sem] theorem stepK_appOo {P : Program} {κ : V → Prop} {z z0 y m : Nat} {nl nx : Option Bool} {xs : List T} : stepK P (.appO z) [.fo z0 (some .any) nl [], .own y m nx xs] κ = ((z0 = z ∨ xs ≠ []) ∧ scalL xs ∧ xs.length ≤ 1099511627776 ∧ κ (.fo z none (some false) xs)) := _root_.id rfl
@[go_sem] theorem extF_1 {z : Nat} {t : T} {nl : Option Bool} {cs : List T} {κ : V → Prop} : extF z t nl cs κ 1 = (t.scal ∧ κ (.t .fr t)) := _root_.id rfl
@[go_sem] theorem stepK_cvw {P : Program} {κ : V → Prop} {g : G} {k : IntKind} {a : Int} : stepK P (.cvw k) [.t g (.i a)] κ = κ (.t .fr (.w k (k.wrap a))) := _root_.id rfl
@[go_sem] theorem stepK_cvi {P : Program} {κ : V → Prop} {g : G} {k : IntKind} {a : Int} : stepK P .cvi [.t g (.w k a)] κ = (inR a ∧ κ (.i a)) := _root_.id rfl
@[go_sem] theorem stepK_ub {P : Program} {κ : V → Prop} {g h : G} {o : Bo} {k k' : IntKind} {a b : Int} : stepK P (.ub o) [.t g (.w k a), .t h (.w k' b)] κ = (k = k' ∧ ubK o k a b κ) := _root_.id rfl
@[go_sem] theorem ubK_add {κ : V → Prop} {k : IntKind} {a b : Int} : ubK .add k a b κ = κ (.t .fr (.w k (k.wrap (a + b)))) := _root_.id rfl
@[go_sem] theorem ubK_sub {κ : V → Prop} {k : IntKind} {a b : Int} : ubK .sub k a b κ = κ (.t .fr (.w k (k.wrap (a - b)))) := _root_.id rfl
@[go_sem] theorem ubK_mul {κ : V → Prop} {k : IntKind} {a b : Int} : ubK .mul k a b κ = κ (.t .fr (.w k (k.wrap (a * b)))) := _root_.id rfl
@[go_sem] theorem ubK_and {κ : V → Prop} {k : IntKind} {a b : Int} : ubK .and k a b κ = κ (.t .fr (.w k (andK k a b))) := _root_.id rfl
@[go_sem] theorem ubK_shr {κ : V → Prop} {k : IntKind} {a b : Int} : ubK .shr k a b κ = (0 ≤ b ∧ b.toNat ≤ k.bits ∧ κ (.t .fr (.w k (a.fdiv (2 ^ b.toNat))))) := _root_.id rfl
@[go_sem] theorem ubK_eql {κ : V → Prop} {k : IntKind} {a b : Int} : ubK .eql k a b κ = κ (.b (decide (a = b))) := _root_.id rfl
@[go_sem] theorem ubK_neq {κ : V → Prop} {k : IntKind} {a b : Int} : ubK .neq k a b κ = κ (.b (decide (a ≠ b))) := _root_.id rfl
@[go_sem] theorem ubK_lss {κ : V → Prop} {k : IntKind} {a b : Int} : ubK .lss k a b κ = κ (.b (decide (a < b))) := _root_.id rfl
@[go_sem] theorem ubK_leq {κ : V → Prop} {k : IntKind} {a b : Int} : ubK .leq k a b κ = κ (.b (decide (a ≤ b))) := _root_.id rfl
@[go_sem] theorem ubK_gtr {κ : V → Prop} {k : IntKind} {a b : Int} : ubK .gtr k a b κ = κ (.b (decide (b < a))) := _root_.id rfl
@[go_sem] theorem ubK_geq {κ : V → Prop} {k : IntKind} {a b : Int} : ubK .geq k a b κ = κ (.b (decide (b ≤ a))) := _root_.id rfl
@[go_sem] theorem stepK_add {P : Program} {κ : V → Prop} {g h : G} {a b : Int} : stepK P (.bin .add) [.t g (.i a), .t h (.i b)] κ = (inR (a + b) ∧ κ (.i (a + b))) := _root_.id rfl
@[go_sem] theorem stepK_sub {P : Program} {κ : V → Prop} {g h : G} {a b : Int} : stepK P (.bin .sub) [.t g (.i a), .t h (.i b)] κ = (inR (a - b) ∧ κ (.i (a - b))) := _root_.id rfl
@[go_sem] theorem stepK_mul {P : Program} {κ : V → Prop} {g h : G} {a b : Int} : stepK P (.bin .mul) [.t g (.i a), .t h (.i b)] κ = (inR (a * b) ∧ κ (.i (a * b))) := _root_.id rfl
@[go_sem] theorem stepK_quo {P : Program} {κ : V → Prop} {g h : G} {a b : Int} : stepK P (.bin .quo) [.t g (.i a), .t h (.i b)] κ = (b ≠ 0 ∧ inR (a.tdiv b) ∧ κ (.i (a.tdiv b))) := _root_.id rfl
@[go_sem] theorem stepK_rem {P : Program} {κ : V → Prop} {g h : G} {a b : Int} : stepK P (.bin .rem) [.t g (.i a), .t h (.i b)] κ = (b ≠ 0 ∧ κ (.i (a.tmod b))) := _root_.id rfl
@[go_sem] theorem stepK_and {P : Program} {κ : V → Prop} {g h : G} {a b : Int} : stepK P (.bin .and) [.t g (.i a), .t h (.i b)] κ = (κ (.i (andI a b))) := _root_.id rfl
@[go_sem] theorem stepK_shl {P : Program} {κ : V → Prop} {g h : G} {a b : Int} : stepK P (.bin .shl) [.t g (.i a), .t h (.i b)] κ = (0 ≤ b ∧ b < 64 ∧ inR (a * 2 ^ b.toNat) ∧ κ (.i (a * 2 ^ b.toNat))) := _root_.id rfl
@[go_sem] theorem stepK_shr {P : Program} {κ : V → Prop} {g h : G} {a b : Int} : stepK P (.bin .shr) [.t g (.i a), .t h (.i b)] κ = (0 ≤ b ∧ b < 64 ∧ κ (.i (a / 2 ^ b.toNat))) := _root_.id rfl
@[go_sem] theorem stepK_xor {P : Program} {κ : V → Prop} {g h : G} {a b : Int} : stepK P (.bin .xor) [.t g (.i a), .t h (.i b)] κ = (κ (.i (xorI a b))) := _root_.id rfl
@[go_sem] theorem stepK_or {P : Program} {κ : V → Prop} {g h : G} {a b : Int} : stepK P (.bin .or) [.t g (.i a), .t h (.i b)] κ = (κ (.i (orI a b))) := _root_.id rfl
@[go_sem] theorem stepK_adw {P : Program} {κ : V → Prop} {g h : G} {a b : Int} : stepK P (.bin .adw) [.t g (.i a), .t h (.i b)] κ = (κ (.i (wrI (a + b)))) := _root_.id rfl
@[go_sem] theorem stepK_sbw {P : Program} {κ : V → Prop} {g h : G} {a b : Int} : stepK P (.bin .sbw) [.t g (.i a), .t h (.i b)] κ = (κ (.i (wrI (a - b)))) := _root_.id rfl
@[go_sem] theorem stepK_mlw {P : Program} {κ : V → Prop} {g h : G} {a b : Int} : stepK P (.bin .mlw) [.t g (.i a), .t h (.i b)] κ = (κ (.i (wrI (a * b)))) := _root_.id rfl
@[go_sem] theorem stepK_eql {P : Program} {κ : V → Prop} {g h : G} {a b : Int} : stepK P (.bin .eql) [.t g (.i a), .t h (.i b)] κ = (κ (.b (decide (a = b)))) := _root_.id rfl
@[go_sem] theorem stepK_neq {P : Program} {κ : V → Prop} {g h : G} {a b : Int} : stepK P (.bin .neq) [.t g (.i a), .t h (.i b)] κ = (κ (.b (decide (a ≠ b)))) := _root_.id rfl
@[go_sem] theorem stepK_lss {P : Program} {κ : V → Prop} {g h : G} {a b : Int} : stepK P (.bin .lss) [.t g (.i a), .t h (.i b)] κ = (κ (.b (decide (a < b)))) := _root_.id rfl
@[go_sem] theorem stepK_leq {P : Program} {κ : V → Prop} {g h : G} {a b : Int} : stepK P (.bin .leq) [.t g (.i a), .t h (.i b)] κ = (κ (.b (decide (a ≤ b)))) := _root_.id rfl
@[go_sem] theorem stepK_gtr {P : Program} {κ : V → Prop} {g h : G} {a b : Int} : stepK P (.bin .gtr) [.t g (.i a), .t h (.i b)] κ = (κ (.b (decide (b < a)))) := _root_.id rfl
@[go_sem] theorem stepK_geq {P : Program} {κ : V → Prop} {g h : G} {a b : Int} : stepK P (.bin .geq) [.t g (.i a), .t h (.i b)] κ = (κ (.b (decide (b ≤ a)))) := _root_.id rfl
@[go_sem] theorem stepK_beq {P : Program} {κ : V → Prop} {g h : G} {a b : Bool} : stepK P .beq [.t g (.b a), .t h (.b b)] κ = κ (.b (a == b)) := _root_.id rfl
@[go_sem] theorem stepK_bne {P : Program} {κ : V → Prop} {g h : G} {a b : Bool} : stepK P .bne [.t g (.b a), .t h (.b b)] κ = κ (.b (a != b)) := _root_.id rfl
@[go_sem] theorem stepK_nil {P : Program} {κ : V → Prop} {g : G} {n : Bool} {cs : List T} : stepK P .nil [.t g (.s (some n) cs)] κ = κ (.b n) := _root_.id rfl
@[go_sem] theorem stepK_nilo {P : Program} {κ : V → Prop} {y m : Nat} {n : Bool} {cs : List T} : stepK P .nil [.own y m (some n) cs] κ = κ (.b n) := _root_.id rfl
@[go_sem] theorem stepK_nil_n {P : Program} {κ : V → Prop} {g : G} {cs : List T} : stepK P .nil [.t g (.s none cs)] κ = (cs ≠ [] ∧ κ (.b false)) := _root_.id rfl
@[go_sem] theorem stepK_nilo_n {P : Program} {κ : V → Prop} {y m : Nat} {cs : List T} : stepK P .nil [.own y m none cs] κ = (cs ≠ [] ∧ κ (.b false)) := _root_.id rfl
@[go_sem] theorem stepK_nnil_n {P : Program} {κ : V → Prop} {g : G} {cs : List T} : stepK P .nnil [.t g (.s none cs)] κ = (cs ≠ [] ∧ κ (.b (!false))) := _root_.id rfl
@[go_sem] theorem stepK_nnilo_n {P : Program} {κ : V → Prop} {y m : Nat} {cs : List T} : stepK P .nnil [.own y m none cs] κ = (cs ≠ [] ∧ κ (.b (!false))) := _root_.id rfl
@[go_sem] theorem stepK_nnil {P : Program} {κ : V → Prop} {g : G} {n : Bool} {cs : List T} : stepK P .nnil [.t g (.s (some n) cs)] κ = κ (.b (!n)) := _root_.id rfl
@[go_sem] theorem stepK_nnilo {P : Program} {κ : V → Prop} {y m : Nat} {n : Bool} {cs : List T} : stepK P .nnil [.own y m (some n) cs] κ = κ (.b (!n)) := _root_.id rfl
@[go_sem] theorem stepK_not {P : Program} {κ : V → Prop} {g : G} {a : Bool} : stepK P .not [.t g (.b a)] κ = κ (.b (!a)) := _root_.id rfl
@[go_sem] theorem stepK_neg {P : Program} {κ : V → Prop} {g : G} {a : Int} : stepK P .neg [.t g (.i a)] κ = (inR (-a) ∧ κ (.i (-a))) := _root_.id rfl
@[go_sem] theorem stepK_len {P : Program} {κ : V → Prop} {g : G} {nl : Option Bool} {cs : List T} : stepK P .len [.t g (.s nl cs)] κ = κ (.i cs.length) := _root_.id rfl
@[go_sem] theorem stepK_leno {P : Program} {κ : V → Prop} {y m : Nat} {nl : Option Bool} {cs : List T} : stepK P .len [.own y m nl cs] κ = κ (.i cs.length) := _root_.id rfl
@[go_sem] theorem stepK_idx {P : Program} {κ : V → Prop} {g h : G} {nl : Option Bool} {cs : List T} {n : Int} : stepK P .idx [.t g (.s nl cs), .t h (.i n)] κ = (0 ≤ n ∧ n.toNat < cs.length ∧ κ (.t g (.q cs n.toNat))) := _root_.id rfl
@[go_sem] theorem stepK_idxr {P : Program} {κ : V → Prop} {h : G} {y j m : Nat} {nl : Option Bool} {cs : List T} {n : Int} : stepK P .idx [.er y j m nl cs, .t h (.i n)] κ = (j < cs.length ∧ m % 10 = 1 ∧ erI y j n κ (cs.getD j .any)) := _root_.id rfl
@[go_sem] theorem erI_s {y j : Nat} {n : Int} {κ : V → Prop} {nl : Option Bool} {row : List T} : erI y j n κ (.s nl row) = (0 ≤ n ∧ n.toNat < row.length ∧ κ (.er y (erB * (1 + n.toNat) + j))) := _root_.id rfl
@[go_sem] theorem stepK_idxo {P : Program} {κ : V → Prop} {h : G} {y m : Nat} {nl : Option Bool} {cs : List T} {n : Int} : stepK P .idx [.own y m nl cs, .t h (.i n)] κ = (0 ≤ n ∧ n.toNat < cs.length ∧ κ (.pe y n.toNat)) := _root_.id rfl
@[go_sem] theorem stepK_ld {P : Program} {κ : V → Prop} {g : G} {cs : List T} {k : Nat} : stepK P .ld [.t g (.q cs k)] κ = (k < cs.length ∧ κ (.mk g (cs.getD k .any))) := _root_.id rfl
@[go_sem] theorem stepK_ldo {P : Program} {κ : V → Prop} {y j m : Nat} {nl : Option Bool} {cs : List T} : stepK P .ld [.pe y j m nl cs] κ = (j < cs.length ∧ κ (.mk (tagM m y) (cs.getD j .any))) := _root_.id rfl
@[go_sem] theorem stepK_lde {P : Program} {κ : V → Prop} {y j m : Nat} {nl : Option Bool} {cs : List T} : stepK P .lde [.pe y j m nl cs] κ = (j < cs.length ∧ κ (.er y j)) := _root_.id rfl
@[go_sem] theorem stepK_ldc {P : Program} {κ : V → Prop} {z : Nat} {x : V} {ts : List T} : stepK P .ld [.pc z x ts] κ = (x.isName = false ∧ κ x) := _root_.id rfl
@[go_sem] theorem stepK_fa {P : Program} {κ : V → Prop} {g : G} {cs : List T} {j k : Nat} : stepK P (.fa k) [.t g (.q cs j)] κ = κ (.t g (.q cs (j + k))) := _root_.id rfl
@[go_sem] theorem stepK_fac {P : Program} {κ : V → Prop} {z k : Nat} {x : V} {ts : List T} : stepK P (.fa k) [.pc z x ts] κ = (z / 1000 + k < 100 ∧ κ (.pc (z + 1000 * k))) := _root_.id rfl
@[go_sem] theorem stepK_fld {P : Program} {κ : V → Prop} {g : G} {fs : List T} {k : Nat} : stepK P (.fld k) [.t g (.a fs)] κ = (k < fs.length ∧ κ (.mk g (fs.getD k .any))) := _root_.id rfl
@[go_sem] theorem stepK_sub2 {P : Program} {κ : V → Prop} {x : W} {g h : G} {l r : Int} : stepK P (.sub true true) [x, .t g (.i l), .t h (.i r)] κ = subK x l r κ := _root_.id rfl
@[go_sem] theorem stepK_subl {P : Program} {κ : V → Prop} {x : W} {g : G} {l : Int} : stepK P (.sub true false) [x, .t g (.i l)] κ = subK x l x.len κ := _root_.id rfl
@[go_sem] theorem stepK_subh {P : Program} {κ : V → Prop} {x : W} {g : G} {r : Int} : stepK P (.sub false true) [x, .t g (.i r)] κ = subK x 0 r κ := _root_.id rfl
@[go_sem] theorem stepK_sub0 {P : Program} {κ : V → Prop} {x : W} : stepK P (.sub false false) [x] κ = subK x 0 x.len κ := _root_.id rfl
@[go_sem] theorem stepK_bld {P : Program} {κ : V → Prop} {ws : List W} : stepK P .bld ws κ = optK (parts ws) fun p => κ (.t p.1 (.a p.2)) := by cases ws <;> rfl
@[go_sem] theorem stepK_litF {P : Program} {κ : V → Prop} {ws : List W} : stepK P .litF ws κ = optK (parts ws) fun p => κ (.t p.1 (.s (some false) p.2)) := by cases ws <;> rfl
@[go_sem] theorem stepK_cloF {P : Program} {κ : V → Prop} {f : Nat} {ws : List W} : stepK P (.cloF f) ws κ = optK (parts ws) fun p => κ (.t p.1 (.c f p.2)) := by cases ws with | nil => rfl | cons x ws => cases x <;> rfl
@[go_sem] theorem stepK_boxF {P : Program} {κ : V → Prop} {g : G} {r : T} : stepK P .boxF [.t g r] κ = optK (parts [.t g r]) fun p => κ (.t p.1 (.q p.2 0)) := _root_.id rfl
@[go_sem] theorem stepK_clo {P : Program} {κ : V → Prop} {f : Nat} {ws : List W} : stepK P (.clo f) ws κ = optK (caps ws) fun cp => κ (.clo f cp) := by cases ws <;> rfl
@[go_sem] theorem stepK_nilc {P : Program} {κ : V → Prop} {x : W} : stepK P .nilc [x] κ = (nilcOk x = true ∧ κ x.toV) := _root_.id rfl
@[go_sem] theorem stepK_mn {P : Program} {κ : V → Prop} {ws : List W} : stepK P .mn ws κ = optK (minI ws) fun a => κ (.i a) := by cases ws <;> rfl
@[go_sem] theorem stepK_mx {P : Program} {κ : V → Prop} {ws : List W} : stepK P .mx ws κ = optK (maxI ws) fun a => κ (.i a) := by cases ws <;> rfl
@[go_sem] theorem stepK_call {P : Program} {κ : V → Prop} {f : Nat} {ws : List W} : stepK P (.call f) ws κ = CallK P f (ws.map W.res) fun R => κ (frV R) := by cases ws <;> rfl
@[go_sem] theorem stepK_callC {P : Program} {κ : V → Prop} {f : Nat} {cp : List Cap} {ts : List T} {ws : List W} : stepK P .callC (.clo f cp ts :: ws) κ = CallK P f (ws.map W.res ++ ts) fun R => κ (frV R) := _root_.id rfl
@[go_sem] theorem stepK_callT {P : Program} {κ : V → Prop} {f : Nat} {g : G} {ts : List T} {ws : List W} : stepK P .callC (.t g (.c f ts) :: ws) κ = CallK P f (ws.map W.res ++ ts) fun R => κ (frV R) := _root_.id rfl
@[go_sem] theorem stepK_ext {P : Program} {κ : V → Prop} {g : G} {vs : List T} {k : Nat} : stepK P (.ext k) [.t g (.u vs)] κ = (k < vs.length ∧ κ (.mk g (vs.getD k .any))) := _root_.id rfl
@[go_sem] theorem stepK_cap_t {P : Program} {κ : V → Prop} {g : G} {cs : List T} : stepK P .cap [.t g (.s (some true) cs)] κ = κ (.i 0) := _root_.id rfl
@[go_sem] theorem stepK_cap_o {P : Program} {κ : V → Prop} {y m : Nat} {cs : List T} : stepK P .cap [.own y m (some true) cs] κ = κ (.i 0) := _root_.id rfl
@[go_sem] theorem bas_arg : G.bas .arg = true := _root_.id rfl
@[go_sem] theorem bas_fr : G.bas .fr = true := _root_.id rfl
@[go_sem] theorem stepK_boxS {P : Program} {κ : V → Prop} {g : G} {fs : List T} : stepK P .boxS [.t g (.a fs)] κ = (g.bas = true ∧ κ (.t g (.q fs 0))) := _root_.id rfl
@[go_sem] theorem stepK_lds {P : Program} {κ : V → Prop} {g : G} {cs : List T} {k n : Nat} : stepK P (.lds n) [.t g (.q cs k)] κ = (k + n ≤ cs.length ∧ κ (.t g (.a ((cs.drop k).take n)))) := _root_.id rfl
@[go_sem] theorem stepK_ldp {P : Program} {κ : V → Prop} {z n : Nat} {v : V} {ts : List T} : stepK P (.lds n) [.pc z v ts] κ = (z / 1000 = 1 ∧ n = ts.length ∧ κ (.bv (z % 1000))) := _root_.id rfl
@[go_sem] theorem stepK_subp {P : Program} {κ : V → Prop} {y m : Nat} {nl : Option Bool} {cs : List T} {g : G} {l : Int} : stepK P .subp [.own y m nl cs, .t g (.i l)] κ = (0 ≤ l ∧ l ≤ cs.length ∧ κ (.sl y l.toNat cs.length)) := _root_.id rfl
@[go_sem] theorem cutK_o {d : Nat} {s : St} {K : St → Prop} {y m : Nat} {nl : Option Bool} {cs : List T} {g : G} {h : Int} : cutK d s K (.own y m nl cs) (.t g (.i h)) = (hangs d y = false ∧ m < 10 ∧ 0 ≤ h ∧ h ≤ cs.length ∧ K ((d, .own m nl (cs.take h.toNat)) :: (s.kill d).rt y d)) := _root_.id rfl
@[go_sem] theorem cpyD_o {y m : Nat} {nl : Option Bool} {cs : List T} : cpyD (.own y m nl cs) = some (y, 0, cs.length, m, nl, cs) := _root_.id rfl
@[go_sem] theorem cpyD_s {y l h m : Nat} {nl : Option Bool} {cs : List T} : cpyD (.sl y l h m nl cs) = some (y, l, h, m, nl, cs) := _root_.id rfl
@[go_sem] theorem cont?_t {g : G} {nl : Option Bool} {cs : List T} : W.cont? (.t g (.s nl cs)) = some cs := _root_.id rfl
@[go_sem] theorem cont?_o {y m : Nat} {nl : Option Bool} {cs : List T} : W.cont? (.own y m nl cs) = some cs := _root_.id rfl
@[go_sem] theorem cpyK_s {d : Nat} {s : St} {K : St → Prop} {y l h m : Nat} {nl : Option Bool} {cs xs : List T} : cpyK d s K (some (y, l, h, m, nl, cs)) (some xs) = (l ≤ h ∧ h ≤ cs.length ∧ scalL cs ∧ scalL xs ∧ K ((d, .i (min xs.length (h - l) : Nat)) :: (y, .own m nl (cpyL l h cs xs)) :: s.killSp y)) := _root_.id rfl
@[go_sem] theorem clrK_s {s : St} {K : St → Prop} {z : T} {y l h m : Nat} {nl : Option Bool} {cs : List T} : clrK s K z (some (y, l, h, m, nl, cs)) = (l ≤ h ∧ h ≤ cs.length ∧ scalL cs ∧ z.scal ∧ K ((y, .own m nl (cs.take l ++ List.replicate (h - l) z ++ cs.drop h)) :: s.killSp y)) := _root_.id rfl
@[go_sem] theorem apzK_n {d : Nat} {z : T} {s : St} {K : St → Prop} {g g' : G} {n : Int} : apzK d z s K (.t g (.s (some true) [])) (.t g' (.i n)) = (0 ≤ n ∧ n ≤ 1099511627776 ∧ K ((d, .own 1 none (List.replicate n.toNat z)) :: s.kill d)) := _root_.id rfl
@[go_sem] theorem wpI_onl {P : Program} {K : St → Prop} {s : St} {y : Nat} : wpI P (.onl y) K s = onlK y s K (s.get y) := _root_.id rfl
@[go_sem] theorem wpI_sts {P : Program} {K : St → Prop} {s : St} {p v : X} {n : Nat} : wpI P (.sts p v n) K s = stsK n s K (s.look p) (s.look v) := _root_.id rfl
@[go_sem] theorem stsK_ag {n : Nat} {s : St} {K : St → Prop} {z y m : Nat} {v : V} {ts us : List T} : stsK n s K (.pc z v ts) (.ag y m us) = (z / 1000 = 1 ∧ m = n ∧ ts.length = n ∧ n < 90 ∧ stSK (z % 1000) y 200 0 n s K) := _root_.id rfl
@[go_sem] theorem stsK_bv {n : Nat} {s : St} {K : St → Prop} {z y m : Nat} {v : V} {ts us : List T} : stsK n s K (.pc z v ts) (.bv y m us) = (z / 1000 = 1 ∧ m = n ∧ ts.length = n ∧ n < 90 ∧ z % 1000 ≠ y ∧ stSK (z % 1000) y 1 0 n s K) := _root_.id rfl
@[go_sem] theorem stsK_ta {n : Nat} {s : St} {K : St → Prop} {z : Nat} {v : V} {ts fs : List T} {g : G} : stsK n s K (.pc z v ts) (.t g (.a fs)) = (z / 1000 = 1 ∧ g.bas = true ∧ fs.length = n ∧ ts.length = n ∧ n < 90 ∧ stFK g (z % 1000) 0 fs s K) := _root_.id rfl
@[go_sem] theorem stFK_0 {g : G} {z j : Nat} {s : St} {K : St → Prop} : stFK g z j [] s K = K s := _root_.id rfl
@[go_sem] theorem stFK_s {g : G} {z j : Nat} {t : T} {fs : List T} {s : St} {K : St → Prop} : stFK g z j (t :: fs) s K = (t.one = true ∧ stFK g z (j + 1) fs ((z + 1000 * (1 + j), .mk g t) :: s.killSp z) K) := _root_.id rfl
@[go_sem] theorem st1K_t {z x : Nat} {g : G} {r : T} {s : St} {K : St → Prop} : st1K z x s K (.t g r) = (s.lv x = true ∧ g.bas = true ∧ r.one = true ∧ z / 1000 < 100 ∧ K ((z, .t g r) :: s.killSp (z % 1000))) := _root_.id rfl
@[go_sem] theorem stSK_0 {z y c j : Nat} {s : St} {K : St → Prop} : stSK z y c j 0 s K = K s := _root_.id rfl
@[go_sem] theorem stSK_s {z y c j n : Nat} {s : St} {K : St → Prop} : stSK z y c j (n + 1) s K = st1K (z + 1000 * (1 + j)) (y + 1000 * (c + j)) s (fun s' => stSK z y c (j + 1) n s' K) (s.get (y + 1000 * (c + j))) := _root_.id rfl
@[go_sem] theorem stSK_2 {z y c j : Nat} {s : St} {K : St → Prop} : stSK z y c j 2 s K = st1K (z + 1000 * (1 + j)) (y + 1000 * (c + j)) s (fun s' => stSK z y c (j + 1) 1 s' K) (s.get (y + 1000 * (c + j))) := _root_.id rfl
@[go_sem] theorem stSK_1 {z y c j : Nat} {s : St} {K : St → Prop} : stSK z y c j 1 s K = st1K (z + 1000 * (1 + j)) (y + 1000 * (c + j)) s (fun s' => stSK z y c (j + 1) 0 s' K) (s.get (y + 1000 * (c + j))) := _root_.id rfl
@[go_sem] theorem stSK_3 {z y c j : Nat} {s : St} {K : St → Prop} : stSK z y c j 3 s K = st1K (z + 1000 * (1 + j)) (y + 1000 * (c + j)) s (fun s' => stSK z y c (j + 1) 2 s' K) (s.get (y + 1000 * (c + j))) := _root_.id rfl
@[go_sem] theorem st1K_o {z x m : Nat} {nl : Option Bool} {cs : List T} {s : St} {K : St → Prop} : st1K z x s K (.own m nl cs) = (s.lv x = true ∧ hangs z x = false ∧ hangs x (z % 1000) = false ∧ z / 1000 < 100 ∧ m < 10 ∧ K ((z, .own m nl cs) :: ((s.kill z).rt x z).killSp (z % 1000))) := _root_.id rfl
@[congr] theorem st1K_congr {z z' x x' : Nat} {s : St} {K : St → Prop} {v v' : V} (hz : z = z') (hx : x = x') (h : v = v') : st1K z x s K v = st1K z' x' s K v' := by rw [h, hz, hx]
@[go_sem] theorem mk_x {g : G} {u : Value} {r : T} : V.mk g (.xv u r) = .t g (.xv u r) := _root_.id rfl
@[go_sem] theorem one_x {u : Value} {r : T} : T.one (.xv u r) = r.one := _root_.id rfl
@[go_sem] theorem wpI_cop {P : Program} {K : St → Prop} {s : St} {d f i : Nat} {xs : List X} : wpI P (.cop d f xs i) K s = copK P d f i s K (xs.map s.look) (xs.map s.look)[i]? := _root_.id rfl
@[go_sem] theorem wpI_con {P : Program} {K : St → Prop} {s : St} {d f : Nat} {xs : List X} : wpI P (.con d f xs) K s = conK P d f s K (xs.map s.look) := _root_.id rfl
@[go_sem] theorem copK_pc {P : Program} {d f i : Nat} {s : St} {K : St → Prop} {ws : List W} {z : Nat} {v : V} {ts : List T} : copK P d f i s K ws (some (.pc z v ts)) = (z / 1000 = 1 ∧ (d == z % 1000) = false ∧ ts.length < 90 ∧ curC s (z % 1000) 0 ts.length ∧ scalI i ws ∧ CallQK P f i (ws.map W.res) fun cs' R => curL ts cs' ∧ K (boxG .arg (z % 1000) 0 cs' ++ (R.shift d ++ s.kill d).killSp (z % 1000))) := _root_.id rfl
@[go_sem] theorem conK_e {P : Program} {d f : Nat} {s : St} {K : St → Prop} {ws : List W} : conK P d f s K ws = (basA ws ∧ CallNK P f (ws.map W.res) fun cs' => cs'.length < 90 ∧ newL ws cs' ∧ K ((d, .bx cs'.length) :: (boxG .arg d 0 cs' ++ s.kill d))) := _root_.id rfl
@[go_sem] theorem curV_t {g : G} {r : T} : curV (.t g r) = (g.bas = true) := _root_.id rfl
@[go_sem] theorem curC_0 {s : St} {y j : Nat} : curC s y j 0 = True := _root_.id rfl
@[go_sem] theorem curC_s {s : St} {y j n : Nat} : curC s y j (n + 1) = (curV (s.get (y + 1000 * (1 + j))) ∧ curC s y (j + 1) n) := _root_.id rfl
@[go_sem] theorem curC_1 {s : St} {y j : Nat} : curC s y j 1 = (curV (s.get (y + 1000 * (1 + j))) ∧ curC s y (j + 1) 0) := _root_.id rfl
@[go_sem] theorem curC_2 {s : St} {y j : Nat} : curC s y j 2 = (curV (s.get (y + 1000 * (1 + j))) ∧ curC s y (j + 1) 1) := _root_.id rfl
@[go_sem] theorem curC_3 {s : St} {y j : Nat} : curC s y j 3 = (curV (s.get (y + 1000 * (1 + j))) ∧ curC s y (j + 1) 2) := _root_.id rfl
@[go_sem] theorem curT_x {u : Value} {r t : T} : curT (.xv u r) t = (t = .xv u r) := _root_.id rfl
@[go_sem] theorem curT_i {n : Int} {t : T} : curT (.i n) t = t.scal := _root_.id rfl
@[go_sem] theorem curT_b {n : Bool} {t : T} : curT (.b n) t = t.scal := _root_.id rfl
@[go_sem] theorem curL_n : curL [] [] = True := _root_.id rfl
@[go_sem] theorem curL_c {t t' : T} {ts ts' : List T} : curL (t :: ts) (t' :: ts') = (curT t t' ∧ curL ts ts') := _root_.id rfl
@[go_sem] theorem basA_n : basA [] = True := _root_.id rfl
@[go_sem] theorem basA_c {g : G} {r : T} {ws : List W} : basA (.t g r :: ws) = (g.bas = true ∧ basA ws) := _root_.id rfl
@[go_sem] theorem hasX_c {u : Value} {t : T} {w : W} {ws : List W} : hasX u t (w :: ws) = (w.res = .xv u t ∨ hasX u t ws) := _root_.id rfl
@[go_sem] theorem newT_x {u : Value} {t : T} {ws : List W} : newT ws (.xv u t) = hasX u t ws := _root_.id rfl
@[go_sem] theorem newT_i {n : Int} {ws : List W} : newT ws (.i n) = True := _root_.id rfl
@[go_sem] theorem newL_n {ws : List W} : newL ws [] = True := _root_.id rfl
@[go_sem] theorem newL_c {t : T} {ts : List T} {ws : List W} : newL ws (t :: ts) = (newT ws t ∧ newL ws ts) := _root_.id rfl
@[go_sem] theorem dst_cop {d f i : Nat} {xs : List X} : I.dst (.cop d f xs i) = some d := _root_.id rfl
@[go_sem] theorem dst_con {d f : Nat} {xs : List X} : I.dst (.con d f xs) = some d := _root_.id rfl
@[congr] theorem copK_congr {P : Program} {d f i : Nat} {s : St} {K : St → Prop} {ws ws' : List W} {o o' : Option W} (h1 : ws = ws') (h : o = o') : copK P d f i s K ws o = copK P d f i s K ws' o' := by rw [h, h1]
@[congr] theorem conK_congr {P : Program} {d f : Nat} {s : St} {K : St → Prop} {ws ws' : List W} (h1 : ws = ws') : conK P d f s K ws = conK P d f s K ws' := by rw [h1]
@[congr] theorem CallQK_congr {P : Program} {f i : Nat} {ts ts' : List T} {κ : List T → St → Prop} (h : ts = ts') : CallQK P f i ts κ = CallQK P f i ts' κ := by rw [h]
@[congr] theorem CallNK_congr {P : Program} {f : Nat} {ts ts' : List T} {κ : List T → Prop} (h : ts = ts') : CallNK P f ts κ = CallNK P f ts' κ := by rw [h]
@[congr] theorem curV_congr {v v' : V} (h : v = v') : curV v = curV v' := by rw [h]
@[go_sem] theorem stepK_len_x {P : Program} {κ : V → Prop} {g : G} {u : Value} {nl : Option Bool} {cs : List T} : stepK P .len [.t g (.xv u (.s nl cs))] κ = κ (.i cs.length) := _root_.id rfl
@[go_sem] theorem stepK_mkF {P : Program} {κ : V → Prop} {t : T} {g h : G} {l c : Int} : stepK P (.mkF t) [.t g (.i l), .t h (.i c)] κ = (0 ≤ l ∧ l = c ∧ c ≤ 1048576 ∧ t.scal ∧ κ (.t .fr (.s (some false) (List.replicate l.toNat t)))) := _root_.id rfl
@[go_sem] theorem stepK_shw {P : Program} {κ : V → Prop} {g : G} {n : Nat} {a : Int} : stepK P (.shw n) [.t g (.i a)] κ = (n < 64 ∧ κ (.i (a / 2 ^ n))) := _root_.id rfl
@[go_sem] theorem stepK_idx_x {P : Program} {κ : V → Prop} {g h : G} {u : Value} {nl : Option Bool} {cs : List T} {n : Int} : stepK P .idx [.t g (.xv u (.s nl cs)), .t h (.i n)] κ = (0 ≤ n ∧ n.toNat < cs.length ∧ κ (.t g (.q cs n.toNat))) := _root_.id rfl
@[go_sem] theorem wpI_coa {P : Program} {K : St → Prop} {s : St} {d : Option Nat} {f i : Nat} {xs : List X} : wpI P (.coa d f xs i) K s = coaK P d f i s K (xs.map s.look) (xs.map s.look)[i]? := _root_.id rfl
@[go_sem] theorem coaK_bv {P : Program} {d : Option Nat} {f i : Nat} {s : St} {K : St → Prop} {ws : List W} {z n : Nat} {ts : List T} : coaK P d f i s K ws (some (.bv z n ts)) = (scalI i ws ∧ i < 1000 ∧ n < 90 ∧ ownC s z 1 0 n ∧ CallAK P f i (ws.map W.res) fun t => K (putD d (.mk .fr t) (s.kill z))) := _root_.id rfl
@[go_sem] theorem scalI_0 {w : W} {ws : List W} : scalI 0 (w :: ws) = scalA ws := _root_.id rfl
@[go_sem] theorem scalI_n {i : Nat} : scalI i [] = True := by cases i <;> rfl
@[go_sem] theorem scalI_s {i : Nat} {g : G} {r : T} {ws : List W} : scalI (i + 1) (.t g r :: ws) = (r.scal ∧ scalI i ws) := _root_.id rfl
@[go_sem] theorem scalA_n : scalA [] = True := _root_.id rfl
@[go_sem] theorem scalA_c {g : G} {r : T} {ws : List W} : scalA (.t g r :: ws) = (r.scal ∧ scalA ws) := _root_.id rfl
@[go_sem] theorem ownC_0 {s : St} {y c j : Nat} : ownC s y c j 0 = True := _root_.id rfl
@[go_sem] theorem ownC_1 {s : St} {y c j : Nat} : ownC s y c j 1 = (ownV (s.get (y + 1000 * (c + j))) ∧ ownC s y c (j + 1) 0) := _root_.id rfl
@[go_sem] theorem ownC_2 {s : St} {y c j : Nat} : ownC s y c j 2 = (ownV (s.get (y + 1000 * (c + j))) ∧ ownC s y c (j + 1) 1) := _root_.id rfl
@[go_sem] theorem ownC_3 {s : St} {y c j : Nat} : ownC s y c j 3 = (ownV (s.get (y + 1000 * (c + j))) ∧ ownC s y c (j + 1) 2) := _root_.id rfl
@[go_sem] theorem ownV_o {m : Nat} {nl : Option Bool} {cs : List T} : ownV (.own m nl cs) = (m = 1 ∨ (m < 10 ∧ scalL cs)) := _root_.id rfl
@[congr] theorem ownV_congr {v v' : V} (h : v = v') : ownV v = ownV v' := by rw [h]
@[congr] theorem coaK_congr {P : Program} {d : Option Nat} {f i : Nat} {s : St} {K : St → Prop} {ws ws' : List W} {o o' : Option W} (h1 : ws = ws') (h : o = o') : coaK P d f i s K ws o = coaK P d f i s K ws' o' := by rw [h, h1]
@[go_sem] theorem boxK_ag {d : Nat} {s : St} {K : St → Prop} {y n : Nat} {ts : List T} : boxK d s K (.ag y n ts) = (hangs d y = false ∧ n < 90 ∧ stSK d y 200 0 n ((d, .bx n) :: s.kill d) K) := _root_.id rfl
@[go_sem] theorem tkrK_nb {k z : Nat} {us : List T} {nl : Option Bool} {cs : List T} {s : St} {K : St → Prop} : tkrK k s K (.fo z (some (.u us)) nl cs) = (k < 1000 ∧ 1000 ≤ z ∧ hangs k z = false ∧ K ((k, .bx (us.length + 1)) :: St.kill k (St.kill z s))) := _root_.id rfl
@[go_sem] theorem tkrK_fo {k z : Nat} {nl : Option Bool} {cs : List T} {s : St} {K : St → Prop} : tkrK k s K (.fo z none nl cs) = (k < 1000 ∧ 1000 ≤ z ∧ hangs k z = false ∧ K ((k, .own 1 nl cs) :: St.kill k (St.kill z s))) := _root_.id rfl
@[go_sem] theorem enr_fo {s : St} {n z : Nat} {k : Option T} {nl : Option Bool} {cs : List T} : s.enr n (.fo z k nl cs) = W.fo z k nl cs := _root_.id rfl
@[go_sem] theorem isAny_fo {z : Nat} {k : Option T} {nl : Option Bool} {cs : List T} : V.isAny (.fo z k nl cs) = false := _root_.id rfl
@[go_sem] theorem isName_fo {z : Nat} {k : Option T} {nl : Option Bool} {cs : List T} : V.isName (.fo z k nl cs) = false := _root_.id rfl
@[go_sem] theorem von_fo {y z : Nat} {k : Option T} {nl : Option Bool} {cs : List T} : V.on y (.fo z k nl cs) = hangs y z := _root_.id rfl
@[go_sem] theorem vonSp_fo {y z : Nat} {k : Option T} {nl : Option Bool} {cs : List T} : V.onSp y (.fo z k nl cs) = false := _root_.id rfl
@[go_sem] theorem vonRs_fo {y z : Nat} {k : Option T} {nl : Option Bool} {cs : List T} : V.onRs y (.fo z k nl cs) = (z == y) := _root_.id rfl
@[go_sem] theorem cont_fo {z : Nat} {k : Option T} {nl : Option Bool} {cs : List T} : V.cont (.fo z k nl cs) = false := _root_.id rfl
@[go_sem] theorem vrt_fo {y d z : Nat} {k : Option T} {nl : Option Bool} {cs : List T} : V.rt y d (.fo z k nl cs) = bif V.on y (.fo z k nl cs) then V.any else (.fo z k nl cs) := _root_.id rfl
@[go_sem] theorem toV_fo {z : Nat} {k : Option T} {nl : Option Bool} {cs : List T} : W.toV (.fo z k nl cs) = V.fo z k nl cs := _root_.id rfl
@[go_sem] theorem wpI_tkr {P : Program} {K : St → Prop} {s : St} {k : Nat} : wpI P (.tkr k) K s = tkrK k s K (s.look (.s k)) := _root_.id rfl
@[go_sem] theorem tkrK_er {k y j m : Nat} {nl : Option Bool} {cs : List T} {s : St} {K : St → Prop} : tkrK k s K (.er y j m nl cs) = tkrR k y j m nl cs s K (cs.getD j .any) := _root_.id rfl
@[go_sem] theorem tkrR_s {k y j m : Nat} {nl nx : Option Bool} {cs cx : List T} {s : St} {K : St → Prop} : tkrR k y j m nl cs s K (.s nx cx) = (k < 1000 ∧ hangs k y = false ∧ hangs y k = false ∧ m % 10 = 1 ∧ j < cs.length ∧ holL cs ∧ K ((k, .own 1 nx cx) :: St.kill k ((y, .own m nl (cs.set j .any)) :: s.killRs y))) := _root_.id rfl
@[go_sem] theorem onlK_n {y : Nat} {s : St} {K : St → Prop} {g : G} {cs : List T} : onlK y s K (.t g (.s (some true) cs)) = (s.lv y = true ∧ K ((y, .own 1 (some true) []) :: s.kill y)) := _root_.id rfl
@[go_sem] theorem wpI_cut {P : Program} {K : St → Prop} {s : St} {d : Nat} {x h : X} : wpI P (.cut d x h) K s = cutK d s K (s.look x) (s.look h) := _root_.id rfl
@[go_sem] theorem wpI_cpy {P : Program} {K : St → Prop} {s : St} {d : Nat} {p q : X} : wpI P (.cpy d p q) K s = cpyK d s K (cpyD (s.look p)) (s.look q).cont? := _root_.id rfl
@[go_sem] theorem wpI_clr {P : Program} {K : St → Prop} {s : St} {p : X} {z : T} : wpI P (.clr p z) K s = clrK s K z (cpyD (s.look p)) := _root_.id rfl
@[go_sem] theorem wpI_apz {P : Program} {K : St → Prop} {s : St} {d : Nat} {x n : X} {z : T} : wpI P (.apz d x n z) K s = apzK d z s K (s.look x) (s.look n) := _root_.id rfl
@[go_sem] theorem isAny_sl {y l h : Nat} : V.isAny (.sl y l h) = false := _root_.id rfl
@[go_sem] theorem isName_sl {y l h : Nat} : V.isName (.sl y l h) = false := _root_.id rfl
@[go_sem] theorem tkK_sl {d x : Nat} {s : St} {K : St → Prop} {y l h : Nat} : tkK d x s K (.sl y l h) = (s.lv x = true ∧ (x < 1000 ∨ V.isAny (.sl y l h) = false) ∧ K ((d, (s.look (.s x)).toV) :: s)) := _root_.id rfl
def slW (s : St) (y l h : Nat) : V → W
 | .own m nl cs => bif s.lv y then .sl y l h m nl cs else .no
 | _ => .no
@[go_sem] theorem enr_sl {s : St} {n : Nat} {y l h : Nat} : s.enr n (.sl y l h) = slW s y l h (s.get y) := _root_.id rfl
@[go_sem] theorem slW_own {s : St} {y l h m : Nat} {nl : Option Bool} {cs : List T} : slW s y l h (.own m nl cs) = bif s.lv y then W.sl y l h m nl cs else W.no := _root_.id rfl
@[go_sem] theorem toV_sl {y l h m : Nat} {nl : Option Bool} {cs : List T} : W.toV (.sl y l h m nl cs) = V.sl y l h := _root_.id rfl
@[go_sem] theorem von_sl {y : Nat} {z l h : Nat} : V.on y (.sl z l h) = hangs y z := _root_.id rfl
@[go_sem] theorem vrt_sl {y d : Nat} {z l h : Nat} : V.rt y d (.sl z l h) = bif V.on y (.sl z l h) then V.any else (.sl z l h) := _root_.id rfl
@[go_sem] theorem isAny_bv {y : Nat} : V.isAny (.bv y) = false := _root_.id rfl
@[go_sem] theorem isName_bv {y : Nat} : V.isName (.bv y) = false := _root_.id rfl
@[go_sem] theorem tkK_bv {d x : Nat} {s : St} {K : St → Prop} {y : Nat} : tkK d x s K (.bv y) = (s.lv x = true ∧ (x < 1000 ∨ V.isAny (.bv y) = false) ∧ K ((d, (s.look (.s x)).toV) :: s)) := _root_.id rfl
def bvW (s : St) (z : Nat) : V → W
 | .bx n => bif z < 1000 then .bv z n (s.cells z 1 0 n) else .no
 | _ => .no
@[go_sem] theorem enr_bv {s : St} {n z : Nat} : s.enr n (.bv z) = bvW s z (s.get z) := _root_.id rfl
@[go_sem] theorem bvW_bx {s : St} {z n : Nat} : bvW s z (.bx n) = bif z < 1000 then W.bv z n (s.cells z 1 0 n) else W.no := _root_.id rfl
@[go_sem] theorem toV_bv {z n : Nat} {ts : List T} : W.toV (.bv z n ts) = V.bv z := _root_.id rfl
@[go_sem] theorem res_bv {z n : Nat} {ts : List T} : W.res (.bv z n ts) = .a ts := _root_.id rfl
@[go_sem] theorem von_bv {y z : Nat} : V.on y (.bv z) = hangs y z := _root_.id rfl
@[go_sem] theorem vrt_bv {y d z : Nat} : V.rt y d (.bv z) = bif V.on y (.bv z) then V.any else (.bv z) := _root_.id rfl
@[go_sem] theorem vonSp_bv {y z : Nat} : V.onSp y (.bv z) = (z == y) := _root_.id rfl
@[go_sem] theorem vonRs_bv {y z : Nat} : V.onRs y (.bv z) = (z == y) := _root_.id rfl
@[go_sem] theorem vonSp_sl {y : Nat} {z l h : Nat} : V.onSp y (.sl z l h) = false := _root_.id rfl
@[go_sem] theorem dst_cut {d : Nat} {x h : X} : I.dst (.cut d x h) = some d := _root_.id rfl
@[go_sem] theorem dst_cpy {d : Nat} {x h : X} : I.dst (.cpy d x h) = some d := _root_.id rfl
@[go_sem] theorem dst_apz {d : Nat} {x h : X} {z : T} : I.dst (.apz d x h z) = some d := _root_.id rfl
@[go_sem] theorem intsK_n {s : St} : intsK [] s = True := _root_.id rfl
@[go_sem] theorem intsK_m {s : St} {i d y : Nat} {r : List FltS} : intsK ((i, d, y, none) :: r) s = intsK r s := _root_.id rfl
@[go_sem] theorem intsK_s {s : St} {i d y : Nat} {q : Nat × Int} {r : List FltS} : intsK ((i, d, y, some q) :: r) s = (isIV (s.get y) = true ∧ intsK r s) := _root_.id rfl
@[go_sem] theorem isIV_i {g : G} {n : Int} : isIV (.t g (.i n)) = true := _root_.id rfl
@[go_sem] theorem subK_t {κ : V → Prop} {g : G} {nl : Option Bool} {cs : List T} {l h : Int} : subK (.t g (.s nl cs)) l h κ = (subOk l h cs.length ∧ κ (.t g (.s nl ((cs.take h.toNat).drop l.toNat)))) := _root_.id rfl
@[go_sem] theorem subK_o {κ : V → Prop} {y m : Nat} {nl : Option Bool} {cs : List T} {l h : Int} : subK (.own y m nl cs) l h κ = (subOk l h cs.length ∧ κ (.t (.sp y) (.s nl ((cs.take h.toNat).drop l.toNat)))) := _root_.id rfl
@[go_sem] theorem optK_s {α : Type} {a : α} {κ : α → Prop} : optK (some a) κ = κ a := _root_.id rfl
@[go_sem] theorem stK_pet {s : St} {K : St → Prop} {y j m : Nat} {nl : Option Bool} {cs : List T} {g : G} {r : T} : stK s K (.pe y j m nl cs) (.t g r) = (j < cs.length ∧ (r.scal ∨ (g = .fr ∧ m % 10 = 0 ∧ r.one = true)) ∧ K ((y, .own m nl (cs.set j r)) :: s.killSp y)) := _root_.id rfl
@[go_sem] theorem stK_peo {s : St} {K : St → Prop} {y j m x mx : Nat} {nl nx : Option Bool} {cs cx : List T} : stK s K (.pe y j m nl cs) (.own x mx nx cx) = (hangs x y = false ∧ mx < 10 ∧ scalL cx ∧ j < cs.length ∧ m % 10 = 1 ∧ K ((y, .own m nl (cs.set j (.s nx cx))) :: (s.take1 x y nx cx).killSp y)) := _root_.id rfl
@[go_sem] theorem stK_pct {s : St} {K : St → Prop} {z : Nat} {v : V} {ts : List T} {g : G} {r : T} : stK s K (.pc z v ts) (.t g r) = (r.one = true ∧ (V.t g r).onSp (z % 1000) = false ∧ z / 1000 < 100 ∧ K ((z, .t g r) :: s.killSp (z % 1000))) := _root_.id rfl
@[go_sem] theorem stK_ert {s : St} {K : St → Prop} {y j m : Nat} {nl : Option Bool} {cs : List T} {g : G} {r : T} : stK s K (.er y j m nl cs) (.t g r) = (erB ≤ j ∧ m % 10 = 1 ∧ r.scal ∧ j % erB < cs.length ∧ rowL cs ∧ erS s K y j m nl cs r (cs.getD (j % erB) .any)) := _root_.id rfl
@[go_sem] theorem erS_s {s : St} {K : St → Prop} {y j m : Nat} {nl nx : Option Bool} {cs row : List T} {r : T} : erS s K y j m nl cs r (.s nx row) = (j / erB - 1 < row.length ∧ K ((y, .own m nl (cs.set (j % erB) (.s nx (row.set (j / erB - 1) r)))) :: s.kill y)) := _root_.id rfl
@[go_sem] theorem er_mod {k j : Nat} : (erB * (1 + k) + j) % erB = j % erB := Nat.mul_add_mod _ _ _
@[go_sem] theorem er_div {k j : Nat} : (erB * (1 + k) + j) / erB - 1 = k + j / erB := by
 have : 0 < erB := by decide
 rw [Nat.mul_add_div this]; generalize j / erB = c; omega
@[go_sem] theorem er_le {k j : Nat} : (erB ≤ erB * (1 + k) + j) = True := by
 rw [eq_iff_iff, iff_true, Nat.mul_add, Nat.mul_one]; omega
theorem er_sm {j n : Nat} (h : j < n) (h' : n ≤ 1099511627776) : j % erB = j := Nat.mod_eq_of_lt (by unfold erB; omega)
theorem er_sd {j n : Nat} (h : j < n) (h' : n ≤ 1099511627776) : j / erB = 0 := Nat.div_eq_of_lt (by unfold erB; omega)
theorem er_lt {j n : Nat} (h : j < n) (h' : n ≤ maxLen) : j < erB := by unfold erB; unfold maxLen at h'; omega
theorem erC.row {w : World} {b j : Nat} {u : Value} (h : erC w b j u) (hj : j < erB) : w.cell? ⟨b, j, none⟩ = some u := by
 obtain ⟨r, h1, h2⟩ := h
 rw [Nat.mod_eq_of_lt hj] at h1
 rcases h2 with ⟨_, rfl⟩ | ⟨h, _⟩
 ·exact h1
 ·omega
theorem erC.of {w : World} {b j : Nat} {u : Value} (hj : j < erB) (h : w.cell? ⟨b, j, none⟩ = some u) : erC w b j u := ⟨u, by rw [Nat.mod_eq_of_lt hj]; exact h, .inl ⟨hj, rfl⟩⟩
theorem erC.imp {w w' : World} {b j : Nat} {u : Value} (h : erC w b j u) (hk : ∀ a u, a.block = b → w.cell? a = some u → w'.cell? a = some u) : erC w' b j u := by
 obtain ⟨r, h1, h2⟩ := h
 exact ⟨r, hk _ _ rfl h1, h2⟩
@[go_sem] theorem stK_pco {s : St} {K : St → Prop} {z x mx : Nat} {v : V} {ts cx : List T} {nx : Option Bool} : stK s K (.pc z v ts) (.own x mx nx cx) = (hangs z x = false ∧ hangs x (z % 1000) = false ∧ z / 1000 < 100 ∧ mx < 10 ∧ K ((z, .own mx nx cx) :: ((s.kill z).rt x z).killSp (z % 1000))) := _root_.id rfl
@[go_sem] theorem isAny_i {g : G} {n : Int} : V.isAny (.t g (.i n)) = false := _root_.id rfl
@[go_sem] theorem isAny_b {g : G} {x : Bool} : V.isAny (.t g (.b x)) = false := _root_.id rfl
@[go_sem] theorem isAny_s {g : G} {nl : Option Bool} {cs : List T} : V.isAny (.t g (.s nl cs)) = false := _root_.id rfl
@[go_sem] theorem isAny_q {g : G} {k : Nat} {cs : List T} : V.isAny (.t g (.q cs k)) = false := _root_.id rfl
@[go_sem] theorem isAny_c {g : G} {f : Nat} {cs : List T} : V.isAny (.t g (.c f cs)) = false := _root_.id rfl
@[go_sem] theorem isAny_a {g : G} {cs : List T} : V.isAny (.t g (.a cs)) = false := _root_.id rfl
@[go_sem] theorem isAny_u {g : G} {cs : List T} : V.isAny (.t g (.u cs)) = false := _root_.id rfl
@[go_sem] theorem isAny_al {y : Nat} : V.isAny (.al y) = false := _root_.id rfl
@[go_sem] theorem isAny_pc {y : Nat} : V.isAny (.pc y) = false := _root_.id rfl
@[go_sem] theorem isAny_er {y j : Nat} : V.isAny (.er y j) = false := _root_.id rfl
@[go_sem] theorem isAny_pe {y j : Nat} : V.isAny (.pe y j) = false := _root_.id rfl
@[go_sem] theorem isAny_clo {f : Nat} {cp : List Cap} : V.isAny (.clo f cp) = false := _root_.id rfl
@[go_sem] theorem tkK_own {d x : Nat} {s : St} {K : St → Prop} {m : Nat} {nl : Option Bool} {cs : List T} : tkK d x s K (.own m nl cs) = (m < 10 ∧ hangs d x = false ∧ s.lv x = true ∧ K (s.mvN x d)) := _root_.id rfl
@[go_sem] theorem tkK_bx {d x : Nat} {s : St} {K : St → Prop} {k : Nat} : tkK d x s K (.bx k) = (hangs d x = false ∧ x < 1000 ∧ K (s.mvN x d)) := _root_.id rfl
@[go_sem] theorem tkK_tp {d x : Nat} {s : St} {K : St → Prop} {k : Nat} : tkK d x s K (.tp k) = (hangs d x = false ∧ x < 1000 ∧ K (s.mvN x d)) := _root_.id rfl
@[go_sem] theorem tkK_ag {d x : Nat} {s : St} {K : St → Prop} {k : Nat} : tkK d x s K (.ag k) = (hangs d x = false ∧ x < 1000 ∧ K (s.mvN x d)) := _root_.id rfl
@[go_sem] theorem tkK_t {d x : Nat} {s : St} {K : St → Prop} {g : G} {r : T} : tkK d x s K (.t g r) = (s.lv x = true ∧ (x < 1000 ∨ V.isAny (.t g r) = false) ∧ K ((d, (s.look (.s x)).toV) :: s)) := _root_.id rfl
@[go_sem] theorem tkK_al {d x : Nat} {s : St} {K : St → Prop} {y : Nat} : tkK d x s K (.al y) = (s.lv x = true ∧ (x < 1000 ∨ V.isAny (.al y) = false) ∧ K ((d, (s.look (.s x)).toV) :: s)) := _root_.id rfl
@[go_sem] theorem tkK_pc {d x : Nat} {s : St} {K : St → Prop} {z : Nat} : tkK d x s K (.pc z) = (s.lv x = true ∧ (x < 1000 ∨ V.isAny (.pc z) = false) ∧ K ((d, (s.look (.s x)).toV) :: s)) := _root_.id rfl
@[go_sem] theorem tkK_er {d x : Nat} {s : St} {K : St → Prop} {y j : Nat} : tkK d x s K (.er y j) = (s.lv x = true ∧ (x < 1000 ∨ V.isAny (.er y j) = false) ∧ K ((d, (s.look (.s x)).toV) :: s)) := _root_.id rfl
@[go_sem] theorem tkK_pe {d x : Nat} {s : St} {K : St → Prop} {y j : Nat} : tkK d x s K (.pe y j) = (s.lv x = true ∧ (x < 1000 ∨ V.isAny (.pe y j) = false) ∧ K ((d, (s.look (.s x)).toV) :: s)) := _root_.id rfl
@[go_sem] theorem tkK_clo {d x : Nat} {s : St} {K : St → Prop} {f : Nat} {cp : List Cap} : tkK d x s K (.clo f cp) = (s.lv x = true ∧ (x < 1000 ∨ V.isAny (.clo f cp) = false) ∧ K ((d, (s.look (.s x)).toV) :: s)) := _root_.id rfl
@[go_sem] theorem tkK_fo {d x : Nat} {s : St} {K : St → Prop} {z : Nat} {k : Option T} {nl : Option Bool} {cs : List T} : tkK d x s K (.fo z k nl cs) = (s.lv x = true ∧ (x < 1000 ∨ V.isAny (.fo z k nl cs) = false) ∧ K ((d, (s.look (.s x)).toV) :: s)) := _root_.id rfl
@[go_sem] theorem appK_0t {d : Nat} {s : St} {K : St → Prop} {y : Option Nat} {m : Nat} {nl : Option Bool} {cs xs : List T} {g : G} {nx : Option Bool} : appK d s K y m nl cs 0 (.t g (.s nx xs)) = (offO d y = true ∧ scalL xs ∧ cs.length + xs.length ≤ 1099511627776 ∧ K ((d, .own m (nlApp nl xs) (cs ++ xs)) :: rtO y d (s.kill d))) := _root_.id rfl
@[go_sem] theorem appK_0o {d : Nat} {s : St} {K : St → Prop} {y : Option Nat} {m : Nat} {nl : Option Bool} {cs xs : List T} {z mz : Nat} {nx : Option Bool} : appK d s K y m nl cs 0 (.own z mz nx xs) = (offO d y = true ∧ scalL xs ∧ cs.length + xs.length ≤ 1099511627776 ∧ K ((d, .own m (nlApp nl xs) (cs ++ xs)) :: rtO y d (s.kill d))) := _root_.id rfl
@[go_sem] theorem appK_1 {d : Nat} {s : St} {K : St → Prop} {y : Option Nat} {m : Nat} {nl : Option Bool} {cs xs : List T} {z : Nat} {nx : Option Bool} : appK d s K y m nl cs 1 (.own z 1 nx xs) = (offO d y = true ∧ hangs d z = false ∧ y ≠ some z ∧ xs.all T.one = true ∧ (m = 1 ∨ cs = []) ∧ cs.length + xs.length ≤ 1099511627776 ∧ K ((d, .own 1 (nlApp nl xs) (cs ++ xs)) :: rtO y d ((s.kill d).rt z d))) := _root_.id rfl
@[go_sem] theorem appK_2t {d : Nat} {s : St} {K : St → Prop} {y : Option Nat} {m : Nat} {nl : Option Bool} {cs xs : List T} {nx : Option Bool} : appK d s K y m nl cs 2 (.t .fr (.s nx xs)) = (offO d y = true ∧ xs.all T.one = true ∧ (m = 0 ∨ cs = []) ∧ cs.length + xs.length ≤ 1099511627776 ∧ K ((d, .own 0 (nlApp nl xs) (cs ++ xs)) :: rtO y d (s.kill d))) := _root_.id rfl
@[go_sem] theorem appK_2o {d : Nat} {s : St} {K : St → Prop} {y : Option Nat} {m : Nat} {nl : Option Bool} {cs xs : List T} {z : Nat} {nx : Option Bool} : appK d s K y m nl cs 2 (.own z 0 nx xs) = (offO d y = true ∧ xs.all T.one = true ∧ (m = 0 ∨ cs = []) ∧ cs.length + xs.length ≤ 1099511627776 ∧ K ((d, .own 0 (nlApp nl xs) (cs ++ xs)) :: rtO y d (s.kill d))) := _root_.id rfl
@[go_sem] theorem boxK_a {d : Nat} {s : St} {K : St → Prop} {g : G} {fs : List T} : boxK d s K (.t g (.a fs)) = (fs.length < 90 ∧ K ((d, .bx fs.length) :: (boxG g d 0 fs ++ s.kill d))) := _root_.id rfl
@[go_sem] theorem boxK_i {d : Nat} {s : St} {K : St → Prop} {g : G} {n : Int} : boxK d s K (.t g (.i n)) = K ((d, .bx 1) :: (d + 1000, .t g (.i n)) :: s.kill d) := by simp [boxK, T.one]
@[go_sem] theorem boxK_b {d : Nat} {s : St} {K : St → Prop} {g : G} {x : Bool} : boxK d s K (.t g (.b x)) = K ((d, .bx 1) :: (d + 1000, .t g (.b x)) :: s.kill d) := by simp [boxK, T.one]
@[go_sem] theorem boxK_s {d : Nat} {s : St} {K : St → Prop} {g : G} {nl : Option Bool} {cs : List T} : boxK d s K (.t g (.s nl cs)) = K ((d, .bx 1) :: (d + 1000, .t g (.s nl cs)) :: s.kill d) := by simp [boxK, T.one]
@[go_sem] theorem boxK_q {d : Nat} {s : St} {K : St → Prop} {g : G} {cs : List T} {k : Nat} : boxK d s K (.t g (.q cs k)) = K ((d, .bx 1) :: (d + 1000, .t g (.q cs k)) :: s.kill d) := by simp [boxK, T.one]
@[go_sem] theorem boxK_c {d : Nat} {s : St} {K : St → Prop} {g : G} {f : Nat} {cs : List T} : boxK d s K (.t g (.c f cs)) = K ((d, .bx 1) :: (d + 1000, .t g (.c f cs)) :: s.kill d) := by simp [boxK, T.one]
@[go_sem] theorem boxK_o {d : Nat} {s : St} {K : St → Prop} {x m : Nat} {nl : Option Bool} {cs : List T} : boxK d s K (.own x m nl cs) = (hangs d x = false ∧ m < 10 ∧ K ((d, .bx 1) :: (d + 1000, .own m nl cs) :: (s.kill d).rt x (d + 1000))) := _root_.id rfl
@[go_sem] theorem litK_0 {d : Nat} {s : St} {K : St → Prop} {ws : List W} : litK d s K 0 ws = optK (parts ws) fun p => scalL p.2 ∧ K ((d, .own 1 (some false) p.2) :: s.kill d) := by cases ws <;> rfl
@[go_sem] theorem litK_1 {d : Nat} {s : St} {K : St → Prop} {x m : Nat} {nl : Option Bool} {cs : List T} : litK d s K 1 [.own x m nl cs] = (hangs d x = false ∧ m < 10 ∧ scalL cs ∧ K ((d, .own 1 (some false) [.s nl cs]) :: (s.kill d).take1 x d nl cs)) := _root_.id rfl
@[go_sem] theorem litK_2 {d : Nat} {s : St} {K : St → Prop} {ws : List W} : litK d s K 2 ws = optK (parts ws) fun p => p.1 = .fr ∧ K ((d, .own 0 (some false) p.2) :: s.kill d) := by cases ws <;> rfl
@[go_sem] theorem mkK_e {d : Nat} {z : T} {s : St} {K : St → Prop} {g h : G} {l c : Int} : mkK d z s K (.t g (.i l)) (.t h (.i c)) = (0 ≤ l ∧ l ≤ c ∧ c ≤ 1099511627776 ∧ K ((d, .own 1 (some false) (List.replicate l.toNat z)) :: s.kill d)) := _root_.id rfl
@[go_sem] theorem coCK_c {P : Program} {d : Nat} {s : St} {K : St → Prop} {f : Nat} {ts : List T} {ws : List W} {cp : List Cap} : coCK P d s K (.clo f cp ts :: ws) = CallK P f (ws.map W.res ++ ts) fun R => K (R.shift d ++ s.kill d) := _root_.id rfl
@[go_sem] theorem coCK_t {P : Program} {d : Nat} {s : St} {K : St → Prop} {f : Nat} {ts : List T} {ws : List W} {g : G} : coCK P d s K (.t g (.c f ts) :: ws) = CallK P f (ws.map W.res ++ ts) fun R => K (R.shift d ++ s.kill d) := _root_.id rfl
@[go_sem] theorem frzK_o {y : Nat} {s : St} {K : St → Prop} {m : Nat} {nl : Option Bool} {cs : List T} : frzK y s K (.own m nl cs) = (m < 2 ∧ s.lv y = true ∧ K ((y, .t .fr (.s nl cs)) :: s.kill y)) := _root_.id rfl
@[go_sem] theorem wpI_v {P : Program} {K : St → Prop} {s : St} {d : Nat} {o : O} {xs : List X} : wpI P (.v d o xs) K s = stepK P o (xs.map s.look) fun v => K ((d, v) :: s) := _root_.id rfl
@[go_sem] theorem wpI_mkn {P : Program} {K : St → Prop} {s : St} {d : Nat} : wpI P (.mkn d) K s = K ((d, .own 1 (some true) []) :: s.kill d) := _root_.id rfl
@[go_sem] theorem wpI_tk {P : Program} {K : St → Prop} {s : St} {d x : Nat} : wpI P (.tk d x) K s = tkK d x s K (s.get x) := _root_.id rfl
@[go_sem] theorem wpI_st {P : Program} {K : St → Prop} {s : St} {p v : X} : wpI P (.st p v) K s = stK s K (s.look p) (s.look v) := _root_.id rfl
@[go_sem] theorem wpI_app {P : Program} {K : St → Prop} {s : St} {d k : Nat} {x e : X} : wpI P (.app d x e k) K s = optK (appBase (s.look x)) fun q => appK d s K q.1 q.2.1 q.2.2.1 q.2.2.2 k (s.look e) := _root_.id rfl
@[go_sem] theorem wpI_box {P : Program} {K : St → Prop} {s : St} {d : Nat} {x : X} : wpI P (.box d x) K s = boxK d s K (s.look x) := _root_.id rfl
@[go_sem] theorem wpI_new {P : Program} {K : St → Prop} {s : St} {d : Nat} {zs : List T} : wpI P (.new d zs) K s = K ((d, .bx zs.length) :: (boxN d 0 zs ++ s.kill d)) := _root_.id rfl
@[go_sem] theorem wpI_lit {P : Program} {K : St → Prop} {s : St} {d k : Nat} {ps : List X} : wpI P (.lit d ps k) K s = litK d s K k (ps.map s.look) := _root_.id rfl
@[go_sem] theorem wpI_mk {P : Program} {K : St → Prop} {s : St} {d : Nat} {z : T} {l c : X} : wpI P (.mk d z l c) K s = mkK d z s K (s.look l) (s.look c) := _root_.id rfl
@[go_sem] theorem wpI_cox {P : Program} {K : St → Prop} {s : St} {d : Option Nat} {f i : Nat} {xs : List X} : wpI P (.cox d f xs i) K s = coxK P d f i s K (xs.map s.look) (xs.map s.look)[i]? := _root_.id rfl
@[go_sem] theorem coxK_own {P : Program} {d : Option Nat} {f i : Nat} {s : St} {K : St → Prop} {ws : List W} {y m : Nat} {nl : Option Bool} {cs : List T} : coxK P d f i s K ws (some (.own y m nl cs)) =
  (s.offL y i ws = true ∧ (m % 10 = 1 ∨ scalL cs) ∧ CallXK P f i (ws.map W.res) fun t nl' cs' => (m % 10 = 1 ∨ scalL cs') ∧ K (putD d (.mk .fr t) ((y, .own m nl' cs') :: s.kill y))) := _root_.id rfl
@[go_sem] theorem coxK_er {P : Program} {d : Option Nat} {f i : Nat} {s : St} {K : St → Prop} {ws : List W} {y j m : Nat} {nl : Option Bool} {cs : List T} : coxK P d f i s K ws (some (.er y j m nl cs)) =
  (s.offL y i ws = true ∧ m % 10 = 1 ∧ j < cs.length ∧ rowL cs ∧ CallXK P f i (ws.map W.res) fun t nl' cs' => scalL cs' ∧ K (putD d (.mk .fr t) ((y, .own m nl (cs.set j (.s nl' cs'))) :: s.kill y))) := _root_.id rfl
@[go_sem] theorem wpI_coc {P : Program} {K : St → Prop} {s : St} {d f : Nat} {xs : List X} {is : List Nat} : wpI P (.coc d f xs is) K s = cocK P d f is s K (xs.map s.look) := _root_.id rfl
@[go_sem] theorem cocK_e {P : Program} {d f : Nat} {is : List Nat} {s : St} {K : St → Prop} {ws : List W} : cocK P d f is s K ws = cocZ ws is [] fun zs => s.offJ zs is 0 ws = true ∧ CallCK P f is (ws.map W.res) fun R => K (R.shift d ++ St.killL zs (s.kill d)) := _root_.id rfl
@[go_sem] theorem memB_n {k : Nat} : memB k [] = false := _root_.id rfl
@[go_sem] theorem memB_c {k i : Nat} {is : List Nat} : memB k (i :: is) = bif k == i then true else memB k is := _root_.id rfl
@[go_sem] theorem killL_n {s : St} : St.killL [] s = s := _root_.id rfl
@[go_sem] theorem killL_c {z : Nat} {zs : List Nat} {s : St} : St.killL (z :: zs) s = St.killL zs (s.kill z) := _root_.id rfl
@[go_sem] theorem cocW_o {zs : List Nat} {κ : Nat → Prop} {y m : Nat} {nl : Option Bool} {cs : List T} : cocW zs κ (some (.own y m nl cs)) = ((m = 1 ∨ (scalL cs ∧ m < 10)) ∧ memB y zs = false ∧ κ y) := _root_.id rfl
@[go_sem] theorem cocZ_n {ws : List W} {zs : List Nat} {κ : List Nat → Prop} : cocZ ws [] zs κ = κ zs := _root_.id rfl
@[go_sem] theorem cocZ_c {ws : List W} {i : Nat} {is zs : List Nat} {κ : List Nat → Prop} : cocZ ws (i :: is) zs κ = cocW zs (fun z => cocZ ws is (z :: zs) κ) ws[i]? := _root_.id rfl
@[go_sem] theorem offZ_n {s : St} {w : W} : s.offZ w [] = true := _root_.id rfl
@[go_sem] theorem offZ_c {s : St} {w : W} {z : Nat} {zs : List Nat} : s.offZ w (z :: zs) = (s.offW z w && s.offZ w zs) := _root_.id rfl
@[go_sem] theorem offJ_n {s : St} {zs is : List Nat} {k : Nat} : s.offJ zs is k [] = true := _root_.id rfl
@[go_sem] theorem offJ_c {s : St} {zs is : List Nat} {k : Nat} {w : W} {ws : List W} : s.offJ zs is k (w :: ws) = bif memB k is then s.offJ zs is (k + 1) ws else (s.offZ w zs && s.offJ zs is (k + 1) ws) := _root_.id rfl
@[go_sem] theorem at_1 {α : Type} {a b : α} {l : List α} : (a :: b :: l)[1]? = some b := _root_.id rfl
@[go_sem] theorem at_2 {α : Type} {a b c : α} {l : List α} : (a :: b :: c :: l)[2]? = some c := _root_.id rfl
@[go_sem] theorem at_0 {α : Type} {a : α} {l : List α} : (a :: l)[0]? = some a := _root_.id rfl
@[go_sem] theorem at_s {α : Type} {a : α} {l : List α} {i : Nat} : (a :: l)[i + 1]? = l[i]? := _root_.id rfl
@[go_sem] theorem offA_n {s : St} {y : Nat} : s.offA y [] = true := _root_.id rfl
@[go_sem] theorem offA_c {s : St} {y : Nat} {w : W} {ws : List W} : s.offA y (w :: ws) = (s.offW y w && s.offA y ws) := _root_.id rfl
@[go_sem] theorem offL_n {s : St} {y i : Nat} : s.offL y i [] = true := by cases i <;> rfl
@[go_sem] theorem offL_0 {s : St} {y : Nat} {w : W} {ws : List W} : s.offL y 0 (w :: ws) = s.offA y ws := _root_.id rfl
@[go_sem] theorem offL_s {s : St} {y i : Nat} {w : W} {ws : List W} : s.offL y (i + 1) (w :: ws) = (s.offW y w && s.offL y i ws) := _root_.id rfl
@[go_sem] theorem offW_t {s : St} {y : Nat} {g : G} {t : T} : s.offW y (.t g t) = !g.on y := _root_.id rfl
@[go_sem] theorem offW_own {s : St} {y z m : Nat} {nl : Option Bool} {cs : List T} : s.offW y (.own z m nl cs) = !(z == y) := _root_.id rfl
@[go_sem] theorem offW_clo {s : St} {y f : Nat} {cp : List Cap} {ts : List T} : s.offW y (.clo f cp ts) = s.offCaps y cp := _root_.id rfl
@[go_sem] theorem offCaps_n {s : St} {y : Nat} : s.offCaps y [] = true := _root_.id rfl
@[go_sem] theorem offCaps_t {s : St} {y : Nat} {g : G} {t : T} {cs : List Cap} : s.offCaps y (.t g t :: cs) = (!g.on y && s.offCaps y cs) := _root_.id rfl
@[go_sem] theorem offCaps_p {s : St} {y z : Nat} {cs : List Cap} : s.offCaps y (.p z :: cs) = (s.offBx y (z % 1000) (s.get (z % 1000)) && s.offCaps y cs) := _root_.id rfl
@[go_sem] theorem offBx_bx {s : St} {y z n : Nat} : s.offBx y z (.bx n) = s.offBox y z 0 n := _root_.id rfl
def offCell (y k : Nat) : V → Bool
 | .t g _ => !g.on y
 | .own _ _ _ => !(k == y)
 | .al q => !(q == y)
 | _ => true
@[go_sem] theorem offBox_0 {s : St} {y z j : Nat} : s.offBox y z j 0 = true := _root_.id rfl
@[go_sem] theorem offBox_s {s : St} {y z j n : Nat} : s.offBox y z j (n + 1) = (offCell y (z + 1000 * (1 + j)) (s.get (z + 1000 * (1 + j))) && s.offBox y z (j + 1) n) := by
 simp only [St.offBox]; cases s.get (z + 1000 * (1 + j)) <;> rfl
@[go_sem] theorem offCell_t {y k : Nat} {g : G} {t : T} : offCell y k (.t g t) = !g.on y := _root_.id rfl
@[go_sem] theorem offCell_own {y k m : Nat} {nl : Option Bool} {cs : List T} : offCell y k (.own m nl cs) = !(k == y) := _root_.id rfl
@[go_sem] theorem offCell_al {y k q : Nat} : offCell y k (.al q) = !(q == y) := _root_.id rfl
@[go_sem] theorem putD_s {d : Nat} {v : V} {s : St} : putD (some d) v s = (d, v) :: s := _root_.id rfl
@[go_sem] theorem putD_n {v : V} {s : St} : putD none v s = s := _root_.id rfl
@[go_sem] theorem wpI_co {P : Program} {K : St → Prop} {s : St} {d f : Nat} {xs : List X} : wpI P (.co d f xs) K s = CallK P f (xs.map fun x => (s.look x).res) fun R => K (R.shift d ++ s.kill d) := _root_.id rfl
@[go_sem] theorem wpI_coC {P : Program} {K : St → Prop} {s : St} {d : Nat} {xs : List X} : wpI P (.coC d xs) K s = coCK P d s K (xs.map s.look) := _root_.id rfl
@[go_sem] theorem wpI_frz {P : Program} {K : St → Prop} {s : St} {y : Nat} : wpI P (.frz y) K s = frzK y s K (s.get y) := _root_.id rfl
@[go_sem] theorem guardK_b {t : Nat} {s : St} {w : Bool} {k1 k2 : St → Prop} {x : Bool} : guardK t s w k1 k2 (.t .fr (.b x)) = ((x = w → k1 ((t, .b w) :: s)) ∧ (x = !w → k2 ((t, .b (!w)) :: s))) := _root_.id rfl
@[go_sem] theorem wpL_nil {P : Program} {K : St → Prop} {s : St} : wpL P [] K s = K s := _root_.id rfl
@[go_sem] theorem wpL_none {P : Program} {K : St → Prop} {s : St} {i : I} {r : List (Gd × I)} : wpL P ((none, i) :: r) K s = wpI P i (wpL P r K) s := _root_.id rfl
@[go_sem] theorem guardK_u {t : Nat} {s : St} {w : Bool} {k1 k2 : St → Prop} : guardK t s w k1 k2 (.t .fr (.u [])) = k2 ((t, .t .fr (.u [])) :: s) := _root_.id rfl
@[go_sem] theorem wpL_some {P : Program} {K : St → Prop} {s : St} {i : I} {t : Nat} {w : Bool} {r : List (Gd × I)} : wpL P ((some (t, w), i) :: r) K s = guardK t s w (wpI P i (wpL P r K)) (fun s => wpL P r K (skipI i s)) (s.get t) := _root_.id rfl
@[go_sem] theorem wpC_no {P : Program} {Q : Ex → St → Prop} {s : St} : wpC P .no Q s = False := _root_.id rfl
@[go_sem] theorem wpC_skip {P : Program} {Q : Ex → St → Prop} {s : St} : wpC P .skip Q s = Q .n s := _root_.id rfl
@[go_sem] theorem wpC_rgF {P : Program} {Q : Ex → St → Prop} {s : St} {n e : Nat} {F : List FltS} {ops : List (Gd × I)} : wpC P (.rgF n e F ops) Q s = (intsK F s ∧ noNm n ops s ∧ wpL P ops (Q .n) s) := _root_.id rfl
@[go_sem] theorem wpC_rg {P : Program} {Q : Ex → St → Prop} {s : St} {n : Nat} {ops : List (Gd × I)} : wpC P (.rg n ops) Q s = (noNm n ops s ∧ wpL P ops (Q .n) s) := _root_.id rfl
@[go_sem] theorem wpC_rgH {P : Program} {Q : Ex → St → Prop} {s : St} {is es : List Nat} {ls : List (Gd × I)} {effs : List (List (Gd × I) × List Nat)} : wpC P (.rgH is es ls effs) Q s = wpL P ls (heldL P ls effs (Q .n)) s := _root_.id rfl
@[go_sem] theorem heldL_nil {P : Program} {K : St → Prop} {s : St} {ls : List (Gd × I)} : heldL P ls [] K s = K s := _root_.id rfl
@[go_sem] theorem heldL_cons {P : Program} {K : St → Prop} {s : St} {ls r : List (Gd × I)} {ds : List Nat} {effs : List (List (Gd × I) × List Nat)} : heldL P ls ((r, ds) :: effs) K s = wpL P r (fun s' => HeldAll P ls ds s' ∧ heldL P ls effs K s') s := _root_.id rfl
@[go_sem] theorem HeldAll_nil {P : Program} {s : St} {ls : List (Gd × I)} : HeldAll P ls [] s = True := _root_.id rfl
@[go_sem] theorem HeldAll_cons {P : Program} {s : St} {ls : List (Gd × I)} {d : Nat} {ds : List Nat} : HeldAll P ls (d :: ds) s = (HeldOne P ls d s ∧ HeldAll P ls ds s) := _root_.id rfl
@[go_sem] theorem HeldOne_v {P : Program} {s : St} {ls : List (Gd × I)} {g : Gd} {o : O} {xs : List X} {d y : Nat} : HeldOne P ((g, .v d o xs) :: ls) y s = bif d == y then detV y s (s.get y) ∧ stepK P o (xs.map s.look) (· = s.get y) else HeldOne P ls y s := by
 unfold HeldOne
 rw [show lookOf ((g, I.v d o xs) :: ls) y = bif d == y then some (o, xs) else lookOf ls y from _root_.id rfl]
 cases d == y <;> rfl
@[go_sem] theorem detV_al {d z : Nat} {s : St} : detV d s (.al z) = (hangs d z = false ∧ (match s.get z with | .own .. => s.lv z = true | .ag _ => z < 1000 | _ => False)) := _root_.id rfl
@[go_sem] theorem wpC_rgE {P : Program} {Q : Ex → St → Prop} {s : St} {n k : Nat} {h e t : List (Gd × I)} : wpC P (.rgE n k h e t) Q s = (noNm n h s ∧ wpL P h (fun s1 => lateA P e t (Q .n) s k h [] s1) s) := _root_.id rfl
@[go_sem] theorem lateA_0 {P : Program} {e t h late : List (Gd × I)} {K : St → Prop} {s0 s : St} : lateA P e t K s0 0 h late s = wpL P e (lateW P late (wpL P t K)) s := by cases h <;> rfl
@[go_sem] theorem lateA_s {P : Program} {e t fs late : List (Gd × I)} {K : St → Prop} {s0 s : St} {k d : Nat} {g : Gd} {o : O} {xs : List X} : lateA P e t K s0 (k + 1) ((g, .v d o xs) :: fs) late s = (lateA P e t K s0 k fs late s ∧ lateA P e t K s0 k fs (latS late (g, .v d o xs)) ((d, s0.get d) :: s)) := _root_.id rfl
@[go_sem] theorem latS_0 {x : Gd × I} : latS [] x = [x] := _root_.id rfl
@[go_sem] theorem latS_1 {a x : Gd × I} : latS [a] x = [a, x] := _root_.id rfl
@[go_sem] theorem lateW_0 {P : Program} {K : St → Prop} {s : St} : lateW P [] K s = K s := _root_.id rfl
@[go_sem] theorem lateW_1 {P : Program} {K : St → Prop} {s : St} {f : Gd × I} : lateW P [f] K s = wpL P [f] K s := _root_.id rfl
@[go_sem] theorem lateW_2 {P : Program} {K : St → Prop} {s : St} {f g : Gd × I} : lateW P [f, g] K s = (wpL P [f, g] K s ∧ wpL P [g, f] K s) := _root_.id rfl
@[go_sem] theorem noNm_0 {r : List (Gd × I)} {s : St} : noNm 0 r s = True := by cases r <;> simp [noNm]
@[go_sem] theorem noNm_v {n d : Nat} {g : Gd} {o : O} {xs : List X} {r : List (Gd × I)} {s : St} : noNm (n + 1) ((g, .v d o xs) :: r) s = ((s.get d).isName = false ∧ noNm n r s) := _root_.id rfl
@[go_sem] theorem noNm_frz {n y : Nat} {g : Gd} {r : List (Gd × I)} {s : St} : noNm (n + 1) ((g, .frz y) :: r) s = noNm (n + 1) r s := _root_.id rfl
@[go_sem] theorem isName_t {g : G} {r : T} : V.isName (.t g r) = false := _root_.id rfl
@[go_sem] theorem isName_al {y : Nat} : V.isName (.al y) = false := _root_.id rfl
@[go_sem] theorem isName_pc {y : Nat} : V.isName (.pc y) = false := _root_.id rfl
@[go_sem] theorem isName_pe {y j : Nat} : V.isName (.pe y j) = false := _root_.id rfl
@[go_sem] theorem isName_clo {f : Nat} {cp : List Cap} : V.isName (.clo f cp) = false := _root_.id rfl
@[go_sem] theorem wpC_seq {P : Program} {Q : Ex → St → Prop} {s : St} {a b : C} : wpC P (.seq a b) Q s = wpC P a (seqQ (wpC P b Q) Q) s := _root_.id rfl
@[go_sem] theorem wpC_cond {P : Program} {Q : Ex → St → Prop} {s : St} {x : X} {a b : C} : wpC P (.cond x a b) Q s = condK (wpC P a Q s) (wpC P b Q s) (s.look x) := _root_.id rfl
@[go_sem] theorem wpC_block {P : Program} {Q : Ex → St → Prop} {s : St} {id : Nat} {b : C} : wpC P (.block id b) Q s = wpC P b (blockK id Q) s := _root_.id rfl
@[go_sem] theorem wpC_loop {P : Program} {Q : Ex → St → Prop} {s : St} {b : C} : wpC P (.loop b) Q s = LoopK (wpC P b) Q s := _root_.id rfl
@[go_sem] theorem wpC_exit {P : Program} {Q : Ex → St → Prop} {s : St} {id : Nat} : wpC P (.exit id) Q s = Q (.x id) s := _root_.id rfl
@[go_sem] theorem wpC_ret {P : Program} {Q : Ex → St → Prop} {s : St} : wpC P .ret Q s = Q .r s := _root_.id rfl
@[go_sem] theorem wpC_cl {P : Program} {Q : Ex → St → Prop} {s : St} {ks : List Nat} {c : C} : wpC P (.cl ks c) Q s = wpC P c Q (ks.map fun k => (k, s.get k)) := _root_.id rfl
@[go_sem] theorem condK_b {k1 k2 : Prop} {g : G} {p : Bool} : condK k1 k2 (.t g (.b p)) = ((p = true → k1) ∧ (p = false → k2)) := _root_.id rfl
@[go_sem] theorem seqQ_n {K : St → Prop} {Q : Ex → St → Prop} {s : St} : seqQ K Q (.n) s = K s := _root_.id rfl
@[go_sem] theorem seqQ_x {K : St → Prop} {Q : Ex → St → Prop} {s : St} {j : Nat} : seqQ K Q (.x j) s = Q (.x j) s := _root_.id rfl
@[go_sem] theorem seqQ_r {K : St → Prop} {Q : Ex → St → Prop} {s : St} : seqQ K Q (.r) s = Q .r s := _root_.id rfl
@[go_sem] theorem blockK_n {id : Nat} {Q : Ex → St → Prop} {s : St} : blockK id Q .n s = Q .n s := _root_.id rfl
@[go_sem] theorem blockK_r {id : Nat} {Q : Ex → St → Prop} {s : St} : blockK id Q .r s = Q .r s := _root_.id rfl
@[go_sem] theorem blockK_x {id j : Nat} {Q : Ex → St → Prop} {s : St} : blockK id Q (.x j) s = bif j == id then Q .n s else Q (.x j) s := _root_.id rfl
@[go_sem] theorem roundK_r {ι : Type} {f : ι → St} {μ : ι → Nat} {i : ι} {Q : Ex → St → Prop} {s : St} : roundK f μ i Q .r s = Q .r s := _root_.id rfl
@[go_sem] theorem roundK_x {ι : Type} {f : ι → St} {μ : ι → Nat} {i : ι} {Q : Ex → St → Prop} {s : St} {j : Nat} : roundK f μ i Q (.x j) s = Q (.x j) s := _root_.id rfl
@[go_sem] theorem get_nil {y : Nat} : St.get [] y = V.any := _root_.id rfl
theorem get_cons {k y : Nat} {v : V} {s : St} : St.get ((k, v) :: s) y = bif k == y then v else St.get s y := rfl
@[go_sem] theorem get_hit {k : Nat} {v : V} {s : St} : St.get ((k, v) :: s) k = v := by simp [get_cons]
@[go_sem] theorem get_miss {k y : Nat} {v : V} {s : St} (h : (k == y) = false) : St.get ((k, v) :: s) y = St.get s y := by simp [get_cons, h]
@[go_sem] theorem look_s {s : St} {n : Nat} : s.look (.s n) = s.enr n (s.get n) := _root_.id rfl
@[go_sem] theorem look_k {s : St} {t : T} : s.look (.k t) = W.t .fr t := _root_.id rfl
@[go_sem] theorem enr_t {s : St} {n : Nat} {g : G} {t : T} : s.enr n (.t g t) = W.t g t := _root_.id rfl
@[go_sem] theorem enr_own {s : St} {n : Nat} {m : Nat} {nl : Option Bool} {cs : List T} : s.enr n (.own m nl cs) = W.own n m nl cs := _root_.id rfl
@[go_sem] theorem enr_bx {s : St} {n : Nat} {k : Nat} : s.enr n (.bx k) = s.pcW (n + 1000) := _root_.id rfl
@[go_sem] theorem enr_tp {s : St} {n : Nat} {k : Nat} : s.enr n (.tp k) = W.tp n k := _root_.id rfl
@[go_sem] theorem enr_ag {s : St} {n : Nat} {k : Nat} : s.enr n (.ag k) = W.ag n k (s.cells n 200 0 k) := _root_.id rfl
@[go_sem] theorem enr_pc {s : St} {n : Nat} {z : Nat} : s.enr n (.pc z) = s.pcW z := _root_.id rfl
@[go_sem] theorem enr_clo {s : St} {n : Nat} {f : Nat} {cp : List Cap} : s.enr n (.clo f cp) = W.clo f cp (cp.map s.capT) := _root_.id rfl
def alW (s : St) (y : Nat) : V → W
 | .own m nl cs => bif s.lv y then .own y m nl cs else .no
 | .ag k => bif y < 1000 then .ag y k (s.cells y 200 0 k) else .no
 | _ => .no
def peW (s : St) (y j : Nat) : V → W
 | .own m nl cs => bif s.lv y then .pe y j m nl cs else .no
 | _ => .no
def pcW' (s : St) (z : Nat) (x : V) : V → W
 | .bx n => bif z / 1000 - 1 < n && 1000 ≤ z then .pc z x (s.cells (z % 1000) 1 0 n) else .no
 | _ => .no
def cellV (z : Nat) : V → V
 | .own .. => .al z
 | v => v
def resV (s : St) : V → T
 | .t _ r => r
 | .own _ nl cs => .s nl cs
 | .al z => match s.get z with
  | .own _ nl cs => bif s.lv z then .s nl cs else .any
  | _ => .any
 | _ => .any
def capV (s : St) (z : Nat) : V → T
 | .bx n => .q (s.cells (z % 1000) 1 0 n) (z / 1000 - 1)
 | _ => .any
@[go_sem] theorem enr_al {s : St} {n : Nat} {y : Nat} : s.enr n (.al y) = alW s y (s.get y) := _root_.id rfl
def erW (s : St) (y j : Nat) : V → W
 | .own m nl cs => bif s.lv y then .er y j m nl cs else .no
 | _ => .no
@[go_sem] theorem erW_own {s : St} {y j m : Nat} {nl : Option Bool} {cs : List T} : erW s y j (.own m nl cs) = bif s.lv y then .er y j m nl cs else .no := _root_.id rfl
@[go_sem] theorem enr_er {s : St} {n : Nat} {y j : Nat} : s.enr n (.er y j) = erW s y j (s.get y) := _root_.id rfl
@[go_sem] theorem enr_pe {s : St} {n : Nat} {y j : Nat} : s.enr n (.pe y j) = peW s y j (s.get y) := _root_.id rfl
@[go_sem] theorem alW_own {s : St} {y m : Nat} {nl : Option Bool} {cs : List T} : alW s y (.own m nl cs) = bif s.lv y then W.own y m nl cs else W.no := _root_.id rfl
@[go_sem] theorem alW_ag {s : St} {y k : Nat} : alW s y (.ag k) = bif y < 1000 then W.ag y k (s.cells y 200 0 k) else W.no := _root_.id rfl
@[go_sem] theorem peW_own {s : St} {y j m : Nat} {nl : Option Bool} {cs : List T} : peW s y j (.own m nl cs) = bif s.lv y then W.pe y j m nl cs else W.no := _root_.id rfl
@[go_sem] theorem pcW_eq {s : St} {z : Nat} : s.pcW z = pcW' s z (cellV z (s.get z)) (s.get (z % 1000)) := _root_.id rfl
@[go_sem] theorem pcW'_bx {s : St} {z n : Nat} {x : V} : pcW' s z x (.bx n) = bif decide (z / 1000 - 1 < n) && decide (1000 ≤ z) then W.pc z x (s.cells (z % 1000) 1 0 n) else W.no := _root_.id rfl
@[go_sem] theorem cellV_own {z m : Nat} {nl : Option Bool} {cs : List T} : cellV z (.own m nl cs) = V.al z := _root_.id rfl
@[go_sem] theorem cellV_t {z : Nat} {g : G} {r : T} : cellV z (.t g r) = (.t g r : V) := _root_.id rfl
@[go_sem] theorem cellV_al {z : Nat} {y : Nat} : cellV z (.al y) = (.al y : V) := _root_.id rfl
@[go_sem] theorem cellV_pc {z : Nat} {y : Nat} : cellV z (.pc y) = (.pc y : V) := _root_.id rfl
@[go_sem] theorem cellV_pe {z : Nat} {y j : Nat} : cellV z (.pe y j) = (.pe y j : V) := _root_.id rfl
@[go_sem] theorem cellV_clo {z : Nat} {f : Nat} {cp : List Cap} : cellV z (.clo f cp) = (.clo f cp : V) := _root_.id rfl
@[go_sem] theorem cellV_bx {z : Nat} {k : Nat} : cellV z (.bx k) = (.bx k : V) := _root_.id rfl
@[go_sem] theorem cells_0 {s : St} {x c j : Nat} : s.cells x c j 0 = [] := _root_.id rfl
@[go_sem] theorem cells_s {s : St} {x c j n : Nat} : s.cells x c j (n + 1) = s.resN (x + 1000 * (c + j)) :: s.cells x c (j + 1) n := _root_.id rfl
@[go_sem] theorem cells_1 {s : St} {x c j : Nat} : s.cells x c j 1 = [s.resN (x + 1000 * (c + j))] := _root_.id rfl
@[go_sem] theorem cells_2 {s : St} {x c j : Nat} : s.cells x c j 2 = [s.resN (x + 1000 * (c + j)), s.resN (x + 1000 * (c + (j + 1)))] := _root_.id rfl
@[go_sem] theorem cells_3 {s : St} {x c j : Nat} : s.cells x c j 3 = [s.resN (x + 1000 * (c + j)), s.resN (x + 1000 * (c + (j + 1))), s.resN (x + 1000 * (c + (j + 1 + 1)))] := _root_.id rfl
@[go_sem] theorem resN_eq {s : St} {y : Nat} : s.resN y = resV s (s.get y) := _root_.id rfl
@[go_sem] theorem resV_t {s : St} {g : G} {r : T} : resV s (.t g r) = r := _root_.id rfl
@[go_sem] theorem resV_own {s : St} {m : Nat} {nl : Option Bool} {cs : List T} : resV s (.own m nl cs) = T.s nl cs := _root_.id rfl
def resA (s : St) (z : Nat) : V → T
 | .own _ nl cs => bif s.lv z then .s nl cs else .any
 | _ => .any
@[go_sem] theorem resV_al {s : St} {z : Nat} : resV s (.al z) = resA s z (s.get z) := _root_.id rfl
@[go_sem] theorem resA_own {s : St} {z m : Nat} {nl : Option Bool} {cs : List T} : resA s z (.own m nl cs) = bif s.lv z then T.s nl cs else T.any := _root_.id rfl
@[go_sem] theorem capT_t {s : St} {g : G} {r : T} : s.capT (.t g r) = r := _root_.id rfl
@[go_sem] theorem capT_p {s : St} {z : Nat} : s.capT (.p z) = capV s z (s.get (z % 1000)) := _root_.id rfl
@[go_sem] theorem capV_bx {s : St} {z n : Nat} : capV s z (.bx n) = T.q (s.cells (z % 1000) 1 0 n) (z / 1000 - 1) := _root_.id rfl
@[go_sem] theorem lv_eq {s : St} {y : Nat} : s.lv y = (decide (y < 1000) || (s.get (y % 1000)).cont) := _root_.id rfl
@[go_sem] theorem cont_bx {k : Nat} : V.cont (.bx k) = true := _root_.id rfl
@[go_sem] theorem cont_tp {k : Nat} : V.cont (.tp k) = true := _root_.id rfl
@[go_sem] theorem cont_ag {k : Nat} : V.cont (.ag k) = true := _root_.id rfl
@[go_sem] theorem cont_t {g : G} {r : T} : V.cont (.t g r) = false := _root_.id rfl
@[go_sem] theorem cont_own {m : Nat} {nl : Option Bool} {cs : List T} : V.cont (.own m nl cs) = false := _root_.id rfl
@[go_sem] theorem toV_t {g : G} {r : T} : W.toV (.t g r) = V.t g r := _root_.id rfl
@[go_sem] theorem res_t {g : G} {r : T} : W.res (.t g r) = r := _root_.id rfl
@[go_sem] theorem toV_own {y m : Nat} {nl : Option Bool} {cs : List T} : W.toV (.own y m nl cs) = V.al y := _root_.id rfl
@[go_sem] theorem res_own {y m : Nat} {nl : Option Bool} {cs : List T} : W.res (.own y m nl cs) = T.s nl cs := _root_.id rfl
@[go_sem] theorem toV_er {y j m : Nat} {nl : Option Bool} {cs : List T} : W.toV (.er y j m nl cs) = V.er y j := _root_.id rfl
@[go_sem] theorem res_er {y j m : Nat} {nl : Option Bool} {cs : List T} : W.res (.er y j m nl cs) = cs.getD j .any := _root_.id rfl
@[go_sem] theorem toV_pe {y j m : Nat} {nl : Option Bool} {cs : List T} : W.toV (.pe y j m nl cs) = V.pe y j := _root_.id rfl
@[go_sem] theorem res_pe {y j m : Nat} {nl : Option Bool} {cs : List T} : W.res (.pe y j m nl cs) = T.q cs j := _root_.id rfl
@[go_sem] theorem toV_pc {z : Nat} {x : V} {ts : List T} : W.toV (.pc z x ts) = V.pc z := _root_.id rfl
@[go_sem] theorem res_pc {z : Nat} {x : V} {ts : List T} : W.res (.pc z x ts) = T.q ts (z / 1000 - 1) := _root_.id rfl
@[go_sem] theorem toV_clo {f : Nat} {cp : List Cap} {ts : List T} : W.toV (.clo f cp ts) = V.clo f cp := _root_.id rfl
@[go_sem] theorem res_clo {f : Nat} {cp : List Cap} {ts : List T} : W.res (.clo f cp ts) = T.c f ts := _root_.id rfl
@[go_sem] theorem toV_ag {y k : Nat} {ts : List T} : W.toV (.ag y k ts) = V.al y := _root_.id rfl
@[go_sem] theorem res_ag {y k : Nat} {ts : List T} : W.res (.ag y k ts) = T.a ts := _root_.id rfl
@[go_sem] theorem wlen_t {g : G} {nl : Option Bool} {cs : List T} : W.len (.t g (.s nl cs)) = (cs.length : Int) := _root_.id rfl
@[go_sem] theorem wlen_o {y m : Nat} {nl : Option Bool} {cs : List T} : W.len (.own y m nl cs) = (cs.length : Int) := _root_.id rfl
@[go_sem] theorem mk_i {g : G} {n : Int} : V.mk g (.i n) = V.i n := _root_.id rfl
@[go_sem] theorem mk_b {g : G} {x : Bool} : V.mk g (.b x) = V.b x := _root_.id rfl
@[go_sem] theorem mk_s {g : G} {nl : Option Bool} {cs : List T} : V.mk g (.s nl cs) = V.t g (.s nl cs) := _root_.id rfl
@[go_sem] theorem mk_q {g : G} {cs : List T} {k : Nat} : V.mk g (.q cs k) = V.t g (.q cs k) := _root_.id rfl
@[go_sem] theorem mk_c {g : G} {f : Nat} {cs : List T} : V.mk g (.c f cs) = V.t g (.c f cs) := _root_.id rfl
@[go_sem] theorem mk_a {g : G} {cs : List T} : V.mk g (.a cs) = V.t g (.a cs) := _root_.id rfl
@[go_sem] theorem mk_u {g : G} {cs : List T} : V.mk g (.u cs) = V.t g (.u cs) := _root_.id rfl
@[go_sem] theorem mk_any {g : G} : V.mk g (.any) = V.t g (.any) := _root_.id rfl
@[go_sem] theorem kill_nil {y : Nat} : St.kill y [] = [] := _root_.id rfl
@[go_sem] theorem kill_cons {y k : Nat} {v : V} {s : St} : St.kill y ((k, v) :: s) = (k, bif hangs y k || v.on y then .any else v) :: St.kill y s := _root_.id rfl
@[go_sem] theorem rt_nil {y d : Nat} : St.rt y d [] = [] := _root_.id rfl
@[go_sem] theorem rt_cons {y d k : Nat} {v : V} {s : St} : St.rt y d ((k, v) :: s) = (k, bif hangs y k then .any else v.rt y d) :: St.rt y d s := _root_.id rfl
@[go_sem] theorem killSp_nil {y : Nat} : St.killSp y [] = [] := _root_.id rfl
@[go_sem] theorem killSp_cons {y k : Nat} {v : V} {s : St} : St.killSp y ((k, v) :: s) = (k, bif v.onSp y then .any else v) :: St.killSp y s := _root_.id rfl
@[go_sem] theorem moved_nil {x d : Nat} : St.moved x d [] = [] := _root_.id rfl
@[go_sem] theorem moved_cons {x d k : Nat} {v : V} {s : St} : St.moved x d ((k, v) :: s) = bif hangs x k then (k - x + d, bif v.on d || v.on x then .any else v) :: St.moved x d s else St.moved x d s := _root_.id rfl
@[go_sem] theorem shift_nil {d : Nat} : St.shift d [] = [] := _root_.id rfl
@[go_sem] theorem shift_cons {d k : Nat} {v : V} {s : St} : St.shift d ((k, v) :: s) = (k + d, v) :: St.shift d s := _root_.id rfl
@[go_sem] theorem mvN_eq {x d : Nat} {s : St} : s.mvN x d = s.moved x d ++ (s.kill d).rt x d := _root_.id rfl
@[go_sem] theorem take1_eq {s : St} {y d : Nat} {nl : Option Bool} {cs : List T} : s.take1 y d nl cs = (y, .t (.rw d) (.s nl cs)) :: s.kill y := _root_.id rfl
@[go_sem] theorem hangs_eq {y z : Nat} : hangs y z = (z == y || (decide (y < 1000) && z % 1000 == y)) := _root_.id rfl
@[go_sem] theorem gon_arg {y : Nat} : G.on y .arg = false := _root_.id rfl
@[go_sem] theorem gon_fr {y : Nat} : G.on y .fr = false := _root_.id rfl
@[go_sem] theorem gon_rw {y z : Nat} : G.on y (.rw z) = hangs y z := _root_.id rfl
@[go_sem] theorem gon_sp {y z : Nat} : G.on y (.sp z) = hangs y z := _root_.id rfl
@[go_sem] theorem con_p {y z : Nat} : Cap.on y (.p z) = hangs y (z % 1000) := _root_.id rfl
@[go_sem] theorem con_t {y : Nat} {g : G} {r : T} : Cap.on y (.t g r) = g.on y := _root_.id rfl
@[go_sem] theorem von_t {y : Nat} {g : G} {r : T} : V.on y (.t g r) = g.on y := _root_.id rfl
@[go_sem] theorem von_al {y : Nat} {z : Nat} : V.on y (.al z) = hangs y z := _root_.id rfl
@[go_sem] theorem von_pc {y : Nat} {z : Nat} : V.on y (.pc z) = hangs y (z % 1000) := _root_.id rfl
@[go_sem] theorem von_er {y : Nat} {z j : Nat} : V.on y (.er z j) = hangs y z := _root_.id rfl
@[go_sem] theorem von_pe {y : Nat} {z j : Nat} : V.on y (.pe z j) = hangs y z := _root_.id rfl
@[go_sem] theorem von_clo {y : Nat} {f : Nat} {cp : List Cap} : V.on y (.clo f cp) = cp.any (Cap.on y) := _root_.id rfl
@[go_sem] theorem von_own {y : Nat} {m : Nat} {nl : Option Bool} {cs : List T} : V.on y (.own m nl cs) = false := _root_.id rfl
@[go_sem] theorem von_bx {y : Nat} {k : Nat} : V.on y (.bx k) = false := _root_.id rfl
@[go_sem] theorem von_tp {y : Nat} {k : Nat} : V.on y (.tp k) = false := _root_.id rfl
@[go_sem] theorem von_ag {y : Nat} {k : Nat} : V.on y (.ag k) = false := _root_.id rfl
@[go_sem] theorem vrt_rw {y d z : Nat} {r : T} : V.rt y d (.t (.rw z) r) = bif z == y then V.t (.rw d) r else bif hangs y z then .any else V.t (.rw z) r := _root_.id rfl
@[go_sem] theorem vrt_arg {y d : Nat} {r : T} : V.rt y d (.t .arg r) = bif V.on y (.t .arg r) then V.any else (.t .arg r) := _root_.id rfl
@[go_sem] theorem vrt_fr {y d : Nat} {r : T} : V.rt y d (.t .fr r) = bif V.on y (.t .fr r) then V.any else (.t .fr r) := _root_.id rfl
@[go_sem] theorem vrt_sp {y d : Nat} {z : Nat} {r : T} : V.rt y d (.t (.sp z) r) = bif V.on y (.t (.sp z) r) then V.any else (.t (.sp z) r) := _root_.id rfl
@[go_sem] theorem vrt_al {y d : Nat} {z : Nat} : V.rt y d (.al z) = bif V.on y (.al z) then V.any else (.al z) := _root_.id rfl
@[go_sem] theorem vrt_pc {y d : Nat} {z : Nat} : V.rt y d (.pc z) = bif V.on y (.pc z) then V.any else (.pc z) := _root_.id rfl
@[go_sem] theorem vrt_er {y d : Nat} {z j : Nat} : V.rt y d (.er z j) = bif V.on y (.er z j) then V.any else (.er z j) := _root_.id rfl
@[go_sem] theorem vrt_pe {y d : Nat} {z j : Nat} : V.rt y d (.pe z j) = bif V.on y (.pe z j) then V.any else (.pe z j) := _root_.id rfl
@[go_sem] theorem vrt_clo {y d : Nat} {f : Nat} {cp : List Cap} : V.rt y d (.clo f cp) = bif V.on y (.clo f cp) then V.any else (.clo f cp) := _root_.id rfl
@[go_sem] theorem vrt_own {y d : Nat} {m : Nat} {nl : Option Bool} {cs : List T} : V.rt y d (.own m nl cs) = bif V.on y (.own m nl cs) then V.any else (.own m nl cs) := _root_.id rfl
@[go_sem] theorem vrt_bx {y d : Nat} {k : Nat} : V.rt y d (.bx k) = bif V.on y (.bx k) then V.any else (.bx k) := _root_.id rfl
@[go_sem] theorem vrt_tp {y d : Nat} {k : Nat} : V.rt y d (.tp k) = bif V.on y (.tp k) then V.any else (.tp k) := _root_.id rfl
@[go_sem] theorem vrt_ag {y d : Nat} {k : Nat} : V.rt y d (.ag k) = bif V.on y (.ag k) then V.any else (.ag k) := _root_.id rfl
@[go_sem] theorem vonSp_arg {y : Nat} {r : T} : V.onSp y (.t .arg r) = false := _root_.id rfl
@[go_sem] theorem vonSp_fr {y : Nat} {r : T} : V.onSp y (.t .fr r) = false := _root_.id rfl
@[go_sem] theorem vonSp_rw {y : Nat} {z : Nat} {r : T} : V.onSp y (.t (.rw z) r) = false := _root_.id rfl
@[go_sem] theorem vonSp_sp {y : Nat} {z : Nat} {r : T} : V.onSp y (.t (.sp z) r) = (z == y) := _root_.id rfl
@[go_sem] theorem vonSp_al {y : Nat} {z : Nat} : V.onSp y (.al z) = false := _root_.id rfl
@[go_sem] theorem vonSp_pc {y : Nat} {z : Nat} : V.onSp y (.pc z) = false := _root_.id rfl
@[go_sem] theorem vonSp_er {y : Nat} {z j : Nat} : V.onSp y (.er z j) = (z == y) := _root_.id rfl
@[go_sem] theorem vonSp_pe {y : Nat} {z j : Nat} : V.onSp y (.pe z j) = false := _root_.id rfl
@[go_sem] theorem vonSp_own {y : Nat} {m : Nat} {nl : Option Bool} {cs : List T} : V.onSp y (.own m nl cs) = false := _root_.id rfl
@[go_sem] theorem vonSp_bx {y : Nat} {k : Nat} : V.onSp y (.bx k) = false := _root_.id rfl
@[go_sem] theorem vonSp_tp {y : Nat} {k : Nat} : V.onSp y (.tp k) = false := _root_.id rfl
@[go_sem] theorem vonSp_ag {y : Nat} {k : Nat} : V.onSp y (.ag k) = false := _root_.id rfl
@[go_sem] theorem vonSp_clo0 {y f : Nat} : V.onSp y (.clo f []) = false := _root_.id rfl
@[go_sem] theorem vonRs_sl {y : Nat} {z l h : Nat} : V.onRs y (.sl z l h) = false := _root_.id rfl
@[go_sem] theorem killRs_nil {y : Nat} : St.killRs y [] = [] := _root_.id rfl
@[go_sem] theorem killRs_cons {y k : Nat} {v : V} {s : St} : St.killRs y ((k, v) :: s) = (k, bif v.onRs y then .any else v) :: St.killRs y s := _root_.id rfl
@[go_sem] theorem vonRs_arg {y : Nat} {r : T} : V.onRs y (.t .arg r) = false := _root_.id rfl
@[go_sem] theorem vonRs_fr {y : Nat} {r : T} : V.onRs y (.t .fr r) = false := _root_.id rfl
@[go_sem] theorem vonRs_rw {y : Nat} {z : Nat} {r : T} : V.onRs y (.t (.rw z) r) = (z == y) := _root_.id rfl
@[go_sem] theorem vonRs_sp {y : Nat} {z : Nat} {r : T} : V.onRs y (.t (.sp z) r) = (z == y) := _root_.id rfl
@[go_sem] theorem vonRs_al {y : Nat} {z : Nat} : V.onRs y (.al z) = false := _root_.id rfl
@[go_sem] theorem vonRs_pc {y : Nat} {z : Nat} : V.onRs y (.pc z) = false := _root_.id rfl
@[go_sem] theorem vonRs_er {y : Nat} {z j : Nat} : V.onRs y (.er z j) = (z == y) := _root_.id rfl
@[go_sem] theorem vonRs_pe {y : Nat} {z j : Nat} : V.onRs y (.pe z j) = false := _root_.id rfl
@[go_sem] theorem vonRs_own {y : Nat} {m : Nat} {nl : Option Bool} {cs : List T} : V.onRs y (.own m nl cs) = false := _root_.id rfl
@[go_sem] theorem vonRs_bx {y : Nat} {k : Nat} : V.onRs y (.bx k) = false := _root_.id rfl
@[go_sem] theorem vonRs_tp {y : Nat} {k : Nat} : V.onRs y (.tp k) = false := _root_.id rfl
@[go_sem] theorem vonRs_ag {y : Nat} {k : Nat} : V.onRs y (.ag k) = false := _root_.id rfl
@[go_sem] theorem vonRs_clo0 {y f : Nat} : V.onRs y (.clo f []) = false := _root_.id rfl
@[go_sem] theorem tagM_0 {y : Nat} : tagM 0 y = G.fr := _root_.id rfl
@[go_sem] theorem tagM_1 {y : Nat} : tagM 1 y = G.rw y := _root_.id rfl
@[go_sem] theorem tagM_2 {y : Nat} : tagM 2 y = G.arg := _root_.id rfl
@[go_sem] theorem tagM_10 {y : Nat} : tagM 10 y = G.fr := _root_.id rfl
@[go_sem] theorem tagM_11 {y : Nat} : tagM 11 y = G.rw y := _root_.id rfl
def frV' (R : St) : V → V
 | .t _ r => .mk .fr r
 | .own _ nl cs => .t .fr (.s nl cs)
 | .tp k => .t .fr (.u (R.cells 0 100 0 k))
 | .ag k => .t .fr (.a (R.cells 0 200 0 k))
 | _ => .any
@[go_sem] theorem frV_eq {R : St} : frV R = frV' R (R.get 0) := _root_.id rfl
@[go_sem] theorem frV'_t {R : St} {g : G} {r : T} : frV' R (.t g r) = V.mk .fr r := _root_.id rfl
@[go_sem] theorem frV'_own {R : St} {m : Nat} {nl : Option Bool} {cs : List T} : frV' R (.own m nl cs) = V.t .fr (.s nl cs) := _root_.id rfl
@[go_sem] theorem frV'_tp {R : St} {k : Nat} : frV' R (.tp k) = V.t .fr (.u (R.cells 0 100 0 k)) := _root_.id rfl
@[go_sem] theorem frV'_ag {R : St} {k : Nat} : frV' R (.ag k) = V.t .fr (.a (R.cells 0 200 0 k)) := _root_.id rfl
@[go_sem] theorem parts_nil : parts [] = some (G.fr, []) := _root_.id rfl
@[go_sem] theorem parts_cons {g : G} {r : T} {ws : List W} : parts (.t g r :: ws) = partsC g r (parts ws) := _root_.id rfl
@[go_sem] theorem partsC_s {g g' : G} {r : T} {ts : List T} : partsC g r (some (g', ts)) = (bif r.one then (g.join g').map (fun h => (h, r :: ts)) else none) := _root_.id rfl
@[go_sem] theorem one_i {n : Int} : T.one (.i n) = true := _root_.id rfl
@[go_sem] theorem one_b {x : Bool} : T.one (.b x) = true := _root_.id rfl
@[go_sem] theorem one_s {nl : Option Bool} {cs : List T} : T.one (.s nl cs) = true := _root_.id rfl
@[go_sem] theorem one_q {cs : List T} {k : Nat} : T.one (.q cs k) = true := _root_.id rfl
@[go_sem] theorem one_c {f : Nat} {cs : List T} : T.one (.c f cs) = true := _root_.id rfl
@[go_sem] theorem join_fr_fr : G.join .fr .fr = some G.fr := _root_.id rfl
@[go_sem] theorem join_fr_arg : G.join .fr .arg = some G.arg := _root_.id rfl
@[go_sem] theorem join_arg_fr : G.join .arg .fr = some G.arg := _root_.id rfl
@[go_sem] theorem join_arg_arg : G.join .arg .arg = some G.arg := _root_.id rfl
@[go_sem] theorem caps_nil : caps [] = some [] := _root_.id rfl
@[go_sem] theorem caps_t {g : G} {r : T} {ws : List W} : caps (.t g r :: ws) = (caps ws).map (Cap.t g r :: ·) := _root_.id rfl
@[go_sem] theorem caps_pc {z : Nat} {x : V} {ts : List T} {ws : List W} : caps (.pc z x ts :: ws) = bif z / 1000 == 1 then (caps ws).map (Cap.p z :: ·) else none := _root_.id rfl
@[go_sem] theorem omap_s {α β : Type} {f : α → β} {a : α} : Option.map f (some a) = some (f a) := _root_.id rfl
@[go_sem] theorem nilc_pc {z : Nat} {x : V} {ts : List T} : nilcOk (.pc z x ts) = true := _root_.id rfl
@[go_sem] theorem nilc_pe {y j m : Nat} {nl : Option Bool} {cs : List T} : nilcOk (.pe y j m nl cs) = true := _root_.id rfl
@[go_sem] theorem nilc_clo {f : Nat} {cp : List Cap} {ts : List T} : nilcOk (.clo f cp ts) = true := _root_.id rfl
@[go_sem] theorem nilc_q {g : G} {cs : List T} {k : Nat} : nilcOk (.t g (.q cs k)) = true := _root_.id rfl
@[go_sem] theorem nilc_c {g : G} {f : Nat} {cs : List T} : nilcOk (.t g (.c f cs)) = true := _root_.id rfl
@[go_sem] theorem minI_1 {g : G} {a : Int} : minI [.t g (.i a)] = some a := _root_.id rfl
@[go_sem] theorem minI_2 {g h : G} {a b : Int} {ws : List W} : minI (.t g (.i a) :: .t h (.i b) :: ws) = (minI (.t h (.i b) :: ws)).map (min a) := _root_.id rfl
@[go_sem] theorem maxI_1 {g : G} {a : Int} : maxI [.t g (.i a)] = some a := _root_.id rfl
@[go_sem] theorem maxI_2 {g h : G} {a b : Int} {ws : List W} : maxI (.t g (.i a) :: .t h (.i b) :: ws) = (maxI (.t h (.i b) :: ws)).map (max a) := _root_.id rfl
@[go_sem] theorem base_own {y m : Nat} {nl : Option Bool} {cs : List T} : appBase (.own y m nl cs) = some (some y, m % 10, nl, cs) := _root_.id rfl
@[go_sem] theorem base_nil {g : G} : appBase (.t g (.s (some true) [])) = some (none, 1, some true, []) := _root_.id rfl
@[go_sem] theorem offO_s {d y : Nat} : offO d (some y) = !hangs d y := _root_.id rfl
@[go_sem] theorem offO_n {d : Nat} : offO d none = true := _root_.id rfl
@[go_sem] theorem rtO_s {y d : Nat} {s : St} : rtO (some y) d s = s.rt y d := _root_.id rfl
@[go_sem] theorem rtO_n {d : Nat} {s : St} : rtO none d s = s := _root_.id rfl
@[go_sem] theorem nlApp_c {nl : Option Bool} {t : T} {ts : List T} : nlApp nl (t :: ts) = some false := _root_.id rfl
@[go_sem] theorem boxN_n {d j : Nat} : boxN d j [] = [] := _root_.id rfl
@[go_sem] theorem boxN_c {d j : Nat} {t : T} {ts : List T} : boxN d j (t :: ts) = (d + 1000 * (1 + j), V.mk .fr t) :: boxN d (j + 1) ts := _root_.id rfl
@[go_sem] theorem boxG_n {g : G} {d j : Nat} : boxG g d j [] = [] := _root_.id rfl
@[go_sem] theorem boxG_c {g : G} {d j : Nat} {t : T} {ts : List T} : boxG g d j (t :: ts) = (d + 1000 * (1 + j), V.mk g t) :: boxG g d (j + 1) ts := _root_.id rfl
def skipD (d : Option Nat) (s : St) : St := match d with | some d => (d, .un) :: s | none => s
@[go_sem] theorem skipI_eq {i : I} {s : St} : skipI i s = skipD i.dst s := _root_.id rfl
@[go_sem] theorem skipD_s {d : Nat} {s : St} : skipD (some d) s = (d, V.t .fr (.u [])) :: s := _root_.id rfl
@[go_sem] theorem dst_v {d : Nat} {o : O} {xs : List X} : I.dst (.v d o xs) = some d := _root_.id rfl
@[go_sem] theorem dst_tk {d x : Nat} : I.dst (.tk d x) = some d := _root_.id rfl
@[go_sem] theorem dst_app {d k : Nat} {x e : X} : I.dst (.app d x e k) = some d := _root_.id rfl
@[go_sem] theorem dst_box {d : Nat} {x : X} : I.dst (.box d x) = some d := _root_.id rfl
@[go_sem] theorem dst_new {d : Nat} {zs : List T} : I.dst (.new d zs) = some d := _root_.id rfl
@[go_sem] theorem dst_lit {d k : Nat} {ps : List X} : I.dst (.lit d ps k) = some d := _root_.id rfl
@[go_sem] theorem dst_mk {d : Nat} {z : T} {l c : X} : I.dst (.mk d z l c) = some d := _root_.id rfl
@[go_sem] theorem dst_coc {d f : Nat} {xs : List X} {is : List Nat} : I.dst (.coc d f xs is) = some d := _root_.id rfl
@[go_sem] theorem dst_cox {d : Option Nat} {f i : Nat} {xs : List X} : I.dst (.cox d f xs i) = d := _root_.id rfl
@[go_sem] theorem dst_co {d f : Nat} {xs : List X} : I.dst (.co d f xs) = some d := _root_.id rfl
@[go_sem] theorem dst_coC {d : Nat} {xs : List X} : I.dst (.coC d xs) = some d := _root_.id rfl
@[go_sem] theorem dst_mkn {d : Nat} : I.dst (.mkn d) = some d := _root_.id rfl
@[go_sem] theorem map_nil' {α β : Type} {f : α → β} : List.map f [] = [] := _root_.id rfl
@[go_sem] theorem map_cons' {α β : Type} {f : α → β} {a : α} {l : List α} : List.map f (a :: l) = f a :: List.map f l := _root_.id rfl
@[go_sem] theorem cond_t {α : Type} {a b : α} : (bif true then a else b) = a := _root_.id rfl
@[go_sem] theorem cond_f {α : Type} {a b : α} : (bif false then a else b) = b := _root_.id rfl
section
variable {P : Program}
@[congr] theorem wpC_congr {c : C} {Q : Ex → St → Prop} {s s' : St} (h : s = s') : wpC P c Q s = wpC P c Q s' := by rw [h]
@[congr] theorem noNm_congr {n : Nat} {r : List (Gd × I)} {s s' : St} (h : s = s') : noNm n r s = noNm n r s' := by rw [h]
@[congr] theorem wpL_congr {r : List (Gd × I)} {K : St → Prop} {s s' : St} (h : s = s') : wpL P r K s = wpL P r K s' := by rw [h]
@[congr] theorem wpI_congr {i : I} {K : St → Prop} {s s' : St} (h : s = s') : wpI P i K s = wpI P i K s' := by rw [h]
@[congr] theorem stepK_congr {o : O} {ws ws' : List W} {κ : V → Prop} (h : ws = ws') : stepK P o ws κ = stepK P o ws' κ := by rw [h]
@[congr] theorem CallK_congr {f : FuncId} {ts ts' : List T} {κ : St → Prop} (h : ts = ts') : CallK P f ts κ = CallK P f ts' κ := by rw [h]
@[congr] theorem LoopK_congr {b : (Ex → St → Prop) → St → Prop} {Q : Ex → St → Prop} {s s' : St} (h : s = s') : LoopK b Q s = LoopK b Q s' := by rw [h]
@[congr] theorem optK_congr {α : Type} {x x' : Option α} {κ : α → Prop} (h : x = x') : optK x κ = optK x' κ := by rw [h]
@[congr] theorem subK_congr {w w' : W} {l l' h h' : Int} {κ : V → Prop} (e : w = w') (e1 : l = l') (e2 : h = h') : subK w l h κ = subK w' l' h' κ := by rw [e, e1, e2]
@[congr] theorem binK_congr {o : Bo} {a b : Int} {κ : V → Prop} : binK o a b κ = binK o a b κ := rfl
@[congr] theorem stK_congr {s : St} {K : St → Prop} {w w' v v' : W} (h : w = w') (h' : v = v') : stK s K w v = stK s K w' v' := by rw [h, h']
@[congr] theorem tkK_congr {d x : Nat} {s : St} {K : St → Prop} {v v' : V} (h : v = v') : tkK d x s K v = tkK d x s K v' := by rw [h]
@[congr] theorem appK_congr {d : Nat} {s : St} {K : St → Prop} {y : Option Nat} {m : Nat} {nl : Option Bool} {cs : List T} {k : Nat} {v v' : W} (h : v = v') : appK d s K y m nl cs k v = appK d s K y m nl cs k v' := by rw [h]
@[congr] theorem boxK_congr {d : Nat} {s : St} {K : St → Prop} {v v' : W} (h : v = v') : boxK d s K v = boxK d s K v' := by rw [h]
@[congr] theorem litK_congr {d : Nat} {s : St} {K : St → Prop} {k : Nat} {v v' : List W} (h : v = v') : litK d s K k v = litK d s K k v' := by rw [h]
@[congr] theorem mkK_congr {d : Nat} {z : T} {s : St} {K : St → Prop} {v v' u u' : W} (h : v = v') (h' : u = u') : mkK d z s K v u = mkK d z s K v' u' := by rw [h, h']
@[congr] theorem CallXK_congr {f i : Nat} {ts ts' : List T} {κ : T → Option Bool → List T → Prop} (h : ts = ts') : CallXK P f i ts κ = CallXK P f i ts' κ := by rw [h]
@[congr] theorem coxK_congr {d : Option Nat} {f i : Nat} {s : St} {K : St → Prop} {ws ws' : List W} {x x' : Option W} (h : ws = ws') (h' : x = x') : coxK P d f i s K ws x = coxK P d f i s K ws' x' := by rw [h, h']
@[congr] theorem cocK_congr {P : Program} {d f : Nat} {is : List Nat} {s : St} {K : St → Prop} {ws ws' : List W} (h : ws = ws') : cocK P d f is s K ws = cocK P d f is s K ws' := by rw [h]
@[congr] theorem cocW_congr {zs : List Nat} {κ : Nat → Prop} {x x' : Option W} (h : x = x') : cocW zs κ x = cocW zs κ x' := by rw [h]
@[congr] theorem cocZ_congr {ws ws' : List W} {is zs : List Nat} {κ : List Nat → Prop} (h : ws = ws') : cocZ ws is zs κ = cocZ ws' is zs κ := by rw [h]
@[congr] theorem CallCK_congr {P : Program} {f : Nat} {is : List Nat} {ts ts' : List T} {κ : St → Prop} (h : ts = ts') : CallCK P f is ts κ = CallCK P f is ts' κ := by rw [h]
@[congr] theorem cutK_congr {d : Nat} {s : St} {K : St → Prop} {v v' u u' : W} (h : v = v') (h' : u = u') : cutK d s K v u = cutK d s K v' u' := by rw [h, h']
@[congr] theorem apzK_congr {d : Nat} {z : T} {s : St} {K : St → Prop} {v v' u u' : W} (h : v = v') (h' : u = u') : apzK d z s K v u = apzK d z s K v' u' := by rw [h, h']
@[congr] theorem cpyK_congr {d : Nat} {s : St} {K : St → Prop} {p p' : Option (Nat × Nat × Nat × Nat × Option Bool × List T)} {q q' : Option (List T)} (h : p = p') (h' : q = q') : cpyK d s K p q = cpyK d s K p' q' := by rw [h, h']
@[congr] theorem clrK_congr {s : St} {K : St → Prop} {z : T} {p p' : Option (Nat × Nat × Nat × Nat × Option Bool × List T)} (h : p = p') : clrK s K z p = clrK s K z p' := by rw [h]
@[congr] theorem coCK_congr {d : Nat} {s : St} {K : St → Prop} {v v' : List W} (h : v = v') : coCK P d s K v = coCK P d s K v' := by rw [h]
@[congr] theorem frzK_congr {y : Nat} {s : St} {K : St → Prop} {v v' : V} (h : v = v') : frzK y s K v = frzK y s K v' := by rw [h]
@[congr] theorem tkrK_congr {k : Nat} {s : St} {K : St → Prop} {v v' : W} (h : v = v') : tkrK k s K v = tkrK k s K v' := by rw [h]
@[congr] theorem tkrR_congr {k y j m : Nat} {nl : Option Bool} {cs : List T} {s : St} {K : St → Prop} {v v' : T} (h : v = v') : tkrR k y j m nl cs s K v = tkrR k y j m nl cs s K v' := by rw [h]
@[congr] theorem onlK_congr {y : Nat} {s : St} {K : St → Prop} {v v' : V} (h : v = v') : onlK y s K v = onlK y s K v' := by rw [h]
@[congr] theorem guardK_congr {t : Nat} {s : St} {w : Bool} {k1 k2 : St → Prop} {v v' : V} (h : v = v') : guardK t s w k1 k2 v = guardK t s w k1 k2 v' := by rw [h]
@[congr] theorem condK_congr {k1 k2 : Prop} {v v' : W} (h : v = v') : condK k1 k2 v = condK k1 k2 v' := by rw [h]
@[congr] theorem roundK_congr {ι : Type} {f : ι → St} {μ : ι → Nat} {i : ι} {Q : Ex → St → Prop} {e : Ex} {s s' : St} (h : s = s') : roundK f μ i Q e s = roundK f μ i Q e s' := by rw [h]
@[congr] theorem seqQ_congr {K : St → Prop} {Q : Ex → St → Prop} {e : Ex} {s s' : St} (h : s = s') : seqQ K Q e s = seqQ K Q e s' := by rw [h]
@[congr] theorem blockK_congr {id : Nat} {Q : Ex → St → Prop} {e : Ex} {s s' : St} (h : s = s') : blockK id Q e s = blockK id Q e s' := by rw [h]
end
end Go.Vc
namespace Go.Vc
open Go
section
variable {ok ok' : Nat → Prop} {w w' : World}
mutual
theorem Fz.imp (h : ∀ b, b < w.heap.size → ok b → ok' b ∧ w'.heap[b]? = w.heap[b]?) : ∀ (t : T) (v : Value), Fz ok w t v → Fz ok' w' t v
 | .any, _, _ => by simp [Fz]
 | .i n, v, hv => by simpa [Fz] using hv
 | .b x, v, hv => by simpa [Fz] using hv
 | .s nl cs, v, hv => by
  simp only [Fz] at hv ⊢
  rcases hv with h0 | ⟨h1, b, o, sp, cap, xs, e, l1, l2, hb, hx, hc⟩
  ·exact .inl h0
  ·refine .inr ⟨h1, b, o, sp, cap, xs, e, l1, l2, ?_, FzL.imp h cs xs hx, ?_⟩
   ·intro hne
    cases cs with
    | nil => exact absurd rfl hne
    | cons t ts =>
     simp only [FzL] at hx
     obtain ⟨x, ys, rfl, _⟩ := hx
     exact ⟨(h b (World.block_lt_of_cell? w _ (hc 0 x (by simp))) (hb hne).1).1, (hb hne).2⟩
   ·intro k x hk
    have hck := hc k x hk
    cases cs with
    | nil => simp only [FzL] at hx; subst hx; simp at hk
    | cons t ts =>
     rw [World.cell?_of_block ((h b (World.block_lt_of_cell? w _ hck) (hb (by simp)).1).2)]
     exact hck
 | .q cs k, v, hv => by
  simp only [Fz] at hv ⊢
  obtain ⟨b, o, xs, e, hb, hx, hc⟩ := hv
  refine ⟨b, o, xs, e, ?_, FzL.imp h cs xs hx, ?_⟩
  ·intro hne
   cases cs with
   | nil => exact absurd rfl hne
   | cons t ts =>
    simp only [FzL] at hx
    obtain ⟨x, ys, rfl, _⟩ := hx
    exact (h b (World.block_lt_of_cell? w _ (hc 0 x (by simp))) (hb hne)).1
  ·intro k x hk
   have hck := hc k x hk
   cases cs with
   | nil => simp only [FzL] at hx; subst hx; simp at hk
   | cons t ts =>
    rw [World.cell?_of_block ((h b (World.block_lt_of_cell? w _ hck) (hb (by simp))).2)]
    exact hck
 | .c f caps, v, hv => by
  simp only [Fz] at hv ⊢
  obtain ⟨xs, e, hx⟩ := hv
  exact ⟨xs, e, FzL.imp h caps xs hx⟩
 | .a fs, v, hv => by
  simp only [Fz] at hv ⊢
  obtain ⟨xs, e, hx⟩ := hv
  exact ⟨xs, e, FzL.imp h fs xs hx⟩
 | .u vs, v, hv => by
  simp only [Fz] at hv ⊢
  obtain ⟨xs, e, hx⟩ := hv
  exact ⟨xs, e, FzL.imp h vs xs hx⟩
 | .w _ _, v, hv => by simpa [Fz] using hv
 | .xv u t, v, hv => by
  simp only [Fz] at hv ⊢
  exact ⟨hv.1, Fz.imp h t v hv.2⟩
theorem FzL.imp (h : ∀ b, b < w.heap.size → ok b → ok' b ∧ w'.heap[b]? = w.heap[b]?) : ∀ (ts : List T) (xs : List Value), FzL ok w ts xs → FzL ok' w' ts xs
 | [], xs, hx => by simpa [FzL] using hx
 | t :: ts, xs, hx => by
  simp only [FzL] at hx ⊢
  obtain ⟨x, ys, e, h1, h2⟩ := hx
  exact ⟨x, ys, e, Fz.imp h t x h1, FzL.imp h ts ys h2⟩
end
theorem Fz.mono {t : T} {v : Value} (h : ∀ b, ok b → ok' b) (hf : Fz ok w t v) : Fz ok' w t v := Fz.imp (fun b _ hb => ⟨h b hb, rfl⟩) t v hf
theorem FzL.mono {ts : List T} {xs : List Value} (h : ∀ b, ok b → ok' b) (hf : FzL ok w ts xs) : FzL ok' w ts xs := FzL.imp (fun b _ hb => ⟨h b hb, rfl⟩) ts xs hf
theorem Fz.scal {t : T} {v : Value} (ht : t.scal) (h : Fz ok w t v) : Fz ok' w' t v := by
 cases t <;> simp [T.scal] at ht <;> simpa [Fz] using h
theorem foT.move {k : Option T} {u u0 : Value} (h : foT k w u u0) : foT k w' u u0 := by
 cases k with
 | none => exact h
 | some t =>
  rcases h with ⟨a, u1, b, c⟩ | h
  ·exact .inl ⟨a, u1, b, c.scal a⟩
  ·exact .inr h
theorem FzL.scal : ∀ {ts : List T} {xs : List Value}, scalL ts → FzL ok w ts xs → FzL ok' w' ts xs
 | [], _, _, h => by simpa [FzL] using h
 | t :: ts, xs, hs, h => by
  simp only [FzL] at h ⊢
  obtain ⟨x, ys, e, h1, h2⟩ := h
  exact ⟨x, ys, e, h1.scal (hs t (by simp)), FzL.scal (fun r hr => hs r (by simp [hr])) h2⟩
theorem FzL.length : ∀ {ts : List T} {xs : List Value}, FzL ok w ts xs → xs.length = ts.length
 | [], xs, h => by simp only [FzL] at h; simp [h]
 | t :: ts, xs, h => by
  simp only [FzL] at h
  obtain ⟨x, ys, rfl, _, h2⟩ := h
  simp [h2.length]
theorem FzL.get : ∀ {ts : List T} {xs : List Value}, FzL ok w ts xs → ∀ k, k < ts.length → ∃ x, xs[k]? = some x ∧ Fz ok w (ts.getD k .any) x
 | [], _, _, k, hk => by simp at hk
 | t :: ts, xs, h, k, hk => by
  simp only [FzL] at h
  obtain ⟨x, ys, rfl, h1, h2⟩ := h
  cases k with
  | zero => exact ⟨x, by simp, by simpa using h1⟩
  | succ k => simpa using h2.get k (by simpa using hk)
theorem FzL.of_get : ∀ {ts : List T} {xs : List Value}, xs.length = ts.length → (∀ k x, xs[k]? = some x → Fz ok w (ts.getD k .any) x) → FzL ok w ts xs
 | [], xs, hl, _ => by simp only [FzL]; exact List.eq_nil_of_length_eq_zero hl
 | t :: ts, [], hl, _ => by simp at hl
 | t :: ts, x :: xs, hl, h => by
  simp only [FzL]
  exact ⟨x, xs, rfl, by simpa using h 0 x (by simp), FzL.of_get (by simpa using hl) fun k y hk => by simpa using h (k + 1) y (by simpa using hk)⟩
theorem FzL.app {ts us : List T} : ∀ {xs ys : List Value}, FzL ok w ts xs → FzL ok w us ys → FzL ok w (ts ++ us) (xs ++ ys) := by
 induction ts with
 | nil => intro xs ys h h'; simp only [FzL] at h; subst h; simpa using h'
 | cons t ts ih =>
  intro xs ys h h'
  simp only [FzL, List.cons_append] at h ⊢
  obtain ⟨x, zs, rfl, h1, h2⟩ := h
  exact ⟨x, zs ++ ys, rfl, h1, ih h2 h'⟩
theorem FzL.take {ts : List T} {xs : List Value} (n : Nat) (h : FzL ok w ts xs) : FzL ok w (ts.take n) (xs.take n) := by
 refine FzL.of_get (by simp [h.length]) fun k x hk => ?_
 rw [List.getElem?_take] at hk
 split at hk
 ·rename_i hlt
  have hk2 : k < ts.length := by rw [← h.length]; exact (List.getElem?_eq_some_iff.1 hk).1
  obtain ⟨x', e, hx⟩ := h.get k hk2
  rw [hk] at e; cases e
  simpa [List.getD, List.getElem?_take, hlt] using hx
 ·cases hk
theorem FzL.drop {ts : List T} {xs : List Value} (n : Nat) (h : FzL ok w ts xs) : FzL ok w (ts.drop n) (xs.drop n) := by
 refine FzL.of_get (by simp [h.length]) fun k x hk => ?_
 rw [List.getElem?_drop] at hk
 have hk2 : n + k < ts.length := by rw [← h.length]; exact (List.getElem?_eq_some_iff.1 hk).1
 obtain ⟨x', e, hx⟩ := h.get (n + k) hk2
 rw [hk] at e; cases e
 simpa [List.getD, List.getElem?_drop] using hx
theorem FzL.set {ts : List T} {xs : List Value} (j : Nat) {t : T} {x : Value} (h : FzL ok w ts xs) (hx : Fz ok w t x) : FzL ok w (ts.set j t) (xs.set j x) := by
 refine FzL.of_get (by simp [h.length]) fun k y hk => ?_
 rw [List.getElem?_set] at hk
 by_cases hjk : j = k
 ·subst hjk
  simp only [if_true] at hk
  split at hk
  ·rename_i hlt
   cases hk
   have hlt' : j < ts.length := by rw [← h.length]; exact hlt
   simpa [List.getD, List.getElem?_set, hlt'] using hx
  ·cases hk
 ·simp only [hjk, if_false] at hk
  have hk2 : k < ts.length := by rw [← h.length]; exact (List.getElem?_eq_some_iff.1 hk).1
  obtain ⟨y', e, hy⟩ := h.get k hk2
  rw [hk] at e; cases e
  simpa [List.getD, List.getElem?_set, hjk] using hy
theorem FzL.replicate {t : T} {x : Value} (hx : Fz ok w t x) : ∀ n, FzL ok w (List.replicate n t) (List.replicate n x)
 | 0 => by simp [FzL]
 | n + 1 => by simp only [List.replicate_succ, FzL]; exact ⟨x, _, rfl, hx, FzL.replicate hx n⟩
theorem Fz.one0 : ∀ {t : T} {v : Value}, Fz ok w t v → t.one = true → v.oneCell' = true
 | .any, v, _, h1 => by simp [T.one] at h1
 | .a _, v, _, h1 => by simp [T.one] at h1
 | .u _, v, _, h1 => by simp [T.one] at h1
 | .i _, v, h, _ => by simp only [Fz] at h; obtain ⟨rfl, _⟩ := h; rfl
 | .b _, v, h, _ => by simp only [Fz] at h; subst h; rfl
 | .s _ _, v, h, _ => by simp only [Fz] at h; rcases h with ⟨rfl, _⟩ | ⟨_, b, o, sp, cap, xs, rfl, _⟩ <;> rfl
 | .q _ _, v, h, _ => by simp only [Fz] at h; obtain ⟨b, o, xs, rfl, _⟩ := h; rfl
 | .c _ _, v, h, _ => by simp only [Fz] at h; obtain ⟨xs, rfl, _⟩ := h; rfl
 | .w _ _, v, h, _ => by simp only [Fz] at h; subst h; rfl
 | .xv u t, v, h, h1 => by simp only [Fz] at h; exact Fz.one0 h.2 (by simpa [T.one] using h1)
theorem Fz.one {t : T} {v : Value} (h : Fz ok w t v) (ht : match t with | .any => False | .a _ => False | .u _ => False | .xv _ t => t.one = true | _ => True) : v.oneCell' = true :=
 Fz.one0 h (by cases t <;> first | exact ht.elim | rfl | exact ht)
end
theorem Grow.refl (X : Nat → Prop) (w : World) : Grow X w w := ⟨rfl, rfl, rfl, Nat.le_refl _, fun _ _ _ => rfl⟩
theorem Grow.trans {X : Nat → Prop} {w w1 w2 : World} (h : Grow X w w1) (h' : Grow X w1 w2) : Grow X w w2 :=
 ⟨h'.os.trans h.os, h'.tape.trans h.tape, h'.output.trans h.output, Nat.le_trans h.size h'.size,
  fun k hk hx => (h'.block k (Nat.lt_of_lt_of_le hk h.size) hx).trans (h.block k hk hx)⟩
theorem Grow.mono {X X' : Nat → Prop} {w w' : World} (h : Grow X w w') (hx : ∀ k, k < w.heap.size → X k → X' k) : Grow X' w w' :=
 ⟨h.os, h.tape, h.output, h.size, fun k hk hn => h.block k hk fun hxk => hn (hx k hk hxk)⟩
theorem Grow.alloc (X : Nat → Prop) (w : World) (o : Obj) : Grow X w (w.alloc o) :=
 ⟨rfl, rfl, rfl, by simp, fun k hk _ => (World.grownBy_alloc w o none).block k hk (by simp)⟩
theorem Grow.drew (X : Nat → Prop) (w : World) : Grow X w w.drew := ⟨rfl, rfl, rfl, Nat.le_refl _, fun _ _ _ => rfl⟩
theorem Grow.blk {w w' : World} (h : Grow (fun _ => False) w w') {k : Nat} (hk : k < w.heap.size) : w'.heap[k]? = w.heap[k]? := h.block k hk (fun h => h)
theorem nmv_put {tm : Array Value} {w : World} {d y : Nat} {u : Value} (h : hangs d y = false) (hd : d < 1000) : nmv (tm.setIfInBounds d u) w y = nmv tm w y := by
 simp only [hangs, Bool.or_eq_false_iff, Bool.and_eq_false_iff, beq_eq_false_iff_ne, decide_eq_false_iff_not] at h
 obtain ⟨h1, h2⟩ := h
 have hm : ∀ z, z ≠ d → (tm.setIfInBounds d u).getD z undef = tm.getD z undef := fun z hz => by
  simp [Array.getElem?_setIfInBounds_ne (Ne.symm hz)]
 unfold nmv
 by_cases hy : y < 1000
 ·simp only [hy, if_true, hm y h1]
 ·simp only [hy, if_false]
  rw [hm (y % 1000) (by rcases h2 with h2 | h2; exact absurd hd h2; exact h2)]
theorem nmv_slot {tm : Array Value} {w : World} {y : Nat} (h : y < 1000) : nmv tm w y = some (tm.getD y undef) := by simp [nmv, h]
theorem nmv_heap {tm : Array Value} {w w' : World} {y : Nat} {u : Value} (h : ∀ b, b < w.heap.size → (∃ o sp, tm.getD (y % 1000) undef = .pointer (some ⟨b, o, sp⟩)) → 1000 ≤ y → w'.heap[b]? = w.heap[b]?) (hu : nmv tm w y = some u) : nmv tm w' y = some u := by
 unfold nmv at hu ⊢
 by_cases hy : y < 1000
 ·simpa [hy] using hu
 ·simp only [hy, if_false] at hu ⊢
  cases hq : tm.getD (y % 1000) undef with
  | pointer a =>
   cases a with
   | none => simp [hq] at hu
   | some a =>
    simp only [hq] at hu ⊢
    split at hu
    ·rename_i hlt
     simp only [hlt, if_true]
     have hb := World.block_lt_of_cell? w _ hu
     rw [World.cell?_of_block (a := ⟨a.block, y / 1000 - 1, none⟩) (h a.block hb ⟨a.off, a.spot, hq⟩ (by omega))]
     exact hu
    ·cases hu
  | tuple vs => simpa [hq] using hu
  | agg vs => simpa [hq] using hu
  | _ => simp [hq] at hu
theorem nmv_grow {tm : Array Value} {w w' : World} {y : Nat} {u : Value} (h : Grow (fun _ => False) w w') (hu : nmv tm w y = some u) : nmv tm w' y = some u :=
 nmv_heap (fun b hb _ _ => h.blk hb) hu
def G.ment (M : Nat → Prop) : G → Prop
 | .rw z => M z
 | .sp z => M z
 | _ => True
def Cap.ment (M : Nat → Prop) (MG : G → Prop) : Cap → Prop
 | .p z => M (z % 1000)
 | .t g _ => MG g
def V.ment (M : Nat → Prop) (MG : G → Prop) : V → Prop
 | .t g _ => MG g
 | .al z => M z
 | .pc z => M (z % 1000)
 | .pe z _ => M z
 | .er z _ => M z ∧ MG (.sp z)
 | .sl z _ _ => M z
 | .bv z => M z ∧ MG (.sp z)
 | .clo _ cs => ∀ c ∈ cs, c.ment M MG
 | .fo z _ _ _ => MG (.rw z)
 | _ => True
def okAl (s : St) (z : Nat) : Prop := match s.get z with | .own .. => s.lv z = true | .ag _ => z < 1000 | _ => False
def okPe (s : St) (z : Nat) : Prop := match s.get z with | .own .. => s.lv z = true | _ => False
def okPc (s : St) (x : Nat) : Prop := match s.get x with | .bx _ => True | _ => False
theorem okPe.al {s : St} {z : Nat} (h : okPe s z) : okAl s z := by
 unfold okPe at h; unfold okAl; split at h <;> simp_all
section
variable {lo : Nat} {par : Nat → Option Value} {ow ow' : Ow} {tm tm' : Array Value} {w w' : World} {s s' : St}
theorem Rep.imp {M : Nat → Prop} {MG : G → Prop} {y : Nat} {V : V} {u : Value} (hm : V.ment M MG)  (hn : V.isName = false)
  (h1 : ∀ z, M z → okAl s' z → okAl s z ∧ ∀ u, nmv tm w z = some u → nmv tm' w' z = some u)
  (h1' : ∀ z, M z → okPe s' z → okPe s z)
  (h2 : ∀ x, x < 1000 → M x → okPc s' x → okPc s x ∧ ∀ u, nmv tm w x = some u → nmv tm' w' x = some u)
  (h3 : ∀ g, MG g → ∀ b, b < w.heap.size → okG lo ow g b → okG lo ow' g b ∧ w'.heap[b]? = w.heap[b]?)
  (h : Rep lo par ow tm w s y V u) : Rep lo par ow' tm' w' s' y V u := by
 cases V with
 | t g t => exact Fz.imp (h3 g hm) t u h
 | own => cases hn
 | bx => cases hn
 | tp => cases hn
 | ag => cases hn
 | al z =>
  simp only [Rep] at h ⊢
  intro ho
  obtain ⟨a, b⟩ := h1 z hm ho
  exact b u (h a)
 | pc z =>
  simp only [Rep] at h ⊢
  intro ho
  obtain ⟨a, b⟩ := h2 (z % 1000) (by omega) hm ho
  obtain ⟨b', e1, e2⟩ := h a
  exact ⟨b', b _ e1, e2⟩
 | pe z j =>
  simp only [Rep] at h ⊢
  intro ho
  have ho' : okPe s' z := ho
  obtain ⟨b, len, cap, e1, e2⟩ := h (h1' z hm ho)
  exact ⟨b, len, cap, (h1 z hm ho'.al).2 _ e1, e2⟩
 | sl z l q =>
  simp only [Rep] at h ⊢
  intro ho
  have ho' : okPe s' z := ho
  obtain ⟨a0, len, cap, e1, e2⟩ := h (h1' z hm ho)
  exact ⟨a0, len, cap, (h1 z hm ho'.al).2 _ e1, e2⟩
 | er z j =>
  simp only [Rep] at h ⊢
  intro ho
  have ho' : okPe s' z := ho
  obtain ⟨b, len, cap, e1, e2, e3⟩ := h (h1' z hm.1 ho)
  obtain ⟨k1, k2⟩ := h3 (.sp z) hm.2 b (World.block_lt_of_cell? w _ e3.choose_spec.1) e2
  exact ⟨b, len, cap, (h1 z hm.1 ho'.al).2 _ e1, k1, e3.imp fun ⟨b', o, sp⟩ v hb hv => by simp only at hb; subst hb; rw [World.cell?_of_block k2]; exact hv⟩
 | bv z =>
  obtain ⟨hz, h⟩ := h
  refine ⟨hz, fun ho => ?_⟩
  obtain ⟨a, nb⟩ := h2 z hz hm.1 ho
  obtain ⟨b, arr, ty, e1, e2, e3, e4⟩ := h a
  obtain ⟨k1, k2⟩ := h3 (.sp z) hm.2 b (Array.getElem?_eq_some_iff.1 e3).1 e2
  exact ⟨b, arr, ty, nb _ e1, k1, k2.trans e3, e4⟩
 | clo f caps =>
  simp only [Rep] at h ⊢
  obtain ⟨xs, e, hl, hc⟩ := h
  refine ⟨xs, e, hl, fun i cp x hi hx => ?_⟩
  have h' := hc i cp x hi hx
  have hmc := hm cp (List.mem_of_getElem? hi)
  cases cp with
  | t g t => exact Fz.imp (h3 g hmc) t x h'
  | p z =>
   intro ho
   obtain ⟨a, b⟩ := h2 (z % 1000) (by omega) hmc ho
   obtain ⟨b', e1, e2⟩ := h' a
   exact ⟨b', b _ e1, e2⟩
 | fo z k nl cs =>
  obtain ⟨hsc, u0, hu0, h⟩ := h
  refine ⟨hsc, u0, hu0.move, ?_⟩
  rcases h with h | ⟨hn, b, arr, ty, xs, e, ho, hb, hl, hmx, ht, hx⟩
  ·exact .inl h
  ·obtain ⟨k1, k2⟩ := h3 (.rw z) hm b (Array.getElem?_eq_some_iff.1 hb).1 ho
   exact .inr ⟨hn, b, arr, ty, xs, e, k1, k2.trans hb, hl, hmx, ht, hx.scal hsc⟩
theorem OwnAt.imp {y m : Nat} {nl : Option Bool} {cs : List T} {u : Value}
  (h0 : ∀ b, b < w.heap.size → ow b = some (y, 0) → ow' b = some (y, 0) ∧ w'.heap[b]? = w.heap[b]?)
  (h1 : ∀ b, b < w.heap.size → okG lo ow (tagM m y) b → okG lo ow' (tagM m y) b ∧ w'.heap[b]? = w.heap[b]?)
  (h : OwnAt lo par ow w y m nl cs u) : OwnAt lo par ow' w' y m nl cs u := by
 obtain ⟨hp, h⟩ := h
 refine ⟨hp, ?_⟩
 rcases h with h | ⟨hn, b, cap, arr, ty, xs, e, ho, hb, hs, hl, hm, ht, hx, hd⟩
 ·exact .inl h
 ·have hlt : b < w.heap.size := (Array.getElem?_eq_some_iff.1 hb).1
  obtain ⟨a1, a2⟩ := h0 b hlt ho
  refine .inr ⟨hn, b, cap, arr, ty, xs, e, a1, a2.trans hb, hs, hl, hm, ht, FzL.imp h1 cs xs hx, fun hm1 => ?_⟩
  obtain ⟨d1, d2⟩ := hd hm1
  refine ⟨d1, fun i b' hi => ?_⟩
  obtain ⟨e1, arr', ty', len', e2, e3⟩ := d2 i b' hi
  have hlt' : b' < w.heap.size := (Array.getElem?_eq_some_iff.1 e2).1
  have htag : tagM m y = .rw y := by simp [tagM, hm1]
  obtain ⟨c1, c2⟩ := h1 b' hlt' (by rw [htag]; exact e1)
  rw [htag] at c1
  exact ⟨c1, arr', ty', len', c2.trans e2, e3⟩
theorem okG.grow {g : G} {b : Nat} (ho : ∀ b, b < w.heap.size → ow' b = ow b) (hb : b < w.heap.size) (h : okG lo ow g b) : okG lo ow' g b := by
 cases g <;> simp only [okG, ho b hb] at h ⊢ <;> exact h
end
theorem Gam.grow {lo : Nat} {X : Nat → Prop} {par : Nat → Option Value} {ow ow' : Ow} {s : St} {tm : Array Value} {w w' : World} (h : Gam lo X par ow s tm w) (hg : Grow (fun _ => False) w w')
  (ho : ∀ b, b < w.heap.size → ow' b = ow b) (hb : ∀ b p, w.heap.size ≤ b → ow' b = some p → b < w'.heap.size ∧ (lo ≤ b ∨ X b)) : Gam lo X par ow' s tm w' := by
 refine ⟨fun b p hp => ?_, Nat.le_trans h.low hg.size, fun y hl hn => ?_⟩
 ·by_cases hlt : b < w.heap.size
  ·obtain ⟨_, a2⟩ := h.base b p (by rw [← ho b hlt]; exact hp)
   exact ⟨Nat.lt_of_lt_of_le hlt hg.size, a2⟩
  ·exact hb b p (by omega) hp
 ·obtain ⟨u, e, hr⟩ := h.ent y hl hn
  refine ⟨u, nmv_grow hg e, ?_⟩
  have tags : ∀ g b, b < w.heap.size → okG lo ow g b → okG lo ow' g b ∧ w'.heap[b]? = w.heap[b]? := fun g b hlt hk => ⟨hk.grow ho hlt, hg.blk hlt⟩
  by_cases hnm : (s.get y).isName = false
  ·exact Rep.imp (M := fun _ => True) (MG := fun _ => True) (by generalize s.get y = v; cases v <;> simp [V.ment]; intro c _; cases c <;> simp [Cap.ment]) hnm
    (fun z _ hz => ⟨hz, fun u => nmv_grow hg⟩) (fun z _ hz => hz) (fun x _ _ hx => ⟨hx, fun u => nmv_grow hg⟩) (fun g _ => tags g) hr
  ·cases hv : s.get y with
   | own m nl cs =>
    rw [hv] at hr
    exact OwnAt.imp (fun b hlt hk => ⟨by rw [ho b hlt]; exact hk, hg.blk hlt⟩) (tags _) hr
   | bx k =>
    rw [hv] at hr
    obtain ⟨hy, b, arr, ty, e1, e2, e3, e4⟩ := hr
    have hlt : b < w.heap.size := (Array.getElem?_eq_some_iff.1 e3).1
    exact ⟨hy, b, arr, ty, e1, by rw [ho b hlt]; exact e2, (hg.blk hlt).trans e3, e4⟩
   | tp k => rw [hv] at hr; exact hr
   | ag k => rw [hv] at hr; exact hr
   | _ => simp [hv, V.isName] at hnm
end Go.Vc
namespace Go.Vc
open Go
theorem get_if {k y : Nat} {v : V} {s : St} : St.get ((k, v) :: s) y = if k = y then v else St.get s y := by
 rw [get_cons]; by_cases h : k = y
 ·simp [h]
 ·simp [h, beq_eq_false_iff_ne.2 h]
theorem hangs_self (y : Nat) : hangs y y = true := by simp [hangs]
theorem hangs_iff {y z : Nat} : hangs y z = true ↔ z = y ∨ (y < 1000 ∧ z % 1000 = y) := by simp [hangs]
theorem hangs_false {y z : Nat} : hangs y z = false ↔ z ≠ y ∧ (y < 1000 → z % 1000 ≠ y) := by
 rw [← Bool.not_eq_true, hangs_iff]; constructor
 ·intro h; exact ⟨fun e => h (.inl e), fun a b => h (.inr ⟨a, b⟩)⟩
 ·rintro ⟨a, b⟩ (c | ⟨c, d⟩)
  ·exact a c
  ·exact b c d
theorem hangs_slot {d z : Nat} (hz : z < 1000) : hangs d z = true ↔ z = d := by
 rw [hangs_iff]; constructor
 ·rintro (h | ⟨h1, h2⟩)
  ·exact h
  ·omega
 ·exact .inl
theorem any_on (d : Nat) : V.on d .any = false := rfl
theorem get_kill {d y : Nat} : ∀ {s : St}, (St.kill d s).get y = if hangs d y = true ∨ (s.get y).on d = true then .any else s.get y
 | [] => by simp [St.kill, St.get, any_on]
 | (k, v) :: s => by
  rw [kill_cons, get_if, get_if, get_kill (s := s)]
  by_cases hk : k = y
  ·subst hk
   by_cases h1 : hangs d k = true <;> by_cases h2 : v.on d = true <;> simp [h1, h2]
  ·simp [hk]
theorem get_rt {x d y : Nat} : ∀ {s : St}, (St.rt x d s).get y = if hangs x y = true then .any else (s.get y).rt x d
 | [] => by simp [St.rt, St.get, V.rt, V.on, G.on]
 | (k, v) :: s => by
  rw [rt_cons, get_if, get_if, get_rt (s := s)]
  by_cases hk : k = y
  ·subst hk
   by_cases h1 : hangs x k = true <;> simp [h1]
  ·simp [hk]
theorem get_killSp {z y : Nat} : ∀ {s : St}, (St.killSp z s).get y = if (s.get y).onSp z = true then .any else s.get y
 | [] => by simp [St.killSp, St.get, V.onSp, G.onSp]
 | (k, v) :: s => by
  rw [killSp_cons, get_if, get_if, get_killSp (s := s)]
  by_cases hk : k = y
  ·subst hk
   by_cases h1 : v.onSp z = true <;> simp [h1]
  ·simp [hk]
theorem get_killRs {z y : Nat} : ∀ {s : St}, (St.killRs z s).get y = if (s.get y).onRs z = true then .any else s.get y
 | [] => by simp [St.killRs, St.get, V.onRs, G.onRs]
 | (k, v) :: s => by
  rw [killRs_cons, get_if, get_if, get_killRs (s := s)]
  by_cases hk : k = y
  ·subst hk
   by_cases h1 : v.onRs z = true <;> simp [h1]
  ·simp [hk]
theorem get_app {y : Nat} : ∀ {E s : St}, (∀ p ∈ E, p.1 ≠ y) → (E ++ s).get y = s.get y
 | [], _, _ => rfl
 | (k, v) :: E, s, h => by
  rw [List.cons_append, get_if, if_neg (h (k, v) (by simp))]
  exact get_app fun p hp => h p (by simp [hp])
theorem V.not_on {y : Nat} {v : V} (h : v.on y = false) : v.ment (fun z => hangs y z = false) (fun g => g.on y = false) := by
 cases v <;> simp only [V.on, V.ment] at h ⊢ <;> try exact h
 ·exact ⟨h, h⟩
 ·exact ⟨h, h⟩
 intro c hc
 have := List.any_eq_false.1 h c hc
 cases c with
 | p z => simpa [Cap.on, Cap.ment] using this
 | t g r => simpa [Cap.on, Cap.ment] using this
theorem V.ment_true (v : V) : v.ment (fun _ => True) (fun _ => True) := by
 cases v <;> simp [V.ment]; intro c _; cases c <;> simp [Cap.ment]
theorem V.onSp_not {y : Nat} {v : V} (h : v.onSp y = false) : v.ment (fun _ => True) (fun g => g.onSp y = false) := by
 cases v <;> simp only [V.onSp, V.ment] at h ⊢ <;> try exact h
 ·exact ⟨trivial, h⟩
 ·exact ⟨trivial, h⟩
 rotate_left
 ·rfl
 intro c hc
 have := List.any_eq_false.1 h c hc
 cases c with
 | p z => simp [Cap.ment]
 | t g r => simpa [Cap.ment] using this
theorem V.onRs_not {y : Nat} {v : V} (h : v.onRs y = false) : v.ment (fun _ => True) (fun g => g.onRs y = false) := by
 cases v <;> simp only [V.onRs, V.ment] at h ⊢ <;> try exact h
 ·exact ⟨trivial, h⟩
 ·exact ⟨trivial, h⟩
 intro c hc
 have := List.any_eq_false.1 h c hc
 cases c with
 | p z => simp [Cap.ment]
 | t g r => simpa [Cap.ment] using this
section
variable {lo : Nat} {X : Nat → Prop} {par : Nat → Option Value} {ow ow' : Ow} {tm tm' : Array Value} {w w' : World} {s s' : St}
theorem Gam.step {M : Nat → Prop} {MG : G → Prop} {I : Nat → Prop} (h : Gam lo X par ow s tm w)
  (hbase : ∀ b p, ow' b = some p → b < w'.heap.size ∧ (lo ≤ b ∨ X b)) (hlow : w.heap.size ≤ w'.heap.size)
  (hc : ∀ y, s'.lv y = true → (s'.get y).isAny = false →
   (∃ u, nmv tm' w' y = some u ∧ Rep lo par ow' tm' w' s' y (s'.get y) u) ∨ (I y ∧ s'.get y = s.get y ∧ s.lv y = true ∧ (s.get y).ment M MG))
  (hN : ∀ y, I y → ∀ u, nmv tm w y = some u → nmv tm' w' y = some u)
  (hO : ∀ y, I y → ∀ b, b < w.heap.size → ∀ r, ow b = some (y, r) → ow' b = some (y, r) ∧ w'.heap[b]? = w.heap[b]?)
  (hfr : MG .fr ∧ MG .arg)
  (h1 : ∀ z, M z → okAl s' z → okAl s z ∧ ∀ u, nmv tm w z = some u → nmv tm' w' z = some u)
  (h1' : ∀ z, M z → okPe s' z → okPe s z)
  (h2 : ∀ x, x < 1000 → M x → okPc s' x → okPc s x ∧ ∀ u, nmv tm w x = some u → nmv tm' w' x = some u)
  (h3 : ∀ g, MG g → ∀ b, b < w.heap.size → okG lo ow g b → okG lo ow' g b ∧ w'.heap[b]? = w.heap[b]?) : Gam lo X par ow' s' tm' w' := by
 refine ⟨hbase, Nat.le_trans h.low hlow, fun y hl hn => ?_⟩
 rcases hc y hl hn with h0 | ⟨hI, he, hl', hm⟩
 ·exact h0
 ·obtain ⟨u, e, hr⟩ := h.ent y hl' (by rw [← he]; exact hn)
  refine ⟨u, hN y hI u e, ?_⟩
  rw [he]
  by_cases hnm : (s.get y).isName = false
  ·exact Rep.imp hm hnm h1 h1' h2 h3 hr
  ·cases hv : s.get y with
   | own m nl cs =>
    rw [hv] at hr
    refine OwnAt.imp (fun b hlt hk => hO y hI b hlt 0 hk) (fun b hlt hk => ?_) hr
    unfold tagM at hk ⊢
    by_cases m1 : (m % 10 == 1) = true
    ·simp only [m1, cond_true] at hk ⊢
     exact hO y hI b hlt 1 hk
    ·simp only [Bool.not_eq_true] at m1
     simp only [m1, cond_false] at hk ⊢
     by_cases m0 : (m % 10 == 0) = true
     ·simp only [m0, cond_true] at hk ⊢; exact h3 .fr hfr.1 b hlt hk
     ·simp only [Bool.not_eq_true] at m0
      simp only [m0, cond_false] at hk ⊢; exact h3 .arg hfr.2 b hlt hk
   | bx k =>
    rw [hv] at hr
    obtain ⟨hy, b, arr, ty, e1, e2, e3, e4⟩ := hr
    obtain ⟨a1, a2⟩ := hO y hI b (Array.getElem?_eq_some_iff.1 e3).1 0 e2
    exact ⟨hy, b, arr, ty, e1, a1, a2.trans e3, e4⟩
   | tp k => rw [hv] at hr; exact hr
   | ag k => rw [hv] at hr; exact hr
   | _ => simp [hv, V.isName] at hnm
theorem lv_iff {z : Nat} : s.lv z = true ↔ z < 1000 ∨ (s.get (z % 1000)).cont = true := by simp [St.lv]
theorem okAl_iff {z : Nat} : okAl s z ↔ ((∃ m nl cs, s.get z = .own m nl cs) ∧ s.lv z = true) ∨ ((∃ k, s.get z = .ag k) ∧ z < 1000) := by
 unfold okAl; cases h : s.get z <;> simp
theorem okAl.lv {z : Nat} (h : okAl s z) : s.lv z = true := by
 rw [okAl_iff] at h
 rcases h with h | h
 ·exact h.2
 ·exact lv_iff.2 (.inl h.2)
theorem okPe_iff {z : Nat} : okPe s z ↔ (∃ m nl cs, s.get z = .own m nl cs) ∧ s.lv z = true := by
 unfold okPe; cases h : s.get z <;> simp
theorem okPc_iff {x : Nat} : okPc s x ↔ ∃ k, s.get x = .bx k := by
 unfold okPc; cases h : s.get x <;> simp
theorem Gam.put {d : Nat} {v : V} {u : Value} (h : Gam lo X par ow s tm w) (hd : d < 1000) (hsz : d < tm.size) (hn : v.isName = false) (hr : Rep lo par ow tm w s d v u) :
  Gam lo X par ow ((d, v) :: s) (tm.setIfInBounds d u) w := by
 have hcont : v.cont = false := by cases v <;> simp_all [V.isName, V.cont]
 have gne : ∀ z, z ≠ d → St.get ((d, v) :: s) z = s.get z := fun z hz => by rw [get_if, if_neg (Ne.symm hz)]
 have gd : St.get ((d, v) :: s) d = v := by rw [get_if, if_pos rfl]
 have lvs : ∀ z, St.lv ((d, v) :: s) z = true → s.lv z = true ∧ (z ≠ d → hangs d z = false) := by
  intro z hz
  rw [lv_iff] at hz ⊢
  rcases hz with hz | hz
  ·exact ⟨.inl hz, fun hne => hangs_false.2 ⟨hne, fun _ => by omega⟩⟩
  ·by_cases hzd : z % 1000 = d
   ·rw [hzd, gd, hcont] at hz; cases hz
   ·rw [gne _ hzd] at hz; exact ⟨.inr hz, fun hne => hangs_false.2 ⟨hne, fun _ => hzd⟩⟩
 have nm : ∀ z, hangs d z = false → ∀ u', nmv tm w z = some u' → nmv (tm.setIfInBounds d u) w z = some u' := fun z hz u' hu => by rw [nmv_put hz hd]; exact hu
 have al : ∀ z, okAl ((d, v) :: s) z → okAl s z ∧ hangs d z = false := by
  intro z hz
  rw [okAl_iff] at hz
  have hzd : z ≠ d := by
   rintro rfl
   rw [gd] at hz
   rcases hz with ⟨⟨m, nl, cs, e⟩, _⟩ | ⟨⟨k, e⟩, _⟩ <;> simp [e, V.isName] at hn
  rw [gne z hzd] at hz
  rw [okAl_iff]
  rcases hz with ⟨e, hl⟩ | ⟨e, hl⟩
  ·obtain ⟨a, b⟩ := lvs z hl; exact ⟨.inl ⟨e, a⟩, b hzd⟩
  ·exact ⟨.inr ⟨e, hl⟩, hangs_false.2 ⟨hzd, fun _ => by omega⟩⟩
 have pe : ∀ z, okPe ((d, v) :: s) z → okPe s z := by
  intro z hz
  have hal := al z hz.al
  rw [okPe_iff] at hz ⊢
  have hzd : z ≠ d := (hangs_false.1 hal.2).1
  rw [gne z hzd] at hz
  exact ⟨hz.1, (lvs z hz.2).1⟩
 have pc : ∀ x, x < 1000 → okPc ((d, v) :: s) x → okPc s x ∧ hangs d x = false := by
  intro x hx hz
  rw [okPc_iff] at hz
  have hxd : x ≠ d := by
   rintro rfl
   obtain ⟨k, e⟩ := hz
   rw [gd] at e; simp [e, V.isName] at hn
  rw [gne x hxd] at hz
  exact ⟨okPc_iff.2 hz, hangs_false.2 ⟨hxd, fun _ => by omega⟩⟩
 have RI : ∀ {y : Nat} {v' : V} {u' : Value}, v'.isName = false → Rep lo par ow tm w s y v' u' → Rep lo par ow (tm.setIfInBounds d u) w ((d, v) :: s) y v' u' := fun hnm hr =>
  Rep.imp (M := fun _ => True) (MG := fun _ => True) (V.ment_true _) hnm (fun z _ hz => ⟨(al z hz).1, nm z (al z hz).2⟩) (fun z _ hz => pe z hz) (fun x hx _ hz => ⟨(pc x hx hz).1, nm x (pc x hx hz).2⟩) (fun g _ b _ hk => ⟨hk, rfl⟩) hr
 refine Gam.step (M := fun _ => True) (MG := fun _ => True) (I := fun y => hangs d y = false) h h.base (Nat.le_refl _) (fun y hl hny => ?_) (fun y hy => nm y hy) (fun y _ b _ r hk => ⟨hk, rfl⟩) ⟨trivial, trivial⟩
  (fun z _ hz => ⟨(al z hz).1, nm z (al z hz).2⟩) (fun z _ hz => pe z hz) (fun x hx _ hz => ⟨(pc x hx hz).1, nm x (pc x hx hz).2⟩) (fun g _ b _ hk => ⟨hk, rfl⟩)
 by_cases hyd : y = d
 ·subst hyd
  refine .inl ⟨u, ?_, ?_⟩
  ·rw [nmv_slot hd]; simp [hsz]
  ·rw [gd]; exact RI hn hr
 ·exact .inr ⟨(lvs y hl).2 hyd, gne y hyd, (lvs y hl).1, V.ment_true _⟩
def Hg (ds : List Nat) (z : Nat) : Prop := ∃ x ∈ ds, hangs x z = true
theorem Hg.up {ds : List Nat} {y : Nat} (h : Hg ds (y % 1000)) : Hg ds y := by
 obtain ⟨x, hx, hh⟩ := h
 refine ⟨x, hx, ?_⟩
 rw [hangs_iff] at hh ⊢
 rcases hh with hh | ⟨h1, h2⟩
 ·have : x < 1000 := by omega
  exact .inr ⟨this, hh⟩
 ·exact .inr ⟨h1, by omega⟩
theorem V.not_ons {ds : List Nat} {v : V} (h : ∀ x ∈ ds, v.on x = false) : v.ment (fun z => ¬ Hg ds z) (fun g => ∀ x ∈ ds, g.on x = false) := by
 cases v <;> simp only [V.on, V.ment] at h ⊢
 ·exact h
 ·rintro ⟨x, hx, hh⟩; rw [h x hx] at hh; cases hh
 ·rintro ⟨x, hx, hh⟩; rw [h x hx] at hh; cases hh
 ·rintro ⟨x, hx, hh⟩; rw [h x hx] at hh; cases hh
 ·exact ⟨(by rintro ⟨x, hx, hh⟩; rw [h x hx] at hh; cases hh), fun x hx => h x hx⟩
 ·rintro ⟨x, hx, hh⟩; rw [h x hx] at hh; cases hh
 ·exact ⟨(by rintro ⟨x, hx, hh⟩; rw [h x hx] at hh; cases hh), fun x hx => h x hx⟩
 ·intro c hc
  cases c with
  | p z =>
   rintro ⟨x, hx, hh⟩
   have := List.any_eq_false.1 (h x hx) _ hc
   simp only [Cap.on] at this
   exact this hh
  | t g r =>
   intro x hx
   have := List.any_eq_false.1 (h x hx) _ hc
   simpa [Cap.on] using this
 ·exact fun x hx => h x hx
structure Keeps (lo : Nat) (ds : List Nat) (ow ow' : Ow) (tm tm' : Array Value) (w w' : World) (s s' : St) : Prop where
 size : w.heap.size ≤ w'.heap.size
 st : ∀ y, ¬ Hg ds y → (s'.get y).isAny = true ∨ (s'.get y = s.get y ∧ ∀ x ∈ ds, (s.get y).on x = false) ∨
  (∃ x d r, s.get y = .t (.rw x) r ∧ s'.get y = .t (.rw d) r ∧ ∀ b, b < w.heap.size → ow b = some (x, 1) → ow' b = some (d, 1) ∧ w'.heap[b]? = w.heap[b]?)
 nm : ∀ y, ¬ Hg ds y → s.lv y = true → ∀ u, nmv tm w y = some u → nmv tm' w' y = some u
 own : ∀ y, ¬ Hg ds y → ∀ b, b < w.heap.size → ∀ r, ow b = some (y, r) → ow' b = some (y, r) ∧ w'.heap[b]? = w.heap[b]?
 tag : ∀ g, (∀ x ∈ ds, G.on x g = false) → ∀ b, b < w.heap.size → okG lo ow g b → okG lo ow' g b ∧ w'.heap[b]? = w.heap[b]?
theorem Keeps.lv {ds : List Nat} (k : Keeps lo ds ow ow' tm tm' w w' s s') {z : Nat} (hz : ¬ Hg ds z) (h : s'.lv z = true) : s.lv z = true := by
 rw [lv_iff] at h ⊢
 rcases h with h | h
 ·exact .inl h
 ·rcases k.st (z % 1000) (fun hh => hz hh.up) with h0 | ⟨h0, _⟩ | ⟨x, d, r, _, h0, _⟩
  ·revert h; cases hv : s'.get (z % 1000) <;> simp [V.cont] <;> simp [hv, V.isAny] at h0
  ·rw [h0] at h; exact .inr h
  ·rw [h0] at h; cases h
theorem Keeps.name {ds : List Nat} (k : Keeps lo ds ow ow' tm tm' w w' s s') {z : Nat} (hz : ¬ Hg ds z) (h : (s'.get z).isName = true) : s'.get z = s.get z := by
 rcases k.st z hz with h0 | ⟨h0, _⟩ | ⟨x, d, r, _, h0, _⟩
 ·revert h; cases hv : s'.get z <;> simp [V.isName] <;> simp [hv, V.isAny] at h0
 ·exact h0
 ·rw [h0] at h; cases h
theorem Keeps.al {ds : List Nat} (k : Keeps lo ds ow ow' tm tm' w w' s s') {z : Nat} (hz : ¬ Hg ds z) (h : okAl s' z) : okAl s z := by
 rw [okAl_iff] at h ⊢
 rcases h with ⟨⟨m, nl, cs, e⟩, hl⟩ | ⟨⟨m, e⟩, hl⟩
 ·have := k.name hz (by rw [e]; rfl); rw [this] at e
  exact .inl ⟨⟨m, nl, cs, e⟩, k.lv hz hl⟩
 ·have := k.name hz (by rw [e]; rfl); rw [this] at e
  exact .inr ⟨⟨m, e⟩, hl⟩
theorem Keeps.pe {ds : List Nat} (k : Keeps lo ds ow ow' tm tm' w w' s s') {z : Nat} (hz : ¬ Hg ds z) (h : okPe s' z) : okPe s z := by
 rw [okPe_iff] at h ⊢
 obtain ⟨⟨m, nl, cs, e⟩, hl⟩ := h
 have := k.name hz (by rw [e]; rfl); rw [this] at e
 exact ⟨⟨m, nl, cs, e⟩, k.lv hz hl⟩
theorem Keeps.pc {ds : List Nat} (k : Keeps lo ds ow ow' tm tm' w w' s s') {z : Nat} (hz : ¬ Hg ds z) (h : okPc s' z) : okPc s z := by
 rw [okPc_iff] at h ⊢
 obtain ⟨m, e⟩ := h
 have := k.name hz (by rw [e]; rfl); rw [this] at e
 exact ⟨m, e⟩
theorem Keeps.rep {ds : List Nat} (k : Keeps lo ds ow ow' tm tm' w w' s s') {y : Nat} {v : V} {u : Value} (hn : v.isName = false) (hm : ∀ x ∈ ds, v.on x = false)
  (h : Rep lo par ow tm w s y v u) : Rep lo par ow' tm' w' s' y v u :=
 Rep.imp (V.not_ons hm) hn (fun z hz ho => ⟨k.al hz ho, k.nm z hz (k.al hz ho).lv⟩) (fun z hz ho => k.pe hz ho) (fun x hx1 hx ho => ⟨k.pc hx ho, k.nm x hx (lv_iff.2 (.inl hx1))⟩) k.tag h
theorem Gam.next {ds : List Nat} (h : Gam lo X par ow s tm w) (k : Keeps lo ds ow ow' tm tm' w w' s s')
  (hbase : ∀ b p, ow' b = some p → b < w'.heap.size ∧ (lo ≤ b ∨ X b))
  (he : ∀ y, Hg ds y → s'.lv y = true → (s'.get y).isAny = false → ∃ u, nmv tm' w' y = some u ∧ Rep lo par ow' tm' w' s' y (s'.get y) u) : Gam lo X par ow' s' tm' w' := by
 refine Gam.step (M := fun z => ¬ Hg ds z) (MG := fun g => ∀ x ∈ ds, g.on x = false) (I := fun y => ¬ Hg ds y ∧ s.lv y = true) h hbase k.size (fun y hl hn => ?_) (fun y hy => k.nm y hy.1 hy.2) (fun y hy => k.own y hy.1) ⟨fun x _ => rfl, fun x _ => rfl⟩
  (fun z hz ho => ⟨k.al hz ho, k.nm z hz (k.al hz ho).lv⟩) (fun z hz ho => k.pe hz ho) (fun x hx1 hx ho => ⟨k.pc hx ho, k.nm x hx (lv_iff.2 (.inl hx1))⟩) k.tag
 by_cases hy : Hg ds y
 ·exact .inl (he y hy hl hn)
 ·rcases k.st y hy with h0 | ⟨h0, h1⟩ | ⟨x, d, r, e1, e2, h0⟩
  ·rw [h0] at hn; cases hn
  ·exact .inr ⟨⟨hy, k.lv hy hl⟩, h0, k.lv hy hl, V.not_ons h1⟩
  ·obtain ⟨u, e, hr⟩ := h.ent y (k.lv hy hl) (by
    cases r <;> simp [e1, e2, V.isAny] at hn ⊢)
   refine .inl ⟨u, k.nm y hy (k.lv hy hl) u e, ?_⟩
   rw [e1] at hr
   rw [e2]
   exact Fz.imp (fun b hb hk => h0 b hb hk) r u hr
theorem Keeps.create {d : Nat} {E : St} {u : Value} (hd : d < 1000) (hg : Grow (fun _ => False) w w') (ho : ∀ b, b < w.heap.size → ow' b = ow b) (hE : ∀ p ∈ E, hangs d p.1 = true) :
  Keeps lo [d] ow ow' tm (tm.setIfInBounds d u) w w' s (E ++ s.kill d) := by
 have hh : ∀ y, ¬ Hg [d] y → hangs d y = false := fun y hy => by
  rw [← Bool.not_eq_true]; exact fun h => hy ⟨d, by simp, h⟩
 refine ⟨hg.size, fun y hy => ?_, fun y hy _ u' hu => ?_, fun y _ b hb r hk => ⟨by rw [ho b hb]; exact hk, hg.blk hb⟩, fun g _ b hb hk => ⟨hk.grow ho hb, hg.blk hb⟩⟩
 ·have e : (E ++ s.kill d).get y = (s.kill d).get y := get_app fun p hp hpe => by
   have := hE p hp; rw [hpe, hh y hy] at this; cases this
  rw [e, get_kill]
  by_cases hon : (s.get y).on d = true
  ·simp [hh y hy, hon, V.isAny]
  ·simp only [Bool.not_eq_true] at hon
   simp [hh y hy, hon]
 ·exact nmv_grow hg (by rw [nmv_put (hh y hy) hd]; exact hu)
end
end Go.Vc
namespace Go.Vc
open Go
section
variable {lo : Nat} {X : Nat → Prop} {par : Nat → Option Value} {ow ow' : Ow} {tm tm' : Array Value} {w w' : World} {s s' : St}
def RepW (lo : Nat) (par : Nat → Option Value) (ow : Ow) (tm : Array Value) (w : World) (s : St) : W → Value → Prop
 | .t g t, u => Fz (okG lo ow g) w t u
 | .own y m nl cs, u => s.get y = .own m nl cs ∧ s.lv y = true ∧ nmv tm w y = some u ∧ OwnAt lo par ow w y m nl cs u
 | .pe y j m nl cs, u => s.get y = .own m nl cs ∧ s.lv y = true ∧ ∃ b len cap, nmv tm w y = some (.slice (some ⟨b, 0, none⟩) len cap) ∧
   OwnAt lo par ow w y m nl cs (.slice (some ⟨b, 0, none⟩) len cap) ∧ u = .pointer (some ⟨b, j, none⟩)
 | .er y j m nl cs, u => s.get y = .own m nl cs ∧ s.lv y = true ∧ ∃ b len cap, nmv tm w y = some (.slice (some ⟨b, 0, none⟩) len cap) ∧
   OwnAt lo par ow w y m nl cs (.slice (some ⟨b, 0, none⟩) len cap) ∧ erC w b j u
 | .sl y l h m nl cs, u => s.get y = .own m nl cs ∧ s.lv y = true ∧ ∃ a0 len cap, nmv tm w y = some (.slice a0 len cap) ∧ OwnAt lo par ow w y m nl cs (.slice a0 len cap) ∧
   l ≤ h ∧ h ≤ len ∧ len ≤ cap ∧ u = .slice (if cap = l then a0 else a0.map (·.add (l * 1))) (h - l) (cap - l)
 | .pc z v ts, u => ∃ n b arr ty, s.get (z % 1000) = .bx n ∧ nmv tm w (z % 1000) = some (.pointer (some ⟨b, 0, none⟩)) ∧ w.heap[b]? = some (.cells arr ty (0, 0)) ∧ ow b = some (z % 1000, 0) ∧
   arr.size = n ∧ z / 1000 - 1 < n ∧ 1000 ≤ z ∧ u = .pointer (some ⟨b, z / 1000 - 1, none⟩) ∧ FzL (fun _ => True) w ts arr.toList ∧
   v.isName = false ∧ (v.isAny = false → ∃ x, w.cell? ⟨b, z / 1000 - 1, none⟩ = some x ∧ Rep lo par ow tm w s 0 v x)
 | .clo f cp ts, u => Rep lo par ow tm w s 0 (.clo f cp) u ∧ ∃ xs : List Value, u = .func (.func f) #[] xs.toArray ∧ FzL (fun _ => True) w ts xs
 | .bv z n ts, u => s.get z = .bx n ∧ z < 1000 ∧ ∃ b arr ty, nmv tm w z = some (.pointer (some ⟨b, 0, none⟩)) ∧ w.heap[b]? = some (.cells arr ty (0, 0)) ∧ ow b = some (z, 0) ∧ arr.size = n ∧ u = .agg arr ∧ FzL (fun _ => True) w ts arr.toList
 | .tp _ _, _ => True
 | .fo z k nl cs, u => Rep lo par ow tm w s 0 (.fo z k nl cs) u
 | .ag y k ts, u => s.get y = .ag k ∧ y < 1000 ∧ nmv tm w y = some u ∧ ∃ xs : List Value, u = .agg xs.toArray ∧ xs.length = k ∧ FzL (fun _ => True) w ts xs
 | .no, _ => True
theorem OwnAt.fz {y m : Nat} {nl : Option Bool} {cs : List T} {u : Value} (h : OwnAt lo par ow w y m nl cs u) : Fz (fun _ => True) w (.s nl cs) u := by
 rcases h.2 with h | ⟨hn, b, cap, arr, ty, xs, e, ho, hb, hs, hl, hm, ht, hx, hd⟩
 ·simp only [Fz]; exact .inl h
 ·simp only [Fz]
  refine .inr ⟨hn, b, 0, none, cap, xs, e, hl, hm, fun _ => ⟨trivial, rfl⟩, hx.mono fun _ _ => trivial, fun k x hk => ?_⟩
  rw [cell_of_row w b (0 + k) arr ty (0, 0) hb]
  subst ht
  rw [List.getElem?_take] at hk
  split at hk
  ·simpa using hk
  ·cases hk
theorem Rep.y {y y' : Nat} {v : V} {u : Value} (hn : v.isName = false) (h : Rep lo par ow tm w s y v u) : Rep lo par ow tm w s y' v u := by
 cases v <;> first | exact h | simp [V.isName] at hn
theorem Rep.any (y : Nat) (u : Value) : Rep lo par ow tm w s y .any u := by simp [Rep, Fz]
theorem isAny_eq {v : V} (h : v.isAny = true) : ∃ g, v = .t g .any := by
 cases v with
 | t g r => cases r <;> simp [V.isAny] at h; exact ⟨g, rfl⟩
 | _ => simp [V.isAny] at h
theorem Gam.resN (h : Gam lo X par ow s tm w) {y : Nat} {u : Value} (hl : s.lv y = true) (hu : nmv tm w y = some u) : Fz (fun _ => True) w (s.resN y) u := by
 rw [resN_eq]
 by_cases ha : (s.get y).isAny = true
 ·obtain ⟨g, e⟩ := isAny_eq ha; rw [e]; simp [resV, Fz]
 ·simp only [Bool.not_eq_true] at ha
  obtain ⟨u', e, hr⟩ := h.ent y hl ha
  rw [hu] at e; cases e
  cases hv : s.get y with
  | t g r => rw [hv] at hr; exact Fz.mono (fun _ _ => trivial) hr
  | own m nl cs => rw [hv] at hr; exact OwnAt.fz hr
  | al z =>
   rw [hv] at hr
   rw [resV_al]
   cases hz : s.get z with
   | own m nl cs =>
    rw [resA_own]
    cases hlz : s.lv z with
    | false => simp [Fz]
    | true =>
     simp only [cond_true]
     obtain ⟨u', e, hr'⟩ := h.ent z hlz (by rw [hz]; rfl)
     have hc := hr (by simp [hz, hlz])
     rw [hc] at e; cases e
     rw [hz] at hr'; exact OwnAt.fz hr'
   | _ => simp [resA, Fz]
  | _ => simp [resV, Fz]
theorem Gam.cells (h : Gam lo X par ow s tm w) {x c : Nat} (hx : x < 1000) (hc : 1 ≤ c) : ∀ (n j : Nat) (xs : List Value), xs.length = n → (s.get x).cont = true →
  (∀ i v, xs[i]? = some v → nmv tm w (x + 1000 * (c + (j + i))) = some v ∨ nmv tm w (x + 1000 * (c + (j + i))) = none) → FzL (fun _ => True) w (s.cells x c j n) xs
 | 0, _, xs, hl, _, _ => by simp only [cells_0, FzL]; exact List.eq_nil_of_length_eq_zero hl
 | n + 1, j, [], hl, _, _ => by simp at hl
 | n + 1, j, v :: xs, hl, hk, hn => by
  simp only [cells_s, FzL]
  refine ⟨v, xs, rfl, ?_, Gam.cells h hx hc n (j + 1) xs (by simpa using hl) hk fun i v' hi => ?_⟩
  ·have hlv : s.lv (x + 1000 * (c + j)) = true := by
    rw [lv_iff]; right; rw [show (x + 1000 * (c + j)) % 1000 = x from by omega]; exact hk
   rcases hn 0 v (by simp) with h0 | h0
   ·exact h.resN hlv (by simpa using h0)
   ·simp only [Nat.add_zero] at h0
    by_cases ha : (s.get (x + 1000 * (c + j))).isAny = true
    ·obtain ⟨g, e⟩ := isAny_eq ha; rw [resN_eq, e]; simp [resV, Fz]
    ·simp only [Bool.not_eq_true] at ha
     obtain ⟨u', e, _⟩ := h.ent _ hlv ha
     rw [h0] at e; cases e
  ·have := hn (i + 1) v' (by simpa using hi)
   rw [show j + 1 + i = j + (i + 1) from by omega]; exact this
theorem Gam.box (h : Gam lo X par ow s tm w) {z n : Nat} (hb : s.get z = .bx n) (hz : z < 1000) : ∃ b arr ty, nmv tm w z = some (.pointer (some ⟨b, 0, none⟩)) ∧ w.heap[b]? = some (.cells arr ty (0, 0)) ∧
  ow b = some (z, 0) ∧ arr.size = n ∧ FzL (fun _ => True) w (s.cells z 1 0 n) arr.toList ∧ ∀ j, 1 + j < 100 → nmv tm w (z + 1000 * (1 + j)) = arr[j]? := by
 obtain ⟨u, e, hr⟩ := h.ent z (lv_iff.2 (.inl hz)) (by rw [hb]; rfl)
 rw [hb] at hr
 obtain ⟨_, b, arr, ty, e1, e2, e3, e4⟩ := hr
 subst e1
 have hnm : ∀ j, 1 + j < 100 → nmv tm w (z + 1000 * (1 + j)) = arr[j]? := fun j hj => by
  have htm : tm.getD z undef = .pointer (some ⟨b, 0, none⟩) := by rw [nmv_slot hz] at e; simpa using e
  unfold nmv
  rw [if_neg (by omega), show (z + 1000 * (1 + j)) % 1000 = z from by omega, htm]
  simp only
  rw [show (z + 1000 * (1 + j)) / 1000 = 1 + j from by omega, if_pos hj, show 1 + j - 1 = j from by omega]
  exact cell_of_row w b j arr ty (0, 0) e3
 refine ⟨b, arr, ty, e, e3, e2, e4, ?_, hnm⟩
 refine h.cells hz (by omega) n 0 arr.toList (by simpa using e4) (by rw [hb]; rfl) fun i v hi => ?_
 by_cases hi100 : 1 + (0 + i) < 100
 ·left
  rw [hnm (0 + i) hi100]; simpa using hi
 ·right
  have htm : tm.getD z undef = .pointer (some ⟨b, 0, none⟩) := by rw [nmv_slot hz] at e; simpa using e
  unfold nmv
  rw [if_neg (by omega), show (z + 1000 * (1 + (0 + i))) % 1000 = z from by omega, htm]
  simp only
  rw [if_neg (by omega)]
theorem Gam.pcW (h : Gam lo X par ow s tm w) {z : Nat} {u : Value} (hu : okPc s (z % 1000) → ∃ b, nmv tm w (z % 1000) = some (.pointer (some ⟨b, 0, none⟩)) ∧ u = .pointer (some ⟨b, z / 1000 - 1, none⟩)) :
  RepW lo par ow tm w s (s.pcW z) u := by
 rw [pcW_eq]
 cases hb : s.get (z % 1000) with
 | bx n =>
  rw [pcW'_bx]
  cases hlt : (decide (z / 1000 - 1 < n) && decide (1000 ≤ z)) with
  | false => simp only [cond_false, RepW]
  | true =>
   simp only [Bool.and_eq_true, decide_eq_true_eq] at hlt
   simp only [cond_true, RepW]
   obtain ⟨b, arr, ty, e1, e2, e3, e4, e5, e6⟩ := h.box hb (by omega)
   obtain ⟨b', f1, f2⟩ := hu (okPc_iff.2 ⟨n, hb⟩)
   rw [e1] at f1; cases f1
   have hlv : s.lv z = true := lv_iff.2 (.inr (by rw [hb]; rfl))
   refine ⟨n, b, arr, ty, hb, e1, e2, e3, e4, hlt.1, hlt.2, f2, e5, ?_, fun hna => ?_⟩
   ·cases hz : s.get z with
    | own => rfl
    | bx k =>
     obtain ⟨u', _, hr⟩ := h.ent z hlv (by rw [hz]; rfl)
     rw [hz] at hr; exact absurd hr.1 (by omega)
    | tp k =>
     obtain ⟨u', _, hr⟩ := h.ent z hlv (by rw [hz]; rfl)
     rw [hz] at hr; exact absurd hr.1 (by omega)
    | ag k =>
     obtain ⟨u', _, hr⟩ := h.ent z hlv (by rw [hz]; rfl)
     rw [hz] at hr; exact absurd hr.1 (by omega)
    | _ => rfl
   ·have hna' : (s.get z).isAny = false := by cases hz : s.get z <;> simp_all [cellV, V.isAny]
    obtain ⟨x, g1, g2⟩ := h.ent z hlv hna'
    have hcell : w.cell? ⟨b, z / 1000 - 1, none⟩ = some x := by
     by_cases h100 : z / 1000 < 100
     ·have := e6 (z / 1000 - 1) (by omega)
      rw [show z % 1000 + 1000 * (1 + (z / 1000 - 1)) = z from by omega, g1] at this
      rw [cell_of_row w b (z / 1000 - 1) arr ty (0, 0) e2]
      exact this.symm
     ·exfalso
      have htm : tm.getD (z % 1000) undef = .pointer (some ⟨b, 0, none⟩) := by rw [nmv_slot (by omega)] at e1; simpa using e1
      unfold nmv at g1
      rw [if_neg (by omega), htm] at g1
      simp only at g1
      rw [if_neg h100] at g1
      cases g1
    refine ⟨x, hcell, ?_⟩
    cases hz : s.get z with
    | own m nl cs => simp only [cellV, Rep]; exact fun _ => g1
    | t g r => rw [hz] at g2; exact g2
    | al y => rw [hz] at g2; exact g2
    | pc y => rw [hz] at g2; exact g2
    | pe y j => rw [hz] at g2; exact g2
    | er y j => rw [hz] at g2; exact g2
    | sl y l h => rw [hz] at g2; exact g2
    | bv y => rw [hz] at g2; exact g2
    | clo f cp => rw [hz] at g2; exact g2
    | fo z k nl cs => rw [hz] at g2; exact g2
    | bx k => rw [hz] at g2; exact absurd g2.1 (by omega)
    | tp k => rw [hz] at g2; exact absurd g2.1 (by omega)
    | ag k => rw [hz] at g2; exact absurd g2.1 (by omega)
 | _ => simp only [pcW', RepW]
theorem Gam.look (h : Gam lo X par ow s tm w) {n : Nat} (hn : n < 1000) : RepW lo par ow tm w s (s.look (.s n)) (tm.getD n undef) := by
 rw [look_s]
 by_cases ha : (s.get n).isAny = true
 ·obtain ⟨g, e⟩ := isAny_eq ha; rw [e, enr_t]; simp [RepW, Fz]
 simp only [Bool.not_eq_true] at ha
 have hlv : s.lv n = true := lv_iff.2 (.inl hn)
 obtain ⟨u, e, hr⟩ := h.ent n hlv ha
 rw [nmv_slot hn] at e
 have e : tm.getD n undef = u := by simpa using e
 rw [e]
 have enm : nmv tm w n = some u := by rw [nmv_slot hn, e]
 cases hv : s.get n with
 | t g r => rw [hv] at hr; exact hr
 | own m nl cs => rw [hv] at hr; exact ⟨hv, hlv, enm, hr⟩
 | fo z k nl cs => rw [hv] at hr; exact hr
 | bx k =>
  rw [enr_bx]
  refine h.pcW fun _ => ?_
  rw [hv] at hr
  obtain ⟨_, b, arr, ty, e1, _⟩ := hr
  refine ⟨b, ?_, ?_⟩
  ·rw [show (n + 1000) % 1000 = n from by omega, enm, e1]
  ·rw [e1, show (n + 1000) / 1000 - 1 = 0 from by omega]
 | tp k => rw [enr_tp]; simp only [RepW]
 | ag k =>
  rw [hv] at hr
  obtain ⟨_, xs, e1, e2⟩ := hr
  rw [enr_ag]
  refine ⟨hv, hn, enm, xs, e1, e2, h.cells hn (by omega) k 0 xs e2 (by rw [hv]; rfl) fun i v hi => ?_⟩
  left
  unfold nmv
  rw [if_neg (by omega), show (n + 1000 * (200 + (0 + i))) % 1000 = n from by omega, e, e1]
  simp only
  rw [if_pos (by omega), show (n + 1000 * (200 + (0 + i))) / 1000 - 200 = i from by omega]
  simpa using hi
 | al z =>
  rw [hv] at hr
  rw [enr_al]
  cases hz : s.get z with
  | own m nl cs =>
   rw [alW_own]
   cases hlz : s.lv z with
   | false => simp only [cond_false, RepW]
   | true =>
    simp only [cond_true]
    obtain ⟨u', e', hr'⟩ := h.ent z hlz (by rw [hz]; rfl)
    have hc := hr (by simp [hz, hlz])
    rw [hc] at e'; cases e'
    rw [hz] at hr'
    exact ⟨hz, hlz, hc, hr'⟩
  | ag k =>
   rw [alW_ag]
   by_cases hz1 : z < 1000
   ·simp only [hz1, decide_true, cond_true]
    have hlz : s.lv z = true := lv_iff.2 (.inl hz1)
    obtain ⟨u', e', hr'⟩ := h.ent z hlz (by rw [hz]; rfl)
    have hc := hr (by simp [hz, hz1])
    rw [hc] at e'; cases e'
    rw [hz] at hr'
    obtain ⟨_, xs, e1, e2⟩ := hr'
    have htm : tm.getD z undef = u := by rw [nmv_slot hz1] at hc; simpa using hc
    refine ⟨hz, hz1, hc, xs, e1, e2, h.cells hz1 (by omega) k 0 xs e2 (by rw [hz]; rfl) fun i v hi => ?_⟩
    left
    unfold nmv
    rw [if_neg (by omega), show (z + 1000 * (200 + (0 + i))) % 1000 = z from by omega, htm, e1]
    simp only
    rw [if_pos (by omega), show (z + 1000 * (200 + (0 + i))) / 1000 - 200 = i from by omega]
    simpa using hi
   ·simp only [hz1, decide_false, cond_false, RepW]
  | _ => simp only [alW, RepW]
 | pc z => rw [hv] at hr; rw [enr_pc]; exact h.pcW hr
 | pe z j =>
  rw [hv] at hr
  rw [enr_pe]
  cases hz : s.get z with
  | own m nl cs =>
   rw [peW_own]
   cases hlz : s.lv z with
   | false => simp only [cond_false, RepW]
   | true =>
    simp only [cond_true]
    obtain ⟨u', e', hr'⟩ := h.ent z hlz (by rw [hz]; rfl)
    obtain ⟨b, len, cap, f1, f2⟩ := hr (by simp [hz, hlz])
    rw [f1] at e'; cases e'
    rw [hz] at hr'
    exact ⟨hz, hlz, b, len, cap, f1, hr', f2⟩
  | _ => simp only [peW, RepW]
 | er z j =>
  rw [hv] at hr
  rw [enr_er]
  cases hz : s.get z with
  | own m nl cs =>
   rw [erW_own]
   cases hlz : s.lv z with
   | false => simp only [cond_false, RepW]
   | true =>
    simp only [cond_true]
    obtain ⟨u', e', hr'⟩ := h.ent z hlz (by rw [hz]; rfl)
    obtain ⟨b, len, cap, f1, _, f2⟩ := hr (by simp [hz, hlz])
    rw [f1] at e'; cases e'
    rw [hz] at hr'
    exact ⟨hz, hlz, b, len, cap, f1, hr', f2⟩
  | _ => simp only [erW, RepW]
 | sl z l h' =>
  rw [hv] at hr
  rw [enr_sl]
  cases hz : s.get z with
  | own m nl cs =>
   rw [slW_own]
   cases hlz : s.lv z with
   | false => simp only [cond_false, RepW]
   | true =>
    simp only [cond_true]
    obtain ⟨u', e', hr'⟩ := h.ent z hlz (by rw [hz]; rfl)
    obtain ⟨a0, len, cap, f1, f2⟩ := hr (by simp [hz, hlz])
    rw [f1] at e'; cases e'
    rw [hz] at hr'
    exact ⟨hz, hlz, a0, len, cap, f1, hr', f2⟩
  | _ => simp only [slW, RepW]
 | bv z =>
  rw [hv] at hr
  rw [enr_bv]
  cases hz : s.get z with
  | bx n =>
   rw [bvW_bx]
   obtain ⟨hz1, hr⟩ := hr
   simp only [hz1, decide_true, cond_true]
   obtain ⟨b, arr, ty, e1, e2, e3, e4, e5, _⟩ := h.box hz hz1
   obtain ⟨b', arr', ty', f1, _, f3, f4⟩ := hr (by simp [hz])
   rw [e1] at f1; cases f1
   rw [e2] at f3; cases f3
   exact ⟨hz, hz1, b, arr, ty, e1, e2, e3, e4, f4, e5⟩
  | _ => simp only [bvW, RepW]
 | clo f cp =>
  rw [hv] at hr
  rw [enr_clo]
  refine ⟨hr.y rfl, ?_⟩
  obtain ⟨xs, e1, e2, hc⟩ := hr
  refine ⟨xs, e1, FzL.of_get (by simpa using e2) fun k x hk => ?_⟩
  have hk' : k < cp.length := by rw [← e2]; exact (List.getElem?_eq_some_iff.1 hk).1
  have hcp : cp[k]? = some cp[k] := List.getElem?_eq_getElem hk'
  have hx := hc k _ x hcp hk
  rw [List.getD, List.getElem?_map, hcp]
  simp only [Option.map_some, Option.getD_some]
  revert hx
  cases cp[k] with
  | t g r => intro hx; exact Fz.mono (fun _ _ => trivial) hx
  | p z =>
   intro hx
   rw [capT_p]
   cases hz : s.get (z % 1000) with
   | bx n =>
    rw [capV_bx]
    obtain ⟨b, arr, ty, f1, f2, f3, f4, f5, f6⟩ := h.box hz (by omega)
    obtain ⟨b', g1, g2⟩ := hx (by simp [hz])
    rw [f1] at g1; cases g1
    simp only [Fz]
    refine ⟨b, 0, arr.toList, by simpa using g2, fun _ => trivial, f5, fun j y hj => ?_⟩
    rw [cell_of_row w b (0 + j) arr ty (0, 0) f2]; simpa using hj
   | _ => simp [capV, Fz]
theorem RepW.toV {x : W} {u : Value} (h : RepW lo par ow tm w s x u) : x.toV.isName = false ∧ ∀ d, Rep lo par ow tm w s d x.toV u := by
 cases x with
 | t g r => exact ⟨rfl, fun _ => h⟩
 | own y m nl cs => exact ⟨rfl, fun _ _ => h.2.2.1⟩
 | pe y j m nl cs =>
  obtain ⟨_, _, b, len, cap, e1, _, e2⟩ := h
  exact ⟨rfl, fun _ _ => ⟨b, len, cap, e1, e2⟩⟩
 | er y j m nl cs =>
  obtain ⟨_, _, b, len, cap, e1, e3, e2⟩ := h
  refine ⟨rfl, fun _ _ => ⟨b, len, cap, e1, ?_, e2⟩⟩
  rcases e3.2 with h | ⟨hn, b', cap', arr, ty, xs, e, ho', _⟩
  ·cases h.1
  ·cases e; exact .inl ho'
 | sl y l q m nl cs =>
  obtain ⟨_, _, a0, len, cap, e1, _, e2⟩ := h
  exact ⟨rfl, fun _ _ => ⟨a0, len, cap, e1, e2⟩⟩
 | bv z n ts =>
  obtain ⟨_, hz, b, arr, ty, e1, e2, e3, _, e4, _⟩ := h
  exact ⟨rfl, fun _ => ⟨hz, fun _ => ⟨b, arr, ty, e1, .inl e3, e2, e4⟩⟩⟩
 | pc z v ts =>
  obtain ⟨n, b, arr, ty, _, e1, _, _, _, _, _, e2, _⟩ := h
  exact ⟨rfl, fun _ _ => ⟨b, e1, e2⟩⟩
 | clo f cp ts => exact ⟨rfl, fun _ => h.1.y rfl⟩
 | fo z k nl cs => exact ⟨rfl, fun _ => h⟩
 | tp y k => exact ⟨rfl, fun d => Rep.any d u⟩
 | ag y k ts => exact ⟨rfl, fun _ _ => h.2.2.1⟩
 | no => exact ⟨rfl, fun d => Rep.any d u⟩
theorem RepW.res {x : W} {u : Value} (h : RepW lo par ow tm w s x u) : Fz (fun _ => True) w x.res u := by
 cases x with
 | t g r => exact Fz.mono (fun _ _ => trivial) h
 | own y m nl cs => exact OwnAt.fz h.2.2.2
 | pe y j m nl cs =>
  obtain ⟨_, _, b, len, cap, _, ho, e2⟩ := h
  rcases ho.2 with h | ⟨hn, b', cap', arr, ty, xs, e, ho', hb, hs, hl, hm, ht, hx, hd⟩
  ·cases h.1
  ·cases e
   simp only [W.res, Fz]
   refine ⟨b, 0, xs, by simpa using e2, fun _ => trivial, hx.mono fun _ _ => trivial, fun k x hk => ?_⟩
   rw [cell_of_row w b (0 + k) arr ty (0, 0) hb]
   subst ht
   rw [List.getElem?_take] at hk
   split at hk
   ·simpa using hk
   ·cases hk
 | fo z k nl cs => simp only [W.res, Fz]
 | er y j m nl cs =>
  obtain ⟨_, _, b, len, cap, _, ho, e2⟩ := h
  rcases ho.2 with h | ⟨hn, b', cap', arr, ty, xs, e, ho', hb, hs, hl, hm, ht, hx, hd⟩
  ·cases h.1
  ·cases e
   simp only [W.res]
   by_cases hj : j < cs.length
   ·obtain ⟨x, e3, hf⟩ := hx.get j hj
    replace e2 := e2.row (er_lt hj (Nat.le_trans hl hm))
    rw [cell_of_row w b j arr ty (0, 0) hb] at e2
    subst ht
    rw [List.getElem?_take, if_pos hj] at e3
    have : x = u := by
     have e4 : arr[j]? = some x := by simpa using e3
     rw [e4] at e2; cases e2; rfl
    rw [← this]; exact hf.mono fun _ _ => trivial
   ·rw [List.getD, List.getElem?_eq_none (by omega)]; simp [Fz]
 | pc z v ts =>
  obtain ⟨n, b, arr, ty, _, e1, e3, _, _, _, _, e2, e4, _⟩ := h
  simp only [W.res, Fz]
  refine ⟨b, 0, arr.toList, by simpa using e2, fun _ => trivial, e4, fun k x hk => ?_⟩
  rw [cell_of_row w b (0 + k) arr ty (0, 0) e3]; simpa using hk
 | clo f cp ts => obtain ⟨_, xs, e, h2⟩ := h; simp only [W.res, Fz]; exact ⟨xs, e, h2⟩
 | sl y l q m nl cs => simp [W.res, Fz]
 | bv z n ts => obtain ⟨_, _, b, arr, ty, _, _, _, _, e4, e5⟩ := h; simp only [W.res, Fz]; exact ⟨arr.toList, by simpa using e4, e5⟩
 | tp y k => simp [W.res, Fz]
 | ag y k ts => obtain ⟨_, _, _, xs, e, _, h2⟩ := h; simp only [W.res, Fz]; exact ⟨xs, e, h2⟩
 | no => simp [W.res, Fz]
end
theorem veil_get : ∀ (cs : List T) (xs : List Value) (i : Nat), (veil cs xs)[i]? = if i < cs.length then (xs[i]?).map fun v => bif (cs.getD i .any).isAny then undef else v else none
 | [], xs, i => by simp [veil]
 | t :: ts, [], i => by simp [veil]
 | t :: ts, v :: vs, 0 => by simp [veil]
 | t :: ts, v :: vs, i + 1 => by
  simp only [veil, List.getElem?_cons_succ, veil_get ts vs i, List.length_cons, Nat.add_lt_add_iff_right, List.getD_cons_succ]
theorem veil_live {cs : List T} {xs : List Value} {i : Nat} (h : (cs.getD i .any).isAny = false) : (veil cs xs)[i]? = xs[i]? := by
 have hi : i < cs.length := by
  refine Classical.byContradiction fun hn => ?_
  rw [List.getD, List.getElem?_eq_none (by omega)] at h; cases h
 rw [veil_get, if_pos hi, h]; cases xs[i]? <;> rfl
end Go.Vc
namespace Go.Vc
open Go
def inRb (n : Int) : Bool := decide (-9223372036854775808 ≤ n) && decide (n ≤ 9223372036854775807)
def kOk1 : T → Value → Bool
 | .i n, .int .i64 m => n == m && inRb m
 | .b x, .bool y => x == y
 | .w k n, .int k' m => k == k' && n == m
 | .s (some true) [], .slice none 0 0 => true
 | _, _ => false
def kOkL : List T → List Value → Bool
 | [], [] => true
 | t :: ts, v :: vs => kOk1 t v && kOkL ts vs
 | _, _ => false
def xOk : X → Operand → Bool
 | .s n, .tmp m => n == m && n < 1000
 | .k (.a ts), .const (.agg cs) => kOkL ts cs.toList
 | .k .any, .const _ => true
 | .k (.c f []), .func g => f == g
 | .k t, .const v => kOk1 t v
 | _, _ => false
def xsOk : List X → List Operand → Bool
 | [], [] => true
 | x :: xs, y :: ys => xOk x y && xsOk xs ys
 | _, _ => false
def tyI (P : Program) (t : TypeId) : Bool := match P.underlying t with | some (.int .i64) => true | _ => false
def tyK (P : Program) (k : IntKind) (t : TypeId) : Bool := match P.underlying t with | some (.int k') => k == k' | _ => false
def tyW (P : Program) (t : TypeId) : Bool := match P.underlying t with | some (.int _) => true | _ => false
def tyB (P : Program) (t : TypeId) : Bool := match P.underlying t with | some .bool => true | _ => false
def tyS (P : Program) (t : TypeId) : Bool := match P.underlying t with | some (.slice _) => true | _ => false
def one1 (P : Program) (t : TypeId) : Bool := match P.info? t with | some i => i.size == 1 | none => false
def tyS1 (P : Program) (t : TypeId) : Bool := match P.underlying t with | some (.slice e) => one1 P e | _ => false
def tyN (P : Program) (t : TypeId) : Bool := match P.underlying t with | some (.struct _) => false | some (.array _ _) => false | some _ => true | none => false
def tyFld (P : Program) (t : TypeId) (f k : Nat) : Bool := match P.underlying t with
 | some (.struct fs) => match fs[f]? with | some fl => fl.offset == k && one1 P fl.type && tyN P fl.type | none => false
 | _ => false
def boOk : Bo → BinOp → Bool
 | .add, .add => true | .sub, .sub => true | .mul, .mul => true | .quo, .quo => true | .rem, .rem => true | .and, .and => true | .shl, .shl => true | .shr, .shr => true | .xor, .xor => true | .or, .or => true
 | .eql, .eql => true | .neq, .neq => true | .lss, .lss => true | .leq, .leq => true | .gtr, .gtr => true | .geq, .geq => true
 | .adw, .add => true | .sbw, .sub => true | .mlw, .mul => true
 | _, _ => false
def tyStr (P : Program) (t : TypeId) (n : Nat) : Bool := match P.underlying t with
 | some (.struct fs) => fs.size == n && (List.range n).all (fun i => tyFld P t i i) && (match P.info? t with | some i => (match i.zero with | some z => z.cells.size == n | none => false) | none => false)
 | _ => false
def tyStL (P : Program) (t : TypeId) (n : Nat) : Bool := match P.underlying t with
 | some (.struct _) => (match P.info? t with | some i => i.size == n | none => false)
 | _ => false
def tyZ (P : Program) (t : TypeId) : Bool := match P.underlying t with | some (.slice e) => (match P.info? e with | some i => i.zero.isSome | none => false) | _ => false
def litOk : Nat → List X → List (Nat × Operand) → Bool
 | _, [], [] => true
 | i, x :: xs, (j, y) :: ps => i == j && xOk x y && litOk (i + 1) xs ps
 | _, _, _ => false
def bldOk (zs : Array Value) : Nat → List X → List (Nat × Operand) → Bool
 | _, [], [] => true
 | _, [], _ :: _ => false
 | i, x :: xs, [] => (match zs[i]? with | some v => v.oneCell' && xOk x (.const v) | none => false) && bldOk zs (i + 1) xs []
 | i, x :: xs, (j, y) :: ps => bif j == i then xOk x y && bldOk zs (i + 1) xs ps else (match zs[i]? with | some v => v.oneCell' && xOk x (.const v) | none => false) && bldOk zs (i + 1) xs ((j, y) :: ps)
def bldChk (P : Program) (t : TypeId) (xs : List X) (ps : List (Nat × Operand)) : Bool := match P.info? t with
 | some i => (match i.zero with | some z => bldOk z.cells 0 xs ps | none => false)
 | none => false
def zOk (P : Program) (e : TypeId) (z : T) : Bool := match P.info? e with
 | some i => i.size == 1 && decide (i.bytes ≤ 64) && (match i.zero with | some zv => zv.oneCell' && kOk1 z zv | none => false)
 | none => false
theorem zOk_spec {P : Program} {e : TypeId} {z : T} (h : zOk P e z = true) : ∃ i zv, P.info? e = some i ∧ i.size = 1 ∧ i.bytes ≤ 64 ∧ i.zero = some zv ∧ zv.oneCell' = true ∧ kOk1 z zv = true := by
 unfold zOk at h; split at h
 ·rename_i i hi
  simp only [Bool.and_eq_true, beq_iff_eq, decide_eq_true_eq] at h
  obtain ⟨⟨h1, h2⟩, h3⟩ := h
  split at h3
  ·rename_i zv hz
   simp only [Bool.and_eq_true] at h3
   exact ⟨i, zv, hi, h1, h2, hz, h3.1, h3.2⟩
  ·cases h3
 ·cases h
def tyA (P : Program) (t : TypeId) : Bool := match P.underlying t with
 | some (.slice e) => (match P.info? e with
  | some i => i.size == 1 && decide (i.bytes ≤ 64) && (match i.zero with | some zv => zv.oneCell' | none => false)
  | none => false)
 | _ => false
def chkV (P : Program) : O → List X → Op → Bool
 | .mv, [x], .move y => xOk x y
 | .mv, [x], .assign y => xOk x y
 | .pick, [c, x, y], .pick c' x' y' => xOk c c' && xOk x x' && xOk y y'
 | .bin o, [x, y], .binOp b _ x' y' _ => boOk o b && xOk x x' && xOk y y'
 | .beq, [x, y], .binOp .eql t x' y' _ => tyB P t && xOk x x' && xOk y y'
 | .bne, [x, y], .binOp .neq t x' y' _ => tyB P t && xOk x x' && xOk y y'
 | .nil, [x], .binOp .eql t x' (.const (.slice none 0 0)) _ => tyS P t && xOk x x'
 | .nnil, [x], .binOp .neq t x' (.const (.slice none 0 0)) _ => tyS P t && xOk x x'
 | .not, [x], .unOp .not _ x' => xOk x x'
 | .neg, [x], .unOp .neg _ x' => xOk x x'
 | .len, [x], .call { callee := .builtin .len, args := ys, argTypes := ts } => match ys.toList, ts.toList with | [y], [t] => tyS P t && xOk x y | _, _ => false
 | .idx, [x, i], .indexAddr t x' i' => tyS1 P t && xOk x x' && xOk i i'
 | .ld, [p], .load t p' => tyN P t && xOk p p'
 | .lde, [p], .load t p' => tyN P t && xOk p p'
 | .fa k, [p], .fieldAddr t p' f => tyFld P t f k && xOk p p'
 | .fld k, [x], .field t x' f => tyFld P t f k && xOk x x'
 | .sub true true, [x, l, h], .slice t x' (some l') (some h') none => tyS1 P t && xOk x x' && xOk l l' && xOk h h'
 | .sub true false, [x, l], .slice t x' (some l') none none => tyS1 P t && xOk x x' && xOk l l'
 | .sub false true, [x, h], .slice t x' none (some h') none => tyS1 P t && xOk x x' && xOk h h'
 | .sub false false, [x], .slice t x' none none none => tyS1 P t && xOk x x'
 | .boxF, [x], .box _ x' => xOk x x'
 | .bld, xs, .build t ps => tyStr P t xs.length && bldChk P t xs ps.toList
 | .litF, xs, .buildSlice t n ps => tyS1 P t && n == xs.length && decide (n ≤ 1000) && litOk 0 xs ps.toList && tyZ P t
 | .clo f, xs, .makeFunc (.func g) first caps => f == g && first.size == 0 && xsOk xs caps.toList
 | .cloF f, xs, .makeFunc (.func g) first caps => f == g && first.size == 0 && xsOk xs caps.toList
 | .nilc, [x], .nilCheck x' => xOk x x'
 | .mn, xs, .call { callee := .builtin .min, args := ys, argTypes := _ } => xsOk xs ys.toList
 | .mx, xs, .call { callee := .builtin .max, args := ys, argTypes := _ } => xsOk xs ys.toList
 | .call f, xs, .call { callee := .value (.func g), args := ys, argTypes := _ } => f == g && xsOk xs ys.toList
 | .callC, x :: xs, .call { callee := .value y, args := ys, argTypes := _ } => xOk x y && xsOk xs ys.toList
 | .ext k, [x], .extract x' k' => k == k' && xOk x x'
 | .cap, [x], .call { callee := .builtin .cap, args := ys, argTypes := ts } => match ys.toList, ts.toList with | [y], [t] => tyS P t && xOk x y | _, _ => false
 | .boxS, [x], .box _ x' => xOk x x'
 | .lds n, [p], .load t p' => tyStL P t n && xOk p p'
 | .subp, [x, l], .slice t x' (some l') none none => tyS1 P t && xOk x x' && xOk l l'
 | .callO f _, xs, .call { callee := .value (.func g), args := ys, argTypes := _ } => f == g && xsOk xs ys.toList
 | .mkO _ z, [l, c], .makeSlice t l' c' => xOk l l' && xOk c c' && (match P.underlying t with | some (.slice e) => zOk P e z | _ => false)
 | .litO _ _, [], .buildSlice t n ps => tyS1 P t && n == 0 && ps.size == 0 && tyZ P t
 | .newO _ n, [], .alloc e => (match P.info? e with | some i => (match i.zero with | some zv => zv.cells.size == n + 1 && decide (n < 90) | none => false) | none => false)
 | .appO _, [x, e], .call { callee := .builtin .append, args := ys, argTypes := ts } => match ys.toList, ts.toList with | [x', e'], [t, t'] => t == t' && tyA P t && xOk x x' && xOk e e' | _, _ => false
 | .cvw k, [x], .convert t t' x' => tyI P t && tyK P k t' && xOk x x'
 | .cvi, [x], .convert t t' x' => tyW P t && tyI P t' && xOk x x'
 | .ub o, [x, y], .binOp b _ x' y' _ => boOk o b && xOk x x' && xOk y y'
 | .shw n, [x], .binOp .shr _ x' (.const (.int _ m)) _ => xOk x x' && m == (n : Int)
 | .mkF z, [l, c], .makeSlice t l' c' => xOk l l' && xOk c c' && (match P.underlying t with | some (.slice e) => zOk P e z | _ => false)
 | _, _, _ => false
section
variable {P : Program} {lo : Nat} {Xb : Nat → Prop} {par : Nat → Option Value} {ow : Ow} {a : Act} {w : World} {s : St}
theorem inRb_iff {n : Int} : inRb n = true ↔ inR n := by simp [inRb, inR]
theorem kOk1_sound {ok : Nat → Prop} {t : T} {v : Value} (h : kOk1 t v = true) : Fz ok w t v := by
 unfold kOk1 at h
 split at h
 ·simp only [Bool.and_eq_true, beq_iff_eq, inRb_iff] at h
  obtain ⟨rfl, h2⟩ := h
  simpa [Fz] using h2
 ·simp only [beq_iff_eq] at h; subst h; simp [Fz]
 ·simp only [Bool.and_eq_true, beq_iff_eq] at h; obtain ⟨rfl, rfl⟩ := h; simp [Fz]
 ·simp [Fz]
 ·cases h
theorem kOkL_sound {ok : Nat → Prop} : ∀ {ts : List T} {vs : List Value}, kOkL ts vs = true → FzL ok w ts vs
 | [], [], _ => by simp [FzL]
 | t :: ts, v :: vs, h => by
  simp only [kOkL, Bool.and_eq_true] at h
  simp only [FzL]
  exact ⟨v, vs, rfl, kOk1_sound h.1, kOkL_sound h.2⟩
 | [], _ :: _, h => by simp [kOkL] at h
 | _ :: _, [], h => by simp [kOkL] at h
theorem xOk_sound (hG : Gam lo Xb par ow s a.tmps w) {x : X} {y : Operand} (h : xOk x y = true) : RepW lo par ow a.tmps w s (s.look x) (a.eval y) := by
 unfold xOk at h
 split at h
 ·simp only [Bool.and_eq_true, beq_iff_eq, decide_eq_true_eq] at h
  obtain ⟨rfl, h2⟩ := h
  exact hG.look h2
 ·rename_i ts cs
  rw [look_k]
  simp only [RepW, Fz, Act.eval]
  exact ⟨cs.toList, by simp, kOkL_sound h⟩
 ·rw [look_k]; simp [RepW, Fz]
 ·simp only [beq_iff_eq] at h
  subst h
  rw [look_k]; simp [RepW, Fz, FzL, Act.eval]
 ·rw [look_k]
  exact kOk1_sound h
 ·cases h
theorem xsOk_sound (hG : Gam lo Xb par ow s a.tmps w) : ∀ {xs : List X} {ys : List Operand}, xsOk xs ys = true →
  (xs.map s.look).length = (ys.map a.eval).length ∧ ∀ (i : Nat) (x : W) (u : Value), (xs.map s.look)[i]? = some x → (ys.map a.eval)[i]? = some u → RepW lo par ow a.tmps w s x u
 | [], [], _ => by simp
 | x :: xs, y :: ys, h => by
  simp only [xsOk, Bool.and_eq_true] at h
  obtain ⟨h1, h2⟩ := xsOk_sound hG h.2
  refine ⟨by simpa using h1, fun i z u hz hu => ?_⟩
  cases i with
  | zero => simp at hz hu; subst hz; subst hu; exact xOk_sound hG h.1
  | succ i => exact h2 i z u (by simpa using hz) (by simpa using hu)
 | [], _ :: _, h => by simp [xsOk] at h
 | _ :: _, [], h => by simp [xsOk] at h
theorem xsOk_res (hG : Gam lo Xb par ow s a.tmps w) {xs : List X} {ys : List Operand} (h : xsOk xs ys = true) : FzL (fun _ => True) w ((xs.map s.look).map W.res) (ys.map a.eval) := by
 obtain ⟨h1, h2⟩ := xsOk_sound hG h
 refine FzL.of_get (by simpa using h1.symm) fun k u hk => ?_
 have hlt : k < (xs.map s.look).length := by rw [h1]; exact (List.getElem?_eq_some_iff.1 hk).1
 have := h2 k _ u (List.getElem?_eq_getElem hlt) hk
 have hlt' : k < xs.length := by simpa using hlt
 simpa [List.getD, List.getElem?_map, List.getElem?_eq_getElem hlt'] using this.res
theorem Fz.mk {ok : Nat → Prop} {g : G} {r : T} {u : Value} {tm : Array Value} (hok : ∀ b, ok b → okG lo ow g b) (h : Fz ok w r u) : (V.mk g r).isName = false ∧ ∀ d, Rep lo par ow tm w s d (V.mk g r) u := by
 cases r <;> simp only [V.mk, V.isName, Rep, true_and, implies_true]
 case i => simpa [Fz] using h
 case b => simpa [Fz] using h
 all_goals (intro _; exact Fz.mono hok h)
theorem wp_val {o : Oper} {next : Act → World → Prop} {Q : Exit → Act → World → Prop} {u : Value} (hr : (execOp a.eval o).run P w = .ok (.value u) w) (h : next (a.put o.dst u) w) : o.wp P a w next Q := by
 unfold Oper.wp; rw [hr]; exact h
end
theorem wrap_in {n : Int} (h : inR n) : IntKind.i64.wrap n = n := by
 obtain ⟨h1, h2⟩ := h
 rw [IntKind.wrap_i64]; omega
theorem inR_wrap (n : Int) : inR (IntKind.i64.wrap n) := by
 rw [IntKind.wrap_i64]; unfold inR; omega
theorem tyS_spec {P : Program} {t : TypeId} (h : tyS P t = true) : ∃ e, P.underlying t = some (.slice e) := by
 unfold tyS at h; split at h
 ·rename_i e he; exact ⟨e, he⟩
 ·cases h
theorem tyB_spec {P : Program} {t : TypeId} (h : tyB P t = true) : P.underlying t = some .bool := by
 unfold tyB at h; split at h
 ·assumption
 ·cases h
theorem tyI_spec {P : Program} {t : TypeId} (h : tyI P t = true) : P.underlying t = some (.int .i64) := by
 unfold tyI at h; split at h
 ·assumption
 ·cases h
theorem one1_spec {P : Program} {t : TypeId} (h : one1 P t = true) : ∃ i, P.info? t = some i ∧ i.size = 1 := by
 unfold one1 at h; split at h
 ·rename_i i hi; exact ⟨i, hi, by simpa using h⟩
 ·cases h
theorem tyS1_spec {P : Program} {t : TypeId} (h : tyS1 P t = true) : ∃ e i, P.underlying t = some (.slice e) ∧ P.info? e = some i ∧ i.size = 1 := by
 unfold tyS1 at h; split at h
 ·rename_i e he; obtain ⟨i, h1, h2⟩ := one1_spec h; exact ⟨e, i, he, h1, h2⟩
 ·cases h
theorem tyN_spec {P : Program} {t : TypeId} (h : tyN P t = true) (w : World) : (isAgg t).run P w = .ok false w := by
 unfold tyN at h
 split at h
 ·cases h
 ·cases h
 ·rename_i d h1 h2 hd
  simp only [isAgg, Sem.run_bind, run_underlying hd, Result.andThen_ok]
  rfl
 ·cases h
theorem tyFld_spec {P : Program} {t : TypeId} {f k : Nat} (h : tyFld P t f k = true) : ∃ fs fl i, P.underlying t = some (.struct fs) ∧ fs[f]? = some fl ∧ fl.offset = k ∧ P.info? fl.type = some i ∧ i.size = 1 ∧ tyN P fl.type = true := by
 unfold tyFld at h; split at h
 ·rename_i fs hfs
  split at h
  ·rename_i fl hfl
   simp only [Bool.and_eq_true, beq_iff_eq] at h
   obtain ⟨i, h1, h2⟩ := one1_spec h.1.2
   exact ⟨fs, fl, i, hfs, hfl, h.1.1, h1, h2, h.2⟩
  ·cases h
 ·cases h
end Go.Vc
namespace Go.Vc
open Go
theorem inR_tmod {x : Int} (y : Int) (h : inR x) : inR (x.tmod y) := by
 obtain ⟨h1, h2⟩ := h
 have habs : (x.tmod y).natAbs ≤ x.natAbs := by rw [Int.natAbs_tmod]; exact Nat.mod_le _ _
 unfold inR
 rcases Int.le_total 0 x with hx | hx
 ·have := Int.tmod_nonneg y hx; omega
 ·have h3 : 0 ≤ (-x).tmod y := Int.tmod_nonneg y (by omega)
  rw [Int.neg_tmod] at h3; omega
theorem inR_shr {x : Int} (k : Nat) (h : inR x) : inR (x / 2 ^ k) := by
 have hp : (1 : Int) ≤ 2 ^ k := by have := Int.pow_pos (n := 2) (m := k) (by omega); omega
 unfold inR at h ⊢
 by_cases hx : 0 ≤ x
 ·have h1 : 0 ≤ x / 2 ^ k := Int.ediv_nonneg hx (by omega)
  have h2 : x / 2 ^ k ≤ x := Int.ediv_le_self _ hx
  omega
 ·have h1 : x / 2 ^ k < 0 := Int.ediv_neg_of_neg_of_pos (by omega) (by omega)
  have h2 : x ≤ x / 2 ^ k := (Int.le_ediv_iff_mul_le (by omega)).2 (by
   have := Int.mul_le_mul_of_nonpos_left (show x ≤ 0 by omega) hp
   omega)
  omega
theorem run_bin {P : Program} {w : World} {o : Bo} {b : BinOp} {t : TypeId} {X Y : Operand} {x y : Int} {κ : V → Prop} (ho : boOk o b = true) (hx : inR x) (_hy : inR y) (hk : binK o x y κ) :
  ∃ r u, κ (.t .fr r) ∧ (match r with | .i n => u = .int .i64 n ∧ inR n | .b c => u = .bool c | _ => False) ∧
   (do eqGuard b t X Y (.int .i64 x) (.int .i64 y); binOp b t (.int .i64 x) (.int .i64 y) : Sem Value).run P w = .ok u w := by
 cases o <;> cases b <;> (try (simp [boOk] at ho; done)) <;> simp only [binK] at hk
 case add.add => exact ⟨.i (x + y), _, hk.2, ⟨rfl, hk.1⟩, by simp [eqGuard, binOp, Op.intArith, wrap_in hk.1]⟩
 case sub.sub => exact ⟨.i (x - y), _, hk.2, ⟨rfl, hk.1⟩, by simp [eqGuard, binOp, Op.intArith, wrap_in hk.1]⟩
 case mul.mul => exact ⟨.i (x * y), _, hk.2, ⟨rfl, hk.1⟩, by simp [eqGuard, binOp, Op.intArith, wrap_in hk.1]⟩
 case quo.quo => exact ⟨.i (x.tdiv y), _, hk.2.2, ⟨rfl, hk.2.1⟩, by simp [eqGuard, binOp, Op.intDiv, hk.1, wrap_in hk.2.1]⟩
 case rem.rem => exact ⟨.i (x.tmod y), _, hk.2, ⟨rfl, inR_tmod y hx⟩, by simp [eqGuard, binOp, Op.intDiv, hk.1]⟩
 case and.and => exact ⟨.i (andI x y), _, hk, ⟨rfl, inR_wrap _⟩, by simp only [eqGuard, binOp, Op.intBits, andI]; simp; rfl⟩
 case shl.shl =>
  obtain ⟨h1, h2, h3, h4⟩ := hk
  refine ⟨.i (x * 2 ^ y.toNat), _, h4, ⟨rfl, h3⟩, ?_⟩
  have hm : min y.toNat IntKind.i64.bits = y.toNat := by simp [IntKind.bits]; omega
  have h0 : ¬ y < 0 := by omega
  simp [eqGuard, binOp, Op.shift, h0, hm, wrap_in h3]
 case shr.shr =>
  obtain ⟨h1, h2, h4⟩ := hk
  refine ⟨.i (x / 2 ^ y.toNat), _, h4, ⟨rfl, inR_shr _ hx⟩, ?_⟩
  have hm : min y.toNat IntKind.i64.bits = y.toNat := by simp [IntKind.bits]; omega
  have h0 : ¬ y < 0 := by omega
  have hp : (0 : Int) ≤ 2 ^ y.toNat := Int.pow_nonneg (by omega)
  simp [eqGuard, binOp, Op.shift, h0, hm, Int.fdiv_eq_ediv_of_nonneg _ hp]
 case xor.xor => exact ⟨.i (xorI x y), _, hk, ⟨rfl, inR_wrap _⟩, by simp only [eqGuard, binOp, Op.intBits, xorI]; simp; rfl⟩
 case or.or => exact ⟨.i (orI x y), _, hk, ⟨rfl, inR_wrap _⟩, by simp only [eqGuard, binOp, Op.intBits, orI]; simp; rfl⟩
 case adw.add => exact ⟨.i (wrI (x + y)), _, hk, ⟨rfl, inR_wrap _⟩, by simp [eqGuard, binOp, Op.intArith, wrI]⟩
 case sbw.sub => exact ⟨.i (wrI (x - y)), _, hk, ⟨rfl, inR_wrap _⟩, by simp [eqGuard, binOp, Op.intArith, wrI]⟩
 case mlw.mul => exact ⟨.i (wrI (x * y)), _, hk, ⟨rfl, inR_wrap _⟩, by simp [eqGuard, binOp, Op.intArith, wrI]⟩
 case eql.eql => exact ⟨.b (decide (x = y)), _, hk, rfl, by simp [eqGuard, binOp, Op.intCmp]; rfl⟩
 case neq.neq =>
  refine ⟨.b (decide (x ≠ y)), _, hk, rfl, ?_⟩
  by_cases h : x = y <;> simp [eqGuard, binOp, Op.intCmp, h]
 case lss.lss => exact ⟨.b (decide (x < y)), _, hk, rfl, by simp [eqGuard, binOp, Op.intCmp]⟩
 case leq.leq => exact ⟨.b (decide (x ≤ y)), _, hk, rfl, by simp [eqGuard, binOp, Op.intCmp]⟩
 case gtr.gtr => exact ⟨.b (decide (y < x)), _, hk, rfl, by simp [eqGuard, binOp, Op.intCmp]⟩
 case geq.geq => exact ⟨.b (decide (y ≤ x)), _, hk, rfl, by simp [eqGuard, binOp, Op.intCmp]⟩
section
variable {P : Program} {lo : Nat} {Xb : Nat → Prop} {par : Nat → Option Value} {ow : Ow} {a : Act} {w : World} {s : St} {κ : V → Prop}
def Goes (P : Program) (lo : Nat) (Xb : Nat → Prop) (par : Nat → Option Value) (ow : Ow) (a : Act) (w : World) (s : St) (κ : V → Prop) (oper : Oper) : Prop :=
 ∀ (next : Act → World → Prop) (Q : Exit → Act → World → Prop),
  (∀ {ow' : Ow} v u w', κ v → Grow (fun _ => False) w w' → Gam lo Xb par ow' s a.tmps w' → v.isName = false → (∀ d, Rep lo par ow' a.tmps w' s d v u) → next (a.put oper.dst u) w') → oper.wp P a w next Q
theorem goes_val {oper : Oper} {v : V} {u : Value} (hG : Gam lo Xb par ow s a.tmps w) (hr : (execOp a.eval oper).run P w = .ok (.value u) w) (hk : κ v) (hv : v.isName = false ∧ ∀ d, Rep lo par ow a.tmps w s d v u) :
  Goes P lo Xb par ow a w s κ oper := fun _ _ K => wp_val hr (K v u w hk (Grow.refl _ _) hG hv.1 hv.2)
theorem scal_i {n : Int} (h : inR n) : (V.i n).isName = false ∧ ∀ d, Rep lo par ow a.tmps w s d (.i n) (.int .i64 n) := ⟨rfl, fun _ => by simp only [Rep, Fz]; exact ⟨trivial, h⟩⟩
theorem scal_b {x : Bool} : (V.b x).isName = false ∧ ∀ d, Rep lo par ow a.tmps w s d (.b x) (.bool x) := ⟨rfl, fun _ => by simp [Rep, Fz]⟩
theorem repI {g : G} {n : Int} {u : Value} (h : RepW lo par ow a.tmps w s (.t g (.i n)) u) : u = .int .i64 n ∧ inR n := by simpa [RepW, Fz] using h
theorem repB {g : G} {x : Bool} {u : Value} (h : RepW lo par ow a.tmps w s (.t g (.b x)) u) : u = .bool x := by simpa [RepW, Fz] using h
theorem slice_len {g : G} {nl : Option Bool} {cs : List T} {u : Value} (h : RepW lo par ow a.tmps w s (.t g (.s nl cs)) u) : ∃ a0 cap, u = .slice a0 cs.length cap ∧ cs.length ≤ maxLen := by
 simp only [RepW, Fz] at h
 rcases h with ⟨rfl, rfl, _⟩ | ⟨_, b, o, sp, cap, xs, rfl, h1, h2, _⟩
 ·exact ⟨none, 0, rfl, by simp⟩
 ·exact ⟨_, _, rfl, Nat.le_trans h1 h2⟩
theorem own_len {y m : Nat} {nl : Option Bool} {cs : List T} {u : Value} (h : RepW lo par ow a.tmps w s (.own y m nl cs) u) : ∃ a0 cap, u = .slice a0 cs.length cap ∧ cs.length ≤ maxLen := by
 obtain ⟨_, _, _, _, h⟩ := h
 rcases h with ⟨rfl, rfl, _⟩ | ⟨_, b, cap, arr, ty, xs, rfl, _, _, _, h1, h2, _⟩
 ·exact ⟨none, 0, rfl, by simp⟩
 ·exact ⟨_, _, rfl, Nat.le_trans h1 h2⟩
theorem inR_len {n : Nat} (h : n ≤ maxLen) : inR (n : Int) := by simp only [maxLen] at h; unfold inR; omega
end
end Go.Vc
namespace Go.Vc
open Go
section
variable {P : Program} {lo : Nat} {Xb : Nat → Prop} {par : Nat → Option Value} {ow : Ow} {a : Act} {w : World} {s : St} {κ : V → Prop}
theorem goes_call {oper : Oper} {f : FuncId} {vs : List Value} {ts : List T} {R : St} (hG : Gam lo Xb par ow s a.tmps w) (hr : (execOp a.eval oper).run P w = (callFunc f vs.toArray).run P w)
  (hc : CallOk P f ts R) (hv : FzL (fun _ => True) w ts vs) (hk : κ (frV R)) : Goes P lo Xb par ow a w s κ oper := by
 intro next Q K
 unfold Oper.wp
 rw [hr, hc.1]
 simp only [Oper.upon]
 refine (hc.2 w vs hv).mono ?_
 rintro e w' ⟨u, rfl, hg, hR, ow', hR'⟩
 simp only
 have hG' : Gam lo Xb par ow s a.tmps w' := hG.grow hg (fun _ _ => rfl) (fun b p hb hp => absurd (hG.base b p hp).1 (by omega))
 have okn : ∀ b, (ow' b = none ∧ w.heap.size ≤ b) ∨ w.heap.size ≤ b → okG lo ow .fr b := fun b hb => by
  have hb : w.heap.size ≤ b := by rcases hb with hb | hb; exact hb.2; exact hb
  refine ⟨?_, Nat.le_trans hG.low hb⟩
  cases h : ow b with
  | none => rfl
  | some p => exact absurd (hG.base b p h).1 (by omega)
 have okow : ∀ b p, ow' b = some p → w.heap.size ≤ b := fun b p hp => by
  rcases (hR'.base b p hp).2 with h | h
  ·exact h
  ·exact h.elim
 have gd : ∀ y, (R.get y).isAny = true ∨ ((match R.get y with | .t .fr _ => True | .own m _ _ => m < 2 | .tp _ => True | .ag _ => True | _ => False)) := by
  intro y
  clear hR' hk hc
  induction R with
  | nil => left; rfl
  | cons p R ih =>
   obtain ⟨k, v⟩ := p
   rw [get_if]
   split
   ·right; exact (hR (k, v) (by simp)).2
   ·exact ih (fun q hq => hR q (by simp [hq]))
 have ownF : ∀ {y m : Nat} {nl : Option Bool} {cs : List T} {x : Value}, m < 2 → OwnAt w.heap.size (fun _ => none) ow' w' y m nl cs x → Fz (okG lo ow .fr) w' (.s nl cs) x := by
  intro y m nl cs x hm h
  rcases h.2 with h | ⟨hn, b, cap, arr, ty, xs, e, ho, hb, hs, hl, hmx, ht, hx, hd⟩
  ·simp only [Fz]; exact .inl h
  ·simp only [Fz]
   refine .inr ⟨hn, b, 0, none, cap, xs, e, hl, hmx, fun _ => ⟨okn b (.inr (okow b _ ho)), rfl⟩, hx.mono fun b' hb' => ?_, fun k x hk => ?_⟩
   ·have : m = 0 ∨ m = 1 := by omega
    rcases this with rfl | rfl
    ·exact okn b' (.inl hb')
    ·exact okn b' (.inr (okow b' _ hb'))
   ·rw [cell_of_row w' b (0 + k) arr ty (0, 0) hb]
    subst ht
    rw [List.getElem?_take] at hk
    split at hk
    ·simpa using hk
    ·cases hk
 have frN : ∀ y x, R.lv y = true → nmv #[u] w' y = some x → Fz (okG lo ow .fr) w' (R.resN y) x := by
  intro y x hl hx
  rw [resN_eq]
  by_cases ha : (R.get y).isAny = true
  ·obtain ⟨g, e⟩ := isAny_eq ha; rw [e]; simp [resV, Fz]
  ·simp only [Bool.not_eq_true] at ha
   obtain ⟨x', e, hr⟩ := hR'.ent y hl ha
   rw [hx] at e; cases e
   have hgd := (gd y).resolve_left (by simp [ha])
   cases hv : R.get y with
   | t g r => rw [hv] at hr hgd; cases g <;> simp at hgd; exact Fz.mono (fun b hb => okn b (.inl hb)) hr
   | own m nl cs => rw [hv] at hr hgd; exact ownF hgd hr
   | al z => rw [hv] at hgd; exact hgd.elim
   | _ => simp [resV, Fz]
 refine K (frV R) u w' hk hg hG' ?_ ?_
 ·rw [frV_eq]
  cases hv : R.get 0 with
  | t g r => rw [frV'_t]; cases r <;> rfl
  | _ => rfl
 ·intro d
  rw [frV_eq]
  have hl0 : R.lv 0 = true := lv_iff.2 (.inl (by omega))
  have hn0 : nmv #[u] w' 0 = some u := by rw [nmv_slot (by omega)]; rfl
  by_cases ha : (R.get 0).isAny = true
  ·obtain ⟨g, e⟩ := isAny_eq ha; rw [e, frV'_t]; simp [V.mk, Rep, Fz]
  simp only [Bool.not_eq_true] at ha
  obtain ⟨x, e, hr⟩ := hR'.ent 0 hl0 ha
  rw [hn0] at e; cases e
  have hgd := (gd 0).resolve_left (by simp [ha])
  cases hv : R.get 0 with
  | t g r =>
   rw [hv] at hr hgd
   cases g <;> simp at hgd
   rw [frV'_t]
   exact (Fz.mk (g := .fr) (fun b hb => okn b (.inl hb)) hr).2 d
  | own m nl cs => rw [hv] at hr hgd; rw [frV'_own]; exact ownF hgd hr
  | tp k =>
   rw [hv] at hr
   obtain ⟨_, xs, e1, e2⟩ := hr
   rw [frV'_tp]
   simp only [Rep, Fz]
   refine ⟨xs, e1, ?_⟩
   have : ∀ (n j : Nat) (ys : List Value), ys.length = n → (∀ i v, ys[i]? = some v → nmv #[u] w' (0 + 1000 * (100 + (j + i))) = some v ∨ 100 ≤ j + i) → FzL (okG lo ow .fr) w' (R.cells 0 100 j n) ys := by
    intro n
    induction n with
    | zero => intro j ys hl _; simp only [cells_0, FzL]; exact List.eq_nil_of_length_eq_zero hl
    | succ n ih =>
     intro j ys hl hn
     cases ys with
     | nil => simp at hl
     | cons y ys =>
      simp only [cells_s, FzL]
      refine ⟨y, ys, rfl, ?_, ih (j + 1) ys (by simpa using hl) fun i v hi => ?_⟩
      ·have hlv : R.lv (0 + 1000 * (100 + j)) = true := by rw [lv_iff]; right; rw [show (0 + 1000 * (100 + j)) % 1000 = 0 from by omega, hv]; rfl
       rcases hn 0 y (by simp) with h0 | h0
       ·exact frN _ _ hlv (by simpa using h0)
       ·by_cases ha' : (R.get (0 + 1000 * (100 + j))).isAny = true
        ·obtain ⟨g, e⟩ := isAny_eq ha'; rw [resN_eq, e]; simp [resV, Fz]
        ·simp only [Bool.not_eq_true] at ha'
         obtain ⟨u', e', _⟩ := hR'.ent _ hlv ha'
         unfold nmv at e'
         rw [if_neg (by omega), show (0 + 1000 * (100 + j)) % 1000 = 0 from by omega] at e'
         simp [e1] at e'
         omega
      ·have := hn (i + 1) v (by simpa using hi)
       rw [show j + 1 + i = j + (i + 1) from by omega]; exact this
   refine this k 0 xs e2 fun i v hi => ?_
   by_cases h100 : 100 ≤ 0 + i
   ·exact .inr h100
   ·left
    unfold nmv
    rw [if_neg (by omega), show (0 + 1000 * (100 + (0 + i))) % 1000 = 0 from by omega]
    simp only [e1]
    simp
    exact ⟨by omega, hi⟩
  | ag k =>
   rw [hv] at hr
   obtain ⟨_, xs, e1, e2⟩ := hr
   rw [frV'_ag]
   simp only [Rep, Fz]
   refine ⟨xs, e1, ?_⟩
   have : ∀ (n j : Nat) (ys : List Value), ys.length = n → (∀ i v, ys[i]? = some v → nmv #[u] w' (0 + 1000 * (200 + (j + i))) = some v) → FzL (okG lo ow .fr) w' (R.cells 0 200 j n) ys := by
    intro n
    induction n with
    | zero => intro j ys hl _; simp only [cells_0, FzL]; exact List.eq_nil_of_length_eq_zero hl
    | succ n ih =>
     intro j ys hl hn
     cases ys with
     | nil => simp at hl
     | cons y ys =>
      simp only [cells_s, FzL]
      refine ⟨y, ys, rfl, ?_, ih (j + 1) ys (by simpa using hl) fun i v hi => ?_⟩
      ·have hlv : R.lv (0 + 1000 * (200 + j)) = true := by rw [lv_iff]; right; rw [show (0 + 1000 * (200 + j)) % 1000 = 0 from by omega, hv]; rfl
       exact frN _ _ hlv (by simpa using hn 0 y (by simp))
      ·have := hn (i + 1) v (by simpa using hi)
       rw [show j + 1 + i = j + (i + 1) from by omega]; exact this
   refine this k 0 xs e2 fun i v hi => ?_
   unfold nmv
   rw [if_neg (by omega), show (0 + 1000 * (200 + (0 + i))) % 1000 = 0 from by omega]
   simp only [e1]
   simp
   exact hi
  | al z => rw [hv] at hgd; exact hgd.elim
  | bx k => rw [hv] at hgd; exact hgd.elim
  | pc z => rw [hv] at hgd; exact hgd.elim
  | pe z j => rw [hv] at hgd; exact hgd.elim
  | er z j => rw [hv] at hgd; exact hgd.elim
  | sl z l h => rw [hv] at hgd; exact hgd.elim
  | bv z => rw [hv] at hgd; exact hgd.elim
  | clo f cp => rw [hv] at hgd; exact hgd.elim
  | fo z k nl cs => rw [hv] at hgd; exact hgd.elim
end
end Go.Vc
