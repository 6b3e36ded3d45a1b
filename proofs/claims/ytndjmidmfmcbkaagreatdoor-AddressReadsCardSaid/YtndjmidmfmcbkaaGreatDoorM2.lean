
/- Own texts, put together: A15 A27 A16 A17 A18 A19 A28 A20 A21. -/
import Derived.Test.YtndjmidmfmcbkaaGreatDoorM1
import Derived.Lib.SliceRun
import Derived.Orders
/- The small language's programs: their meaning (awp), and the check that one is what a translated body says. -/
namespace Go.Proofs.YtndjmidmfmcbkaaGreatDoor
set_option linter.unusedVariables false
set_option linter.unusedSimpArgs false
set_option linter.defProp false

inductive IC where
  | skip
  | reg (ops : List IOper)
  | drg (ops : List IOper)
  | seq (a b : IC)
  | cond (c : Opd) (t e : IC)
  | block (id : Nat) (b : IC)
  | loop (b : IC)
  | exit (id : Nat)
  | ret
  | cut (b : IC)
  | dead

/-- Slots may be forgotten. -/
def Zb (a b : AV) : Prop :=
  match b with
  | .any => True
  | b => a = b
def Za : List AV → List AV → Prop
  | [], [] => True
  | a :: as, b :: bs => Zb a b ∧ Za as bs
  | _, _ => False
/-- Objects may be forgotten. -/
def Zc : Objs → Objs → Prop
  | [], _ => True
  | (k, a) :: r, L => Zar L k = some a ∧ Zc r L

def Zf (fr : List AV) (d : Option Nat) (r : AV) : List AV :=
  match d with
  | some d => fr.set d r
  | none => fr

/-- Nothing speaks of a slot's object. -/
def Zal (d : Nat) (fr : List AV) (L : Objs) : Prop := fr.map (·.kill (.l d)) = fr ∧ Zat (.l d) L = L
/-- The place of an object that is still to be made. -/
def Zam : AO := .row [] 0 0 true

def Zd (d : Option Nat) (fr : List AV) (L : Objs) : IOp → Option (Prop × List AV × Objs)
  | .nilr e z => match d with
    | some d => some (True, (fr.map (·.kill (.l d))).set d (.row (.l d)), Zau L (.l d) (.row [] e z true))
    | none => none
  | .alc t zero => match d with
    | some d => some (True, (fr.map (·.kill (.l d))).set d (.adr (.l d) 0), Zau L (.l d) (.box (zero.map .p) t))
    | none => none
  | .box t x => match d, (rd fr x).un with
    | some d, (c, .p v) => if Zz (Zy v) = true then some (c, (fr.map (·.kill (.l d))).set d (.adr (.l d) 0), Zau L (.l d) (.box ((Zy v).map .p) t)) else none
    | some d, (c, .row k) => some (c, (fr.map (·.kill (.l d))).set d (.adr (.l d) 0), Zau L (.l d) (.box [(AV.row k).kill (.l d)] t))
    | _, _ => none
  | .st sz p x => match (rd fr p).un, (rd fr x).un with
    | (cp, .adr k o), (cx, .p v) => match Zar L k with
      | some (.box cs bt) => if o + sz ≤ cs.length ∧ (Zy v).length = sz ∧ Zz (Zy v) = true then some (cp ∧ cx, fr, Zas L k (.box (Zab cs o ((Zy v).map .p)) bt)) else none
      | _ => none
    | (cp, .adr k o), (cx, .row k') => match Zar L k with
      | some (.box cs bt) => if o + 1 ≤ cs.length ∧ sz = 1 then some (cp ∧ cx, fr, Zas L k (.box (Zab cs o [.row k']) bt)) else none
      | _ => none
    | (cp, .adr k o), (cx, .mp k') => match Zar L k, Zar L k' with
      | some (.box cs bt), some (.map ..) => if o + 1 ≤ cs.length ∧ sz = 1 then some (cp ∧ cx, fr, Zas L k (.box (Zab cs o [.mp k']) bt)) else none
      | _, _ => none
    | (cp, .rad k z i o), (cx, .p v) => match Zar L k with
      | some (.row es e z' ap) => if z' = z ∧ o + sz ≤ z ∧ (Zy v).length = sz ∧ Zz (Zy v) = true then some (cp ∧ cx ∧ i < es.length, fr, Zas L k (.row (es.set i (Zaa (es.getD i []) o ((Zy v).map wk1))) e z ap)) else none
      | _ => none
    | _, _ => none
  | .app e z by_ x y => match d, (rd fr x).un, Zv L (rd fr y).un.2 with
    | some d, (cx, .row (.l i)), some (z2, es2) => match Zar L (.l i) with
      | some (.row es e' z' true) => if e' = e ∧ z' = z ∧ z2 = z then some (cx ∧ (rd fr y).un.1 ∧ (es.length + es2.length) * by_ ≤ 140737488355328, (fr.map (·.kill (.l i))).set d (.row (.l i)), Zau L (.l i) (.row (es ++ es2) e z true)) else none
      | _ => none
    | some d, (cx, .p (.nl _)), some (z2, es2) => if z2 = z then some (cx ∧ (rd fr y).un.1 ∧ es2.length * by_ ≤ 140737488355328, (fr.map (·.kill (.l d))).set d (.row (.l d)), Zau L (.l d) (.row es2 e z true)) else none
    | _, _, _ => none
  | .bsr e z parts => match d, Zan fr z parts with
    | some d, some (c, es) => some (c, (fr.map (·.kill (.l d))).set d (.row (.l d)), Zau L (.l d) (.row es e z true))
    | _, _ => none
  | .s2b e x => match d, (rd fr x).un with
    | some d, (c, .p (.str l)) => some (c ∧ l.length ≤ 140737488355328, (fr.map (·.kill (.l d))).set d (.row (.l d)), Zau L (.l d) (.row (l.map fun q => [.int .u8 (q.toNat : Nat)]) e 1 false))
    | _, _ => none
  | .mks e z by_ zero x y => match d, (rd fr x).un, (rd fr y).un with
    | some d, (cx, .p (.int _ n)), (cy, .p (.int _ c)) => some (cx ∧ cy ∧ 0 ≤ n ∧ n ≤ c ∧ c * by_ ≤ 140737488355328, (fr.map (·.kill (.l d))).set d (.row (.l d)), Zau L (.l d) (.row (List.replicate n.toNat (zero.map wk1)) e z true))
    | _, _, _ => none
  | .apz e z by_ zero x y => match d, (rd fr x).un, (rd fr y).un with
    | some d, (cx, .p (.nl _)), (cy, .p (.int _ n)) => some (cx ∧ cy ∧ 0 < n ∧ n * by_ ≤ 140737488355328, (fr.map (·.kill (.l d))).set d (.row (.l d)), Zau L (.l d) (.row (List.replicate n.toNat (zero.map wk1)) e z true))
    | _, _, _ => none
  | .trn z x y => match d, (rd fr x).un, (rd fr y).un with
    | some d, (cx, .row (.l i)), (cy, .p (.int _ h)) => match Zar L (.l i) with
      | some (.row es e z' ap) => if z' = z ∧ ap = true then some (cx ∧ cy ∧ 0 ≤ h ∧ h ≤ es.length, (fr.map (·.kill (.l i))).set d (.row (.l i)), Zau L (.l i) (.row (es.take h.toNat) e z true)) else none
      | _ => none
    | _, _, _ => none
  | .mkm kt et => match d with
    | some d => some (True, (fr.map (·.kill (.l d))).set d (.mp (.l d)), Zau L (.l d) (.map [] kt et))
    | none => none
  | .mpu m k v => match d, (rd fr m).un, (rd fr k).un, (rd fr v).un with
    | none, (cm, .mp q), (ck, .p (.str s)), (cv, .p x) => match Zar L q with
      | some (.map kv kt et) => some (cm ∧ ck ∧ cv, fr, Zas L q (.map (mpS kv s x) kt et))
      | _ => none
    | _, _, _, _ => none
  | .alcd t zero => match d with
    | some d => some (Zal d fr L ∧ Zar L (.l d) = some Zam, fr.set d (.adr (.l d) 0), Zas L (.l d) (.box (zero.map .p) t))
    | none => none
  | .bsrd e z parts => match d, Zan fr z parts with
    | some d, some (c, es) => some ((Zal d fr L ∧ Zar L (.l d) = some Zam) ∧ c, fr.set d (.row (.l d)), Zas L (.l d) (.row es e z true))
    | _, _ => none
  | .stg sz p x => match (rd fr p).un, (rd fr x).un with
    | (cp, .adr k o), (cx, .ag l) => match Zar L k with
      | some (.box cs bt) => if o + sz ≤ cs.length ∧ l.length = sz then some (cp ∧ cx, fr, Zas L k (.box (Zab cs o (l.map Zag)) bt)) else none
      | _ => none
    | _, _ => none
  | op => (Ze fr L op).map fun q => (q.1, Zf fr d q.2, L)

def Zh (want : Bool) : AV → Option Bool
  | .p (.bool b) => some (b == want)
  | .g c a => (Zh want a).map (c && ·)
  | _ => none
def Zg (fr : List AV) (s : Nat) (want : Bool) : Option Bool := Zh want (fr.getD s .any)

def Zl (fr : List AV) : List Opd → Prop
  | [] => True
  | x :: r => (rd fr x).un.1 ∧ Zl fr r
def Zm (fr : List AV) (args : List Opd) : List AV := args.map fun x => (rd fr x).un.2

def Zak (L L' : Objs) : List (PV ⊕ Key) → Bool
  | [] => true
  | .inl _ :: r => Zak L L' r
  | .inr k :: r => (Zar L k).isSome && (Zar L' k).isSome && Zak L L' r
/-- A result: a plain value, or a fresh row. -/
inductive RV where
  | p (x : PV)
  | fr (es : List (List PV)) (e : TypeId) (z : Nat)

/-- How a result lies in the world behind the call: U: what it must not touch; n: the blocks below n are older. -/
def RVok (w : World) (U : Nat → Prop) (n : Nat) : RV → Value → Prop
  | .p x, v => PRep w U x v
  | .fr es e z, v => ∃ vs, RowOk w e z true v es.length vs ∧ (∀ u ∈ vs, u.oneCell' = true) ∧ PRepL w (fun b => U b ∨ blk v = some b) es.flatten vs ∧ (∀ x ∈ es, x.length = z) ∧ ∀ b, blk v = some b → n ≤ b

/-- The block that a fresh row takes. -/
def RV.own : RV → Value → Nat → Prop
  | .p _, _, _ => False
  | .fr .., v, b => blk v = some b

/-- An object that a caller lends: a variable with plain cells, or a row. -/
inductive OS where
  | box (t : TypeId) (cs : List PV)
  | row (e z : Nat) (es : List (List PV))
def OS.ao : OS → AO
  | .box t cs => .box (cs.map .p) t
  | .row e z es => .row es e z true
def ObjAt (w : World) (U : Nat → Prop) (v : Value) : OS → Prop
  | .box t cs => ∃ (b : Nat) (vs : List Value), v = .pointer (some ⟨b, 0, none⟩) ∧ w.heap[b]? = some (.cells vs.toArray t (0, 0)) ∧ (∀ u ∈ vs, u.oneCell' = true) ∧ PRepL w U cs vs
  | .row e z es => ∃ vs : List Value, RowOk w e z true v es.length vs ∧ (∀ u ∈ vs, u.oneCell' = true) ∧ PRepL w U es.flatten vs ∧ ∀ x ∈ es, x.length = z

theorem ObjAt.ok {w : World} {U : Nat → Prop} {ι : Key → Value} {k : Key} {os : OS} (h : ObjAt w U (ι k) os) : ObjOk w U ι k os.ao := by
  cases os with
  | box t cs =>
    obtain ⟨b, vs, e1, e2, e3, e4⟩ := h
    refine ⟨b, vs, e1, e2, by simpa using e4.length, e3, fun j x hx => ?_⟩
    rw [List.getElem?_map, Option.map_eq_some_iff] at hx
    obtain ⟨y, hy, rfl⟩ := hx
    exact e4.get hy
  | row e z es => exact h
theorem ObjAt.of {w : World} {U : Nat → Prop} {ι : Key → Value} {k : Key} {os : OS} (h : ObjOk w U ι k os.ao) : ObjAt w U (ι k) os := by
  cases os with
  | box t cs =>
    obtain ⟨b, vs, e1, e2, e3, e4, e5⟩ := h
    refine ⟨b, vs, e1, e2, e4, PRepL.of_get (by simpa using e3) (fun j x u hx hu => ?_)⟩
    obtain ⟨u', hu', hr'⟩ := e5 j (.p x) (by rw [List.getElem?_map, hx]; rfl)
    rw [hu'] at hu
    cases hu
    exact hr'
  | row e z es => exact h
theorem ObjAt.mono {w w' : World} {U U' : Nat → Prop} {v : Value} {os : OS} (hk : Keeps w w' U U') (hb : ∀ b, blk v = some b → w'.heap[b]? = w.heap[b]?) (h : ObjAt w U v os) : ObjAt w' U' v os := by
  cases os with
  | box t cs =>
    obtain ⟨b, vs, e1, e2, e3, e4⟩ := h
    exact ⟨b, vs, e1, by rw [hb b (by rw [e1]; rfl)]; exact e2, e3, PRepL.mono hk _ _ e4⟩
  | row e z es =>
    obtain ⟨vs, h1, h2, h3, h4⟩ := h
    refine ⟨vs, ⟨h1.1, ?_⟩, h2, PRepL.mono hk _ _ h3, h4⟩
    rcases h1.2 with g1 | ⟨g, cap, cur, fz, g1, g2, rest⟩
    · exact .inl g1
    · exact .inr ⟨g, cap, cur, fz, g1, by rw [hb g (by rw [g1]; rfl)]; exact g2, rest⟩

/-- A call that may change one object (bk: its key and what it holds). -/
def GC (P : Program) (E : Envt) (f : FuncId) (as : List AV) (L : Objs) (bk : Option (Key × OS)) (post : RV → OS → Prop) : Prop :=
  ∀ w X ι vs, Sim w X L ι → (∀ b, X b → b < w.heap.size ∧ ¬ Own L ι b) → E.ok w → (∀ b, E.bl b → b < w.heap.size ∧ ¬ Own L ι b) → ARepL w (fun b => Own L ι b ∨ X b) ι as vs →
    Calls P f vs.toArray w fun e w' => ∃ v r os', e = .returned v ∧ post r os' ∧ RVok w' (fun b => Own L ι b ∨ X b) w.heap.size r v ∧
      (match bk with
       | none => Grow w w' (fun _ => False)
       | some (k, _) => Grow w w' (Old L ι k) ∧ ObjAt w' (fun b => (Own L ι b ∨ X b) ∨ r.own v b) (ι k) os')

def putB (L : Objs) (bk : Option (Key × OS)) (os' : OS) : Objs :=
  match bk with
  | none => L
  | some (k, _) => Zas L k os'.ao
def hasB (L : Objs) (bk : Option (Key × OS)) : Prop :=
  match bk with
  | none => True
  | some (k, os) => Zar L k = some os.ao
def Zbe (d : Option Nat) (bk : Option (Key × OS)) : Prop :=
  match bk, d with
  | some (k, _), some d => k ≠ .l d
  | _, _ => True
def resK (d : Option Nat) (fr : List AV) (L : Objs) (K : List AV → Objs → Prop) : RV → Prop
  | .p x => K (Zf fr d (.p x)) L
  | .fr es e z => match d with
    | some d => K ((fr.map (·.kill (.l d))).set d (.row (.l d))) (Zau L (.l d) (.row es e z true))
    | none => K fr L

def CallOp (P : Program) (E : Envt) (f : FuncId) (as : List AV) (L : Objs) (d : Option Nat) (fr : List AV) (K : List AV → Objs → Prop) : Prop :=
  (∃ φ : PV → Prop, PureC P E f as L φ ∧ ∀ x, φ x → K (Zf fr d (.p x)) L) ∨
  (∃ bk post, GC P E f as L bk post ∧ hasB L bk ∧ Zbe d bk ∧ ∀ r os', post r os' → resK d fr (putB L bk os') K r) ∨
  ∃ i, Call P E f as L i (fun r L' => K (Zf (fr.map (·.kill (.l i))) d r) L')

/-- A call in a region that draws its order: it turns one variable, and it has an outcome. -/
def DCallOp (b : Bool) (P : Program) (E : Envt) (f : FuncId) (as : List AV) (L : Objs) (d : Option Nat) (fr : List AV) (K : List AV → Objs → Prop) : Prop :=
  ∃ (k : Key) (t : TypeId) (cs : List PV) (post : PV → List PV → Prop), (∀ L', Zar L' k = some (.box (cs.map .p) t) → GC P E f as L' (some (k, .box t cs)) (fun r os' => ∃ x cs', r = .p x ∧ os' = .box t cs' ∧ post x cs')) ∧ Zar L k = some (.box (cs.map .p) t) ∧ (∀ e, d = some e → k ≠ .l e) ∧ (b = true → ∃ j, k = .b j) ∧ (∃ x cs', post x cs') ∧
    ∀ x cs', post x cs' → K (Zf fr d (.p x)) (Zas L k (.box (cs'.map .p) t))

def CallG (c0 : Bool) (P : Program) (E : Envt) (f : FuncId) (as : List AV) (L : Objs) (d : Option Nat) (fr : List AV) (K : List AV → Objs → Prop) : Prop :=
  (∃ x : PV, (c0 = true → PureC P E f as L (· = x)) ∧ K (Zf fr d (.g c0 (.p x))) L) ∨ ((c0 = true → CallOp P E f as L d fr K) ∧ (c0 = false → K (Zf fr d (.g c0 .any)) L))

def Zap (fr : List AV) (L : Objs) (x : Opd) : Option (Key × Nat × List (List PV)) :=
  match (rd fr x).un.2 with
  | .row k => match Zar L k with
    | some (.row es _ z _) => some (k, z, es)
    | _ => none
  | _ => none

def Zaq (fr : List AV) (x : Opd) : Option (FuncId × List AV) :=
  match (rd fr x).un with
  | (_, .fn f ks) => some (f, ks.map fun k => .adr k 0)
  | (_, .p (.clo f ps)) => some (f, ps.map .p)
  | _ => none

def Zk (L : Objs) : List AV → Bool
  | [] => true
  | .adr k _ :: r => (match Zar L k with | some (.box _ _) => true | _ => false) && Zk L r
  | _ :: r => Zk L r
def fnB (P : Program) (f : FuncId) : Bool :=
  match P.funcs[f]? with
  | some fn => fn.body.isSome && fn.name != "runtime.NumGoroutine"
  | none => false

/-- Operations that may be left undefined where their guard is false. -/
def plainOp : IOp → Bool
  | .ldl .. | .dcall .. | .dead | .isn _ | .hole _ | .alcd .. | .bsrd .. => false
  | _ => true

def awpOps (P : Program) (E : Envt) (X : List PV) : List IOper → List AV → Objs → (List AV → Objs → Prop) → Prop
  | [], fr, L, K => K fr L
  | ⟨d, op, gd⟩ :: is, fr, L, K =>
    match gd with
    | none => match op with
      | .call f args => Zl fr args ∧ CallOp P E f (Zm fr args) L d fr (fun fr L => awpOps P E X is fr L K)
      | .dcall b f args => Zl fr args ∧ DCallOp b P E f (Zm fr args) L d fr (fun fr L => awpOps P E X is fr L K)
      | .pcall n f args => (Zl fr args ∧ PureC P E f (Zm fr args) L (· = X.getD n (.bool false))) ∧ awpOps P E X is (Zf fr d (.p (X.getD n (.bool false)))) L K
      | .callv g args => match Zaq fr g with
        | some (f, ks) => (rd fr g).un.1 ∧ fnB P f = true ∧ Zk L ks = true ∧ Zl fr args ∧ CallOp P E f (Zm fr args ++ ks) L d fr (fun fr L => awpOps P E X is fr L K)
        | none => False
      | .fz x => match Zap fr L x with
        | some (k, z, es) => awpOps P E X is (fr.map (·.thaw k z es)) (Zav k z es L) K
        | none => awpOps P E X is fr L K
      | .isn x => match Zv L (rd fr x).un.2 with
        | some (_, es) => (rd fr x).un.1 ∧ ∀ b : Bool, (b = true → es = []) → awpOps P E X is (Zf fr d (.p (.bool b))) L K
        | none => False
      | .hole e => awpOps P E X is (fr.map (·.kill (.l e))) (Zau L (.l e) Zam) K
      | op => match Zd d fr L op with
        | some (c, fr', L') => c ∧ awpOps P E X is fr' L' K
        | none => False
    | some (s, want) => match Zg fr s want with
      | some c0 => match op with
        | .call f args => (c0 = true → Zl fr args) ∧ CallG c0 P E f (Zm fr args) L d fr (fun fr L => awpOps P E X is fr L K)
        | .pcall n f args => (c0 = true → Zl fr args ∧ PureC P E f (Zm fr args) L (· = X.getD n (.bool false))) ∧ awpOps P E X is (Zf fr d (.g c0 (.p (X.getD n (.bool false))))) L K
        | .callv g args => match Zaq fr g with
          | some (f, ks) => (fnB P f = true ∧ Zk L ks = true) ∧ (c0 = true → (rd fr g).un.1 ∧ Zl fr args) ∧ CallG c0 P E f (Zm fr args ++ ks) L d fr (fun fr L => awpOps P E X is fr L K)
          | none => c0 = false ∧ awpOps P E X is (Zf fr d (.g c0 .any)) L K
        | op => match Ze fr L op with
          | some (c, r) => (c0 = true → c) ∧ awpOps P E X is (Zf fr d (.g c0 r)) L K
          | none => plainOp op = true ∧ c0 = false ∧ awpOps P E X is (Zf fr d (.g c0 .any)) L K
      | none => False

def BrQ (b : Bool) (x y : Prop) : Prop := (b = true → x) ∧ (b = false → y)

def awp (P : Program) (E : Envt) : IC → List AV → Objs → AQ → Prop
  | .skip, fr, L, Q => Q .normal fr L
  | .reg ops, fr, L, Q => awpOps P E [] ops fr L (Q .normal)
  | .drg ops, fr, L, Q => ∃ X, awpOps P E X ops fr L (Q .normal)
  | .seq x y, fr, L, Q => awp P E x fr L (thenQ (fun fr L => awp P E y fr L Q) Q)
  | .cond c x y, fr, L, Q => match (rd fr c) with
    | .p (.bool b) => BrQ b (awp P E x fr L Q) (awp P E y fr L Q)
    | _ => False
  | .block id x, fr, L, Q => awp P E x fr L (blockQ id Q)
  | .loop x, fr, L, Q => ∃ (I : Nat → List AV → Objs → Prop), (∃ n fr' L', Za fr fr' ∧ Zc L' L ∧ I n fr' L') ∧ ∀ n fr L, I n fr L → awp P E x fr L (thenQ (fun fr L => ∃ m fr' L', m < n ∧ Za fr fr' ∧ Zc L' L ∧ I m fr' L') Q)
  | .exit id, fr, L, Q => Q (.exit id) fr L
  | .ret, fr, L, Q => Q .ret fr L
  | .cut x, fr, L, Q => ∃ fr' L', Za fr fr' ∧ Zc L' L ∧ awp P E x fr' L' Q
  | .dead, _, _, _ => False

def strT (P : Program) (t : TypeId) : Bool := match P.underlying t with | some .string => true | _ => false
def boolT (P : Program) (t : TypeId) : Bool := match P.underlying t with | some .bool => true | _ => false
def slT (P : Program) (t : TypeId) : Option TypeId := match P.underlying t with | some (.slice e) => some e | _ => none
def intT (P : Program) (t : TypeId) : Option IntKind := match P.underlying t with | some (.int k) => some k | _ => none

def chkOp (P : Program) : Op → IOp → Bool
  | .move x, .mov y => okOpd x y
  | .assign x, .mov y => okOpd x y
  | .move x, .nilr e z => okOpd x (.c (.nl z))
  | .assign x, .nilr e z => okOpd x (.c (.nl z))
  | .pick c x y, .pick c' x' y' => okOpd c c' && okOpd x x' && okOpd y y'
  | .binOp op t x y _, .bin op' x' y' => op == op' && okOpd x x' && okOpd y y'
  | .binOp op t x y _, .bnb op' x' y' => op == op' && okOpd x x' && okOpd y y' && boolT P t
  | .binOp op t x y _, .eqa neg ks x' y' => op == (if neg then .neq else .eql) && okOpd x x' && okOpd y y' && flatT P t ks
  | .unOp .not t x, .not x' => okOpd x x'
  | .unOp .neg t x, .neg x' => okOpd x x'
  | .call { callee := .builtin .len, args := args, argTypes := ts }, .len x' => match args.toList, ts.toList with
    | [x], [t] => okOpd x x' && (slT P t).isSome
    | _, _ => false
  | .call { callee := .builtin .len, args := args, argTypes := ts }, .sln x' => match args.toList, ts.toList with
    | [x], [t] => okOpd x x' && strT P t
    | _, _ => false
  | .call { callee := .builtin .max, args := args, argTypes := ts }, .mx x' y' => match args.toList with
    | [x, y] => okOpd x x' && okOpd y y'
    | _ => false
  | .call { callee := .builtin .min, args := args, argTypes := ts }, .mn x' y' => match args.toList with
    | [x, y] => okOpd x x' && okOpd y y'
    | _ => false
  | .index t x i, .idx x' i' => okOpd x x' && okOpd i i' && strT P t
  | .slice t x lo hi none, .ssl x' lo' hi' => okOpd x x' && okOpt lo lo' && okOpt hi hi' && strT P t
  | .slice t x lo hi none, .vsl z x' lo' hi' => okOpd x x' && okOpt lo lo' && okOpt hi hi' && (match slT P t with | some e => sizeB P e z | none => false)
  | .indexAddr t x i, .ixa z x' i' => okOpd x x' && okOpd i i' && (match slT P t with | some e => sizeB P e z | none => false)
  | .fieldAddr s x f, .fla off x' => okOpd x x' && (match P.underlying s with
    | some (.struct fs) => match fs[f]? with
      | some fd => fd.offset == off && decide (0 < P.cellsOf fd.type)
      | none => false
    | _ => false)
  | .field s x f, .fld off sz ag x' => okOpd x x' && (match P.underlying s with
    | some (.struct fs) => match fs[f]? with
      | some fd => fd.offset == off && sizeB P fd.type sz && aggB P fd.type ag && (ag || sz == 1)
      | none => false
    | _ => false)
  | .load t x, .ld sz ag x' => okOpd x x' && sizeB P t sz && aggB P t ag && (ag || sz == 1)
  | .extract x i, .ext i' x' => okOpd x x' && i == i'
  | .build t parts, .bld zero parts' => zeroB P t zero && (match P.underlying t with
    | some (.struct fs) => okParts P ((fs.map fun f => (f.offset, P.cellsOf f.type))[·]?) zero.length parts.toList parts' && (fs.toList.all fun f => (P.info? f.type).isSome)
    | _ => false)
  | .convert s d x, .cvi k x' => okOpd x x' && (P.underlying s).isSome && intT P d == some k
  | .convert s d x, .cvs x' => okOpd x x' && (intT P s).isSome && strT P d
  | .convert s d x, .b2s x' => okOpd x x' && strT P d && (match slT P s with | some e => intT P e == some .u8 | none => false)
  | .convert s d x, .s2b e x' => okOpd x x' && (P.underlying s).isSome && slT P d == some e && intT P e == some .u8
  | .buildSlice t n parts, .bsl z parts' => (match slT P t with | some e => sizeB P e z && ((P.info? e).bind (·.zero)).isSome | none => false) && parts.toList.length == n && decide (n * z ≤ 16777216) && okDense 0 parts.toList parts'
  | .buildSlice t n parts, .bsr e z parts' => slT P t == some e && sizeB P e z && ((P.info? e).bind (·.zero)).isSome && parts.toList.length == n && decide (n * z ≤ 16777216) && decide (n ≤ 16777216) && okDense 0 parts.toList parts'
  | .nilCheck x, .nck x' => okOpd x x'
  | .makeFunc (.func f) first caps, .mkf f' caps' => f == f' && first.toList.isEmpty && okOpds caps.toList caps'
  | .alloc t, .alc t' zero => t == t' && zeroB P t zero
  | .box t x, .box t' x' => t == t' && okOpd x x'
  | .store t p x, .st sz p' x' => okOpd p p' && okOpd x x' && sizeB P t sz
  | .call { callee := .builtin .append, args := args, argTypes := ts }, .app e z by_ x' y' => match args.toList, ts.toList with
    | [x, y], [t, t'] => t == t' && okOpd x x' && okOpd y y' && slT P t == some e && appB P e z by_
    | _, _ => false
  | .makeSlice t x y, .mks e z by_ zero x' y' => okOpd x x' && okOpd y y' && slT P t == some e && appB P e z by_ && zeroB P e zero
  | .call { callee := .value (.func f), args := args, argTypes := ts }, .call f' args' => f == f' && fnB P f && okOpds args.toList args'
  | .call { callee := .value (.func f), args := args, argTypes := ts }, .pcall _ f' args' => f == f' && fnB P f && okOpds args.toList args'
  | .call { callee := .value (.tmp g), args := args, argTypes := ts }, .callv (.t g') args' => g == g' && okOpds args.toList args'
  | .call { callee := .builtin .cap, args := args, argTypes := ts }, .cap0 x' => match args.toList, ts.toList with
    | [x], [t] => okOpd x x' && (slT P t).isSome
    | _, _ => false
  | .slice t x none (some hi) none, .vsn x' hi' => okOpd x x' && okOpd hi hi' && (match slT P t with | some e => (P.info? e).isSome | none => false)
  | .slice t x none (some hi) none, .trn z x' hi' => okOpd x x' && okOpd hi hi' && (match slT P t with | some e => sizeB P e z | none => false)
  | .call { callee := .builtin .append, args := args, argTypes := ts }, .apz e z by_ zero x' y' => match args.toList, ts.toList with
    | [x, y], [t, t'] => okOpd x x' && okOpd y y' && slT P t == some e && (intT P t').isSome && appB P e z by_ && zeroB P e zero
    | _, _ => false
  | .makeMap t none, .mkm kt et => match P.underlying t with
    | some (.map kt' et') => kt' == kt && et' == et
    | _ => false
  | .mapUpdate t m k x, .mpu m' k' x' => okOpd m m' && okOpd k k' && okOpd x x' && (match P.underlying t with
    | some (.map kt _) => strT P kt
    | _ => false)
  | .insert t m k x, .mpu m' k' x' => okOpd m m' && okOpd k k' && okOpd x x' && (match P.underlying t with
    | some (.map kt _) => strT P kt
    | _ => false)
  | .lookup t m k ok, .mpl ok' zero m' k' => ok == ok' && okOpd m m' && okOpd k k' && (match P.underlying t with
    | some (.map kt et) => strT P kt && zero1B P et zero
    | _ => false)
  | .call { callee := .builtin .len, args := args, argTypes := ts }, .mpn x' => match args.toList, ts.toList with
    | [x], [t] => okOpd x x' && (match P.underlying t with | some (.map ..) => true | _ => false)
    | _, _ => false
  | .build t parts, .bldg zero parts' => zeroB P t zero && (match P.underlying t with
    | some (.struct fs) => okParts P ((fs.map fun f => (f.offset, P.cellsOf f.type))[·]?) zero.length parts.toList parts' && (fs.toList.all fun f => (P.info? f.type).isSome)
    | _ => false)
  | .load t x, .ldg sz x' => okOpd x x' && sizeB P t sz && aggB P t true
  | .store t p x, .stg sz p' x' => okOpd p p' && okOpd x x' && sizeB P t sz
  | .binOp op t x y _, .isn x' => op == .eql && okOpd x x' && okOpd y (.c (.nl 0)) && (slT P t).isSome
  | _, _ => false

def isSt : IOp → Bool
  | .st .. => true
  | .stg .. => true
  | _ => false

def chkOper0 (P : Program) (ops : Array Oper) (o : Oper) (i : IOper) : Bool :=
  o.dst == i.dst && chkOp P o.op i.op && (!isSt i.op || i.dst == none) &&
  (match o.guard, i.guard with
   | none, none => true
   | some (j, w), some (s, w') => w == w' && (ops[j]?).bind (·.dst) == some s
   | _, _ => false)

def IOp.norm : IOp → IOp
  | .ldl s a x => .ld s a x
  | .dcall _ f args => .call f args
  | .alcd t zero => .alc t zero
  | .bsrd e z parts => .bsr e z parts
  | i => i
def isDead : IOp → Bool
  | .dead => true
  | _ => false
def chkOper (P : Program) (ops : Array Oper) (o : Oper) (i : IOper) : Bool :=
  isDead i.op || chkOper0 P ops o { i with op := i.op.norm }

def isFz : IOper → Bool
  | ⟨none, .fz _, none⟩ => true
  | ⟨none, .hole _, none⟩ => true
  | _ => false

def chkOps (P : Program) (ops : Array Oper) : List Oper → List IOper → Bool
  | os, [] => os.isEmpty
  | os, i :: is => if isFz i then chkOps P ops os is else match os with
    | o :: os => chkOper P ops o i && chkOps P ops os is
    | [] => false

def chkC (P : Program) (D : Array Oper → List IOper → Bool) : IC → Code → Bool
  | .skip, .skip => true
  | .reg is, .region _ ops false => chkOps P ops ops.toList is
  | .drg is, .region _ ops true => chkOps P ops ops.toList is && D ops is
  | .seq x y, .seq a b => chkC P D x a && chkC P D y b
  | .cond d x y, .cond c a b => okOpd c d && chkC P D x a && chkC P D y b
  | .block j x, .block i a => i == j && chkC P D x a
  | .loop x, .loop a => chkC P D x a
  | .exit j, .exit i => i == j
  | .ret, .ret => true
  | .cut x, c => chkC P D x c
  | .dead, _ => true
  | _, _ => false
end Go.Proofs.YtndjmidmfmcbkaaGreatDoor

/- Structs with rows in them: built, loaded and stored; that their meaning is right. -/
namespace Go.Proofs.YtndjmidmfmcbkaaGreatDoor
set_option linter.unusedVariables false
set_option linter.unusedSimpArgs false
set_option linter.defProp false

section
variable {P : Program} {E : Envt} {B : Base} {L : Objs} {fr : List AV} {o : Oper} {w : World} {U : Nat → Prop} {ι : Key → Value} {a : Act}

def GRep (w : World) (U : Nat → Prop) (ι : Key → Value) (cs : List (PV ⊕ Key)) (vs : List Value) : Prop :=
  vs.length = cs.length ∧ ∀ (j : Nat) (x : PV ⊕ Key), cs[j]? = some x → ∃ v, vs[j]? = some v ∧ v.oneCell' = true ∧ CRep w U ι x v
theorem GRep.set {cs : List (PV ⊕ Key)} {vs : List Value} (h : GRep w U ι cs vs) (i : Nat) {x : PV ⊕ Key} {v : Value} (h1 : v.oneCell' = true) (hx : CRep w U ι x v) : GRep w U ι (cs.set i x) (vs.set i v) := by
  refine ⟨by simpa using h.1, fun j y hy => ?_⟩
  by_cases hj : i = j
  · subst hj
    have hlt : i < cs.length := by
      rcases Nat.lt_or_ge i cs.length with h' | h'
      · exact h'
      · rw [List.getElem?_eq_none (by simpa using h')] at hy; cases hy
    rw [List.getElem?_set_self hlt] at hy
    cases hy
    exact ⟨v, by rw [List.getElem?_set_self (by rw [h.1]; exact hlt)], h1, hx⟩
  · rw [List.getElem?_set_ne hj] at hy ⊢
    exact h.2 j y hy
theorem setC_rep {ds : List PV} : ∀ {us : List Value} {cs : List (PV ⊕ Key)} {vs : List Value} {off : Nat}, PRepL w U ds us → (∀ u ∈ us, u.oneCell' = true) → GRep w U ι cs vs → GRep w U ι (Zae cs off ds) (setVals vs off us) := by
  induction ds with
  | nil => intro us cs vs off hd _ h; simp only [PRepL] at hd; subst hd; exact h
  | cons x r ih =>
    intro us cs vs off hd h1 h
    simp only [PRepL] at hd
    obtain ⟨u, us', rfl, h2, h3⟩ := hd
    exact ih h3 (fun v hv => h1 v (by simp [hv])) (h.set off (h1 u (by simp)) h2)
theorem fill_okG {a : Act} (hf : FRep w U ι fr a) (place : Nat → Option (Nat × Nat)) (n : Nat) : ∀ (ps : List (Nat × Operand)) (qs : List (Nat × Nat × Opd)) (cs : List (PV ⊕ Key)) (vs : List Value) (c : Prop) (ds : List (PV ⊕ Key)),
    okParts P place n ps qs = true → Zad fr cs qs = some (c, ds) → c → GRep w U ι cs vs → vs.length = n → ∃ us, Instr.fill place vs.toArray (ps.map fun x => (x.1, a.eval x.2)) = some us.toArray ∧ GRep w U ι ds us := by
  intro ps
  induction ps with
  | nil =>
    intro qs cs vs c ds hok hb hc hl hn
    cases qs with
    | nil =>
      simp only [Zad, Option.some.injEq, Prod.mk.injEq] at hb
      obtain ⟨rfl, rfl⟩ := hb
      exact ⟨vs, rfl, hl⟩
    | cons q qs => simp [okParts] at hok
  | cons p ps ih =>
    intro qs cs vs c ds hok hb hc hl hn
    obtain ⟨i, x⟩ := p
    cases qs with
    | nil => simp [okParts] at hok
    | cons q qs =>
      obtain ⟨off, sz, y⟩ := q
      simp only [okParts, Bool.and_eq_true, beq_iff_eq, decide_eq_true_eq] at hok
      obtain ⟨⟨⟨h1, h2⟩, h3⟩, h4⟩ := hok
      simp only [Zad] at hb
      split at hb
      · rename_i cx v ex
        split at hb
        · rename_i hsz
          obtain ⟨⟨c', ds'⟩, e1, e2⟩ := Option.map_eq_some_iff.1 hb
          simp only [Prod.mk.injEq] at e2
          obtain ⟨rfl, rfl⟩ := e2
          have rx : PRep w U v (a.eval x) := rdP hf h2 ex hc.1
          have hcell := rx.cells (flatL_notTup hsz.2)
          have hcl : (a.eval x).cells.size = sz := by have := hcell.length; simp at this; omega
          simp only [List.map_cons]
          rw [fill_cons place vs i off sz _ _ h1 hcl (by omega)]
          exact ih qs _ _ c' ds' h4 e1 hc.2 (setC_rep hcell (hcell.oneCells hsz.2) hl) (by rw [setVals_length]; exact hn)
        · cases hb
      · rename_i cx k ex
        split at hb
        · rename_i hsz
          obtain ⟨⟨c', ds'⟩, e1, e2⟩ := Option.map_eq_some_iff.1 hb
          simp only [Prod.mk.injEq] at e2
          obtain ⟨rfl, rfl⟩ := e2
          obtain ⟨r1, A, m, cp, r2⟩ : a.eval x = ι k ∧ ∃ A n c, a.eval x = .slice A n c := rdP hf h2 ex hc.1
          have hcl : (a.eval x).cells = #[a.eval x] := by rw [r2]; rfl
          simp only [List.map_cons]
          rw [fill_cons place vs i off sz _ _ h1 (by rw [hcl, hsz]; rfl) (by omega)]
          rw [show setVals vs off (a.eval x).cells.toList = vs.set off (a.eval x) from by rw [hcl]; rfl]
          exact ih qs _ _ c' ds' h4 e1 hc.2 (hl.set off (by rw [r2]; rfl) ⟨r1, A, m, cp, r2⟩) (by simpa using hn)
        · cases hb
      · cases hb
theorem snd_bldg {t : TypeId} {parts : Array (Nat × Operand)} {fs : Array Field} {places : Array (Nat × Nat)} {zero : List PV} {parts' : List (Nat × Nat × Opd)} (ho : o.op = .build t parts) (ht : P.underlying t = some (.struct fs)) (hz : zeroB P t zero = true) (hp : placesB P fs places = true)
    (hk : okParts P (places[·]?) zero.length parts.toList parts' = true) {c : Prop} {r : AV} (h : Ze fr L (.bldg zero parts') = some (c, r)) : Val1 P o fr L c r := by
  simp only [Ze] at h
  obtain ⟨⟨c1, ds⟩, e1, e2⟩ := Option.map_eq_some_iff.1 h
  simp only [Prod.mk.injEq] at e2
  obtain ⟨rfl, rfl⟩ := e2
  refine Val1.same fun E B w ι a hs h1 => ?_
  obtain ⟨z, hz1, hz2⟩ := run_zero hz w
  have hzr := (okVals_rep hz2 w (fun b => Own L ι b ∨ B.X b))
  have hzg : GRep w (fun b => Own L ι b ∨ B.X b) ι (zero.map .inl) z.cells.toList := by
    refine ⟨by simpa using hzr.1.length, fun j x hx => ?_⟩
    rw [List.getElem?_map, Option.map_eq_some_iff] at hx
    obtain ⟨y, hy, rfl⟩ := hx
    obtain ⟨v, hv, hr⟩ := hzr.1.get hy
    exact ⟨v, hv, hzr.1.oneCells hzr.2 v (List.mem_of_getElem? hv), hr⟩
  obtain ⟨us, hfill, hrep⟩ := fill_okG (P := P) hs.2.1 (places[·]?) zero.length parts.toList parts' (zero.map .inl) z.cells.toList c1 ds hk e1 h1 hzg hzr.1.length
  refine ⟨.agg us.toArray, ?_, us, rfl, hrep.1, hrep.2⟩
  simp only [execOp, ho, Instr.build, Sem.run_bind, hz1, Result.andThen_ok, run_underlying ht, run_places fs places hp]
  have e3 : (Array.map (fun x : Nat × Operand => (x.1, a.eval x.2)) parts).toList = parts.toList.map fun x => (x.1, a.eval x.2) := by simp
  have e4 : z.cells.toList.toArray = z.cells := by simp
  rw [e4] at hfill
  rw [← e3] at hfill
  simp only [hfill]
  rfl
theorem agL_map : ∀ {as : List AV} {l : List (PV ⊕ Key)}, Zaf as = some l → as = l.map Zag
  | [], l, h => by simp only [Zaf, Option.some.injEq] at h; subst h; rfl
  | q :: as, l, h => by
    cases q with
    | p x => simp only [Zaf] at h; obtain ⟨l', h1, rfl⟩ := Option.map_eq_some_iff.1 h; simp [agL_map h1, Zag]
    | row k => simp only [Zaf] at h; obtain ⟨l', h1, rfl⟩ := Option.map_eq_some_iff.1 h; simp [agL_map h1, Zag]
    | _ => simp [Zaf] at h
theorem toAV_rep {x : PV ⊕ Key} {v : Value} : ARep w U ι (Zag x) v ↔ CRep w U ι x v := by cases x <;> rfl
theorem snd_ldg {t : TypeId} {sz : Nat} {x : Operand} {x' : Opd} (ho : o.op = .load t x) (hsz : sizeB P t sz = true) (hag : aggB P t true = true) (hx : okOpd x x' = true) {c : Prop} {r : AV}
    (h : Ze fr L (.ldg sz x') = some (c, r)) : Val1 P o fr L c r := by
  simp only [Ze] at h
  split at h
  · rename_i cx k of ex
    split at h
    · rename_i cs bt hl
      split at h
      · rename_i hle
        obtain ⟨l, el, e3⟩ := Option.map_eq_some_iff.1 h
        simp only [Prod.mk.injEq] at e3
        obtain ⟨rfl, rfl⟩ := e3
        refine Val1.same fun E B w ι a hs h1 => ?_
        obtain ⟨b, e1, e2⟩ := rdA hs.2.1 hx ex h1
        obtain ⟨b', vs, e4, hb, hlen, h1c, hcs⟩ := hs.1.sim.obj k _ hl
        rw [e1] at e4
        simp only [Value.pointer.injEq, Option.some.injEq, Addr.mk.injEq, and_true] at e4
        subst e4
        have hm := agL_map el
        have hll : l.length = sz := by have := congrArg List.length hm; simp at this; omega
        have hus : ((vs.drop of).take sz).length = sz := by simp; omega
        refine ⟨.agg ((vs.drop of).take sz).toArray, ?_, _, rfl, by omega, fun j x hx' => ?_⟩
        · have hld := run_loadCells_list (P := P) (w := w) ⟨b, of, none⟩ ((vs.drop of).take sz) (fun j v hj => by
            rw [addr_addA, cell_of_row w b (of + j) _ _ _ hb]
            rw [List.getElem?_take] at hj
            split at hj
            · rw [List.getElem?_drop] at hj; simpa using hj
            · cases hj)
          rw [hus] at hld
          simp only [execOp, ho, e2, Instr.loadAt, Instr.sureAddr, loadVar, Sem.run_bind, Sem.run_pure, Result.andThen_ok, run_agg hag, if_true, run_size hsz, hld]
        · have hj : j < sz := by rw [← hll]; exact (List.getElem?_eq_some_iff.1 hx').1
          have e5 : ((cs.drop of).take sz)[j]? = some (Zag x) := by rw [hm, List.getElem?_map, hx']; rfl
          rw [List.getElem?_take, if_pos hj, List.getElem?_drop] at e5
          obtain ⟨u, hu, hr⟩ := hcs _ _ e5
          refine ⟨u, by rw [List.getElem?_take, if_pos hj, List.getElem?_drop]; exact hu, h1c u (List.mem_of_getElem? hu), toAV_rep.1 hr⟩
      · cases h
    · cases h
  · cases h
theorem eff_stg {t : TypeId} {sz off : Nat} {pa px : Operand} {p' x' : Opd} (ho : o.op = .store t pa px) (hdst : o.dst = none) (hsz : sizeB P t sz = true) (hp : okOpd pa p' = true) (hx : okOpd px x' = true) {k : Key} {cs : List AV} {bt : TypeId} {l : List (PV ⊕ Key)} {cp cx : Prop}
    (ep : (rd fr p').un = (cp, .adr k off)) (ex : (rd fr x').un = (cx, .ag l)) (hl : Zar L k = some (.box cs bt)) (hle : off + sz ≤ cs.length) (hll : l.length = sz) : Eff1 P o fr L (cp ∧ cx) fr (Zas L k (.box (Zab cs off (l.map Zag)) bt)) := by
  intro E B w ι a hs ⟨k1, k2⟩
  have hpa := rdP hs.2.1 hp ep k1
  obtain ⟨vs, e, hvl, hr⟩ : ∃ vs : List Value, a.eval px = .agg vs.toArray ∧ vs.length = l.length ∧ ∀ (j : Nat) (x : PV ⊕ Key), l[j]? = some x → ∃ v, vs[j]? = some v ∧ v.oneCell' = true ∧ CRep w (fun b => Own L ι b ∨ B.X b) ι x v := rdP hs.2.1 hx ex k2
  have hc : (a.eval px).cells.toList = vs := by rw [e]; simp [Value.cells]
  have h1 : ∀ v ∈ vs, v.oneCell' = true := by
    intro v hv
    obtain ⟨j, hj⟩ := List.getElem?_of_mem hv
    have hjl : j < l.length := by rw [← hvl]; exact (List.getElem?_eq_some_iff.1 hj).1
    obtain ⟨u, hu, h2, _⟩ := hr j _ (List.getElem?_eq_getElem hjl)
    rw [hu] at hj
    cases hj
    exact h2
  exact eff_stb ho hdst hsz hl hle hs hpa (l.map Zag) (by rw [hc]; omega) (by simpa using hll) (by rw [hc]; exact h1) (fun j x hx' => by
    rw [List.getElem?_map, Option.map_eq_some_iff] at hx'
    obtain ⟨y, hy, rfl⟩ := hx'
    obtain ⟨v, hv, _, h3⟩ := hr j y hy
    exact ⟨v, by rw [hc]; exact hv, toAV_rep.2 h3⟩)
end
end Go.Proofs.YtndjmidmfmcbkaaGreatDoor

/- The check is right: what passes it means what it says. -/
namespace Go.Proofs.YtndjmidmfmcbkaaGreatDoor
set_option linter.unusedVariables false
set_option linter.unusedSimpArgs false
set_option linter.defProp false

section
variable {P : Program} {E : Envt} {B : Base} {w w' : World} {L : Objs} {ι : Key → Value} {fr : List AV} {a : Act} {X : Nat → Prop} {o : Oper} {U : Nat → Prop}

theorem strT_eq {t : TypeId} (h : strT P t = true) : P.underlying t = some .string := by
  unfold strT at h; split at h
  · assumption
  · cases h
theorem boolT_eq {t : TypeId} (h : boolT P t = true) : P.underlying t = some .bool := by
  unfold boolT at h; split at h
  · assumption
  · cases h
theorem slT_eq {t e : TypeId} (h : slT P t = some e) : P.underlying t = some (.slice e) := by
  unfold slT at h; split at h
  · cases h; assumption
  · cases h
theorem intT_eq {t : TypeId} {k : IntKind} (h : intT P t = some k) : P.underlying t = some (.int k) := by
  unfold intT at h; split at h
  · cases h; assumption
  · cases h

theorem arr_of_list {α : Type} {a : Array α} {l : List α} (h : a.toList = l) : a = l.toArray := by rw [← h]

/-- Class A operations. -/
theorem step_sound {i : IOp} (hchk : chkOp P o.op i = true) {c : Prop} {r : AV} (h : Ze fr L i = some (c, r)) : Val1 P o fr L c r := by
  unfold chkOp at hchk
  split at hchk
  · rename_i x y ho; simp only [Ze, Option.some.injEq, Prod.mk.injEq] at h; obtain ⟨rfl, rfl⟩ := h; exact snd_mov (.inl ho) hchk
  · rename_i x y ho; simp only [Ze, Option.some.injEq, Prod.mk.injEq] at h; obtain ⟨rfl, rfl⟩ := h; exact snd_mov (.inr ho) hchk
  · simp [Ze] at h
  · simp [Ze] at h
  · rename_i x1 x2 x3 y1 y2 y3 ho
    simp only [Bool.and_eq_true] at hchk
    simp only [Ze] at h
    split at h
    · simp only [Option.some.injEq, Prod.mk.injEq] at h; obtain ⟨rfl, rfl⟩ := h
      exact snd_pick ho hchk.1.1 hchk.1.2 hchk.2 ‹_› ‹_› ‹_›
    · simp only [Option.some.injEq, Prod.mk.injEq] at h; obtain ⟨rfl, rfl⟩ := h
      exact snd_pick1 ho hchk.1.1 hchk.1.2 ‹_› ‹_›
    · simp only [Option.some.injEq, Prod.mk.injEq] at h; obtain ⟨rfl, rfl⟩ := h
      exact snd_pick2 ho hchk.1.1 hchk.2 ‹_› ‹_›
    · cases h
  · rename_i op t x y t' op' x' y' ho
    simp only [Bool.and_eq_true, beq_iff_eq] at hchk
    obtain ⟨⟨rfl, h1⟩, h2⟩ := hchk
    exact snd_bin ho h1 h2 h
  · rename_i op t x y t' op' x' y' ho
    simp only [Bool.and_eq_true, beq_iff_eq] at hchk
    obtain ⟨⟨⟨rfl, h1⟩, h2⟩, h3⟩ := hchk
    exact snd_bnb ho (boolT_eq h3) h1 h2 h
  · rename_i op t x y t' neg ks x' y' ho
    simp only [Bool.and_eq_true, beq_iff_eq] at hchk
    obtain ⟨⟨⟨h0, h1⟩, h2⟩, h3⟩ := hchk
    subst h0
    exact snd_eqa ho h3 h1 h2 h
  · rename_i t x x' ho; exact snd_not ho hchk h
  · rename_i t x x' ho; exact snd_neg ho hchk h
  · rename_i args ts x' ho
    split at hchk
    · rename_i x t e1 e2
      simp only [Bool.and_eq_true] at hchk
      obtain ⟨e, he⟩ := Option.isSome_iff_exists.1 hchk.2
      rw [arr_of_list e1, arr_of_list e2] at ho
      exact snd_len ho (slT_eq he) hchk.1 h
    · cases hchk
  · rename_i args ts x' ho
    split at hchk
    · rename_i x t e1 e2
      simp only [Bool.and_eq_true] at hchk
      rw [arr_of_list e1, arr_of_list e2] at ho
      exact snd_sln ho (strT_eq hchk.2) hchk.1 h
    · cases hchk
  · rename_i args ts x' y' ho
    split at hchk
    · rename_i x y e1
      simp only [Bool.and_eq_true] at hchk
      rw [arr_of_list e1] at ho
      exact snd_mx ho hchk.1 hchk.2 h
    · cases hchk
  · rename_i args ts x' y' ho
    split at hchk
    · rename_i x y e1
      simp only [Bool.and_eq_true] at hchk
      rw [arr_of_list e1] at ho
      exact snd_mn ho hchk.1 hchk.2 h
    · cases hchk
  · rename_i t x i x' i' ho
    simp only [Bool.and_eq_true] at hchk
    exact snd_idx ho (strT_eq hchk.2) hchk.1.1 hchk.1.2 h
  · rename_i t x lo hi x' lo' hi' ho
    simp only [Bool.and_eq_true] at hchk
    exact snd_ssl ho (strT_eq hchk.2) hchk.1.1.1 hchk.1.1.2 hchk.1.2 h
  · rename_i t x lo hi z x' lo' hi' ho
    simp only [Bool.and_eq_true] at hchk
    obtain ⟨⟨⟨h1, h2⟩, h3⟩, h4⟩ := hchk
    split at h4
    · rename_i e he; exact snd_vsl ho (slT_eq he) h4 h1 h2 h3 h
    · cases h4
  · rename_i t x i z x' i' ho
    simp only [Bool.and_eq_true] at hchk
    obtain ⟨⟨h1, h2⟩, h4⟩ := hchk
    split at h4
    · rename_i e he; exact snd_ixa ho (slT_eq he) h4 h1 h2 h
    · cases h4
  · rename_i s x f off x' ho
    simp only [Bool.and_eq_true] at hchk
    obtain ⟨h1, h4⟩ := hchk
    split at h4
    · rename_i fs hfs
      split at h4
      · rename_i fd hfd
        simp only [Bool.and_eq_true, beq_iff_eq, decide_eq_true_eq] at h4
        have hsz : ∃ n, sizeB P fd.type (n + 1) = true := by
          have := h4.2
          unfold Program.cellsOf at this
          cases hi : P.info? fd.type with
          | none => rw [hi] at this; simp at this
          | some i => rw [hi] at this; simp at this; exact ⟨i.size - 1, by simp [sizeB, hi]; omega⟩
        obtain ⟨n, hn⟩ := hsz
        exact snd_fla (sz := n) ho (by unfold fieldB; rw [hfs]; simp only [hfd, h4.1, hn]; simp) h1 h
      · cases h4
    · cases h4
  · rename_i s x f off sz ag x' ho
    simp only [Bool.and_eq_true] at hchk
    obtain ⟨h1, h4⟩ := hchk
    split at h4
    · rename_i fs hfs
      split at h4
      · rename_i fd hfd
        simp only [Bool.and_eq_true, beq_iff_eq, Bool.or_eq_true] at h4
        obtain ⟨⟨⟨k1, k2⟩, k3⟩, k4⟩ := h4
        exact snd_fld ho fs fd hfs hfd k1 k2 k3 (fun e => by rcases k4 with k4 | k4; rw [e] at k4; cases k4; exact k4) h1 h
      · cases h4
    · cases h4
  · rename_i t x sz ag x' ho
    simp only [Bool.and_eq_true, Bool.or_eq_true, beq_iff_eq] at hchk
    obtain ⟨⟨⟨k1, k2⟩, k3⟩, k4⟩ := hchk
    exact snd_ld ho k2 k3 (fun e => by rcases k4 with k4 | k4; rw [e] at k4; cases k4; exact k4) k1 h
  · rename_i x i i' x' ho
    simp only [Bool.and_eq_true, beq_iff_eq] at hchk
    obtain ⟨h1, rfl⟩ := hchk
    exact snd_ext ho h1 h
  · rename_i t parts zero parts' ho
    simp only [Bool.and_eq_true] at hchk
    obtain ⟨h1, h2⟩ := hchk
    split at h2
    · rename_i fs hfs
      simp only [Bool.and_eq_true] at h2
      exact snd_bld ho hfs h1 (by simp only [placesB, Bool.and_eq_true, beq_iff_eq]; exact ⟨by simp, h2.2⟩) h2.1 h
    · cases h2
  · rename_i s d x k x' ho
    simp only [Bool.and_eq_true, beq_iff_eq] at hchk
    exact snd_cvi ho hchk.1.2 (intT_eq hchk.2) hchk.1.1 h
  · rename_i s d x x' ho
    simp only [Bool.and_eq_true] at hchk
    obtain ⟨k, hk⟩ := Option.isSome_iff_exists.1 hchk.1.2
    exact snd_cvs ho (intT_eq hk) (strT_eq hchk.2) hchk.1.1 h
  · rename_i s d x x' ho
    simp only [Bool.and_eq_true] at hchk
    obtain ⟨⟨h1, h2⟩, h3⟩ := hchk
    split at h3
    · rename_i e he
      simp only [beq_iff_eq] at h3
      exact snd_b2s ho (slT_eq he) (intT_eq h3) (strT_eq h2) h1 h
    · cases h3
  · simp [Ze] at h
  · rename_i t n parts z parts' ho
    simp only [Bool.and_eq_true, beq_iff_eq, decide_eq_true_eq] at hchk
    obtain ⟨⟨⟨h1, h2⟩, h3⟩, h4⟩ := hchk
    split at h1
    · rename_i e he
      simp only [Bool.and_eq_true] at h1
      exact snd_bsl ho (slT_eq he) h1.1 h1.2 h2 h3 h4 h
    · cases h1
  · simp [Ze] at h
  · rename_i x x' ho; exact snd_nck ho hchk h
  · rename_i f first caps f' caps' ho
    simp only [Bool.and_eq_true, beq_iff_eq, List.isEmpty_iff] at hchk
    obtain ⟨⟨rfl, h1⟩, h2⟩ := hchk
    rw [arr_of_list h1] at ho
    exact snd_mkf ho h2 h
  · simp [Ze] at h
  · simp [Ze] at h
  · simp [Ze] at h
  · simp [Ze] at h
  · simp [Ze] at h
  · simp [Ze] at h
  · simp [Ze] at h
  · simp [Ze] at h
  · rename_i args ts x' ho
    split at hchk
    · rename_i x t e1 e2
      simp only [Bool.and_eq_true] at hchk
      obtain ⟨e, he⟩ := Option.isSome_iff_exists.1 hchk.2
      rw [arr_of_list e1, arr_of_list e2] at ho
      exact snd_cap0 ho (slT_eq he) hchk.1 h
    · cases hchk
  · rename_i t x hi x' hi' ho
    simp only [Bool.and_eq_true] at hchk
    obtain ⟨⟨h1, h2⟩, h3⟩ := hchk
    split at h3
    · rename_i e he; exact snd_vsn ho (slT_eq he) h3 h1 h2 h
    · cases h3
  · simp [Ze] at h
  · simp [Ze] at h
  · simp [Ze] at h
  · simp [Ze] at h
  · simp [Ze] at h
  · rename_i t m k ok ok' zero m' k' ho
    simp only [Bool.and_eq_true, beq_iff_eq] at hchk
    obtain ⟨⟨⟨rfl, h1⟩, h2⟩, h3⟩ := hchk
    split at h3
    · rename_i kt et ht
      simp only [Bool.and_eq_true] at h3
      exact snd_mpl ho ht (strT_eq h3.1) h3.2 h1 h2 h
    · cases h3
  · rename_i args ts x' ho
    split at hchk
    · rename_i x t e1 e2
      simp only [Bool.and_eq_true] at hchk
      obtain ⟨h1, h2⟩ := hchk
      split at h2
      · rename_i kt et ht
        rw [arr_of_list e1, arr_of_list e2] at ho
        exact snd_mpn ho ht h1 h
      · cases h2
    · cases hchk
  · rename_i t parts zero parts' ho
    simp only [Bool.and_eq_true] at hchk
    obtain ⟨h1, h2⟩ := hchk
    split at h2
    · rename_i fs hfs
      simp only [Bool.and_eq_true] at h2
      exact snd_bldg ho hfs h1 (by simp only [placesB, Bool.and_eq_true, beq_iff_eq]; exact ⟨by simp, h2.2⟩) h2.1 h
    · cases h2
  · rename_i t x sz x' ho
    simp only [Bool.and_eq_true] at hchk
    exact snd_ldg ho hchk.1.2 hchk.2 hchk.1.1 h
  · simp [Ze] at h
  · simp [Ze] at h
  · cases hchk

theorem step_eff {i : IOp} {d : Option Nat} (hchk : chkOp P o.op i = true) (hd : o.dst = d) {c : Prop} {fr' : List AV} {L' : Objs} (h : (Ze fr L i).map (fun q => (q.1, Zf fr d q.2, L)) = some (c, fr', L')) : Eff1 P o fr L c fr' L' := by
  obtain ⟨⟨c1, r⟩, e1, e2⟩ := Option.map_eq_some_iff.1 h
  simp only [Prod.mk.injEq] at e2
  obtain ⟨rfl, rfl, rfl⟩ := e2
  have hv := step_sound hchk e1
  cases d with
  | none => exact hv.eff0 hd
  | some d => exact hv.eff hd

theorem estep_sound {i : IOp} {d : Option Nat} (hchk : chkOp P o.op i = true) (hd : o.dst = d) (hst : isSt i = true → d = none) {c : Prop} {fr' : List AV} {L' : Objs} (h : Zd d fr L i = some (c, fr', L')) : Eff1 P o fr L c fr' L' := by
  have hchk0 := hchk
  unfold chkOp at hchk
  split at hchk
  · exact step_eff hchk0 hd h
  · exact step_eff hchk0 hd h
  · rename_i x e z ho
    simp only [Zd] at h
    split at h
    · simp only [Option.some.injEq, Prod.mk.injEq] at h; obtain ⟨rfl, rfl, rfl⟩ := h
      exact eff_nilr (.inl ho) hchk hd
    · cases h
  · rename_i x e z ho
    simp only [Zd] at h
    split at h
    · simp only [Option.some.injEq, Prod.mk.injEq] at h; obtain ⟨rfl, rfl, rfl⟩ := h
      exact eff_nilr (.inr ho) hchk hd
    · cases h
  · exact step_eff hchk0 hd h
  · exact step_eff hchk0 hd h
  · exact step_eff hchk0 hd h
  · exact step_eff hchk0 hd h
  · exact step_eff hchk0 hd h
  · exact step_eff hchk0 hd h
  · exact step_eff hchk0 hd h
  · exact step_eff hchk0 hd h
  · exact step_eff hchk0 hd h
  · exact step_eff hchk0 hd h
  · exact step_eff hchk0 hd h
  · exact step_eff hchk0 hd h
  · exact step_eff hchk0 hd h
  · exact step_eff hchk0 hd h
  · exact step_eff hchk0 hd h
  · exact step_eff hchk0 hd h
  · exact step_eff hchk0 hd h
  · exact step_eff hchk0 hd h
  · exact step_eff hchk0 hd h
  · exact step_eff hchk0 hd h
  · exact step_eff hchk0 hd h
  · exact step_eff hchk0 hd h
  · rename_i s dT x e x' ho
    simp only [Bool.and_eq_true, beq_iff_eq] at hchk
    obtain ⟨⟨⟨h1, h2⟩, h3⟩, h4⟩ := hchk
    obtain ⟨u0, hu0⟩ := Option.isSome_iff_exists.1 h2
    simp only [Zd] at h
    split at h
    · rename_i d' c' l ex
      simp only [Option.some.injEq, Prod.mk.injEq] at h; obtain ⟨rfl, rfl, rfl⟩ := h
      exact eff_s2b ho hd hu0 (slT_eq h3) (intT_eq h4) h1 ex
    · cases h
  · exact step_eff hchk0 hd h
  · rename_i t n parts e z parts' ho
    simp only [Bool.and_eq_true, beq_iff_eq, decide_eq_true_eq] at hchk
    obtain ⟨⟨⟨⟨⟨⟨h1, h2⟩, h3⟩, h4⟩, h5⟩, h6⟩, h7⟩ := hchk
    simp only [Zd] at h
    split at h
    · rename_i d' c' es eb
      simp only [Option.some.injEq, Prod.mk.injEq] at h; obtain ⟨rfl, rfl, rfl⟩ := h
      exact eff_bsr ho hd (slT_eq h1) h2 h3 h4 h5 h6 h7 eb
    · cases h
  · exact step_eff hchk0 hd h
  · exact step_eff hchk0 hd h
  · rename_i t t' zero ho
    simp only [Bool.and_eq_true, beq_iff_eq] at hchk
    obtain ⟨rfl, h1⟩ := hchk
    simp only [Zd] at h
    split at h
    · simp only [Option.some.injEq, Prod.mk.injEq] at h; obtain ⟨rfl, rfl, rfl⟩ := h
      exact eff_alc ho h1 hd
    · cases h
  · rename_i t x t' x' ho
    simp only [Bool.and_eq_true, beq_iff_eq] at hchk
    obtain ⟨rfl, h1⟩ := hchk
    simp only [Zd] at h
    split at h
    · rename_i d' c' v ex
      split at h
      · rename_i hfl
        simp only [Option.some.injEq, Prod.mk.injEq] at h; obtain ⟨rfl, rfl, rfl⟩ := h
        exact eff_boxp ho h1 hd ex hfl
      · cases h
    · rename_i d' c' k ex
      simp only [Option.some.injEq, Prod.mk.injEq] at h; obtain ⟨rfl, rfl, rfl⟩ := h
      exact eff_boxr ho h1 hd ex
    · cases h
  · rename_i t p x sz p' x' ho
    simp only [Bool.and_eq_true] at hchk
    obtain ⟨⟨h1, h2⟩, h3⟩ := hchk
    have hdn := hst rfl
    rw [hdn] at hd
    simp only [Zd] at h
    split at h
    · rename_i cp k of cx v ep ex
      split at h
      · rename_i cs bt hl
        split at h
        · rename_i hc
          simp only [Option.some.injEq, Prod.mk.injEq] at h; obtain ⟨rfl, rfl, rfl⟩ := h
          intro E B w ι a hs ⟨k1, k2⟩
          have hp := rdP hs.2.1 h1 ep k1
          have hv : PRep w _ v (a.eval x) := rdP hs.2.1 h2 ex k2
          have hcl := hv.cells (flatL_notTup hc.2.2)
          exact eff_stb ho hd h3 hl hc.1 hs hp ((Zy v).map .p) (by rw [hcl.length, hc.2.1]) (by simpa using hc.2.1) (hcl.oneCells hc.2.2) (fun j y hy => by
            rw [List.getElem?_map, Option.map_eq_some_iff] at hy
            obtain ⟨q, hq, rfl⟩ := hy
            exact hcl.get hq)
        · cases h
      · cases h
    · rename_i cp k of cx k' ep ex
      split at h
      · rename_i cs bt hl
        split at h
        · rename_i hc
          obtain ⟨hc1, rfl⟩ := hc
          simp only [Option.some.injEq, Prod.mk.injEq] at h; obtain ⟨rfl, rfl, rfl⟩ := h
          intro E B w ι a hs ⟨k1, k2⟩
          have hp := rdP hs.2.1 h1 ep k1
          have hv := rdP hs.2.1 h2 ex k2
          obtain ⟨A, n, cc, ev⟩ := hv.2
          have hcell : (a.eval x).cells.toList = [a.eval x] := by rw [ev]; rfl
          exact eff_stb ho hd h3 hl hc1 hs hp [.row k'] (by rw [hcell]; rfl) rfl (by rw [hcell]; simp [ev, Value.oneCell']) (fun j y hy => by
            cases j with
            | zero => simp at hy; subst hy; exact ⟨_, by rw [hcell]; rfl, hv⟩
            | succ j => simp at hy)
        · cases h
      · cases h
    · rename_i cp k of cx k' ep ex
      split at h
      · rename_i cs bt kv0 kt0 et0 hl hl2
        split at h
        · rename_i hc
          obtain ⟨hc1, rfl⟩ := hc
          simp only [Option.some.injEq, Prod.mk.injEq] at h; obtain ⟨rfl, rfl, rfl⟩ := h
          intro E B w ι a hs ⟨k1, k2⟩
          have hp := rdP hs.2.1 h1 ep k1
          have hv := rdP hs.2.1 h2 ex k2
          obtain ⟨r0, ents, clock, ev0, _⟩ := hs.1.sim.obj _ _ hl2
          have ev : a.eval x = .map (some r0) := by rw [show a.eval x = ι k' from hv]; exact ev0
          have hcell : (a.eval x).cells.toList = [a.eval x] := by rw [ev]; rfl
          exact eff_stb ho hd h3 hl hc1 hs hp [.mp k'] (by rw [hcell]; rfl) rfl (by rw [hcell]; simp [ev, Value.oneCell']) (fun j y hy => by
            cases j with
            | zero => simp at hy; subst hy; exact ⟨_, by rw [hcell]; rfl, hv⟩
            | succ j => simp at hy)
        · cases h
      · cases h
    · rename_i cp k z i of cx v ep ex
      split at h
      · rename_i es e z' ap hl
        split at h
        · rename_i hc
          obtain ⟨rfl, hc1, hc2, hc3⟩ := hc
          simp only [Option.some.injEq, Prod.mk.injEq] at h; obtain ⟨rfl, rfl, rfl⟩ := h
          intro E B w ι a hs ⟨k1, k2, k3⟩
          have hp := rdP hs.2.1 h1 ep k1
          have hv : PRep w _ v (a.eval x) := rdP hs.2.1 h2 ex k2
          have hcl := hv.cells (flatL_notTup hc3)
          exact eff_str ho hd h3 hl hc1 k3 hs hp ((Zy v).map wk1) (by simpa using hc2) (hcl.oneCells hc3) hcl.wk1
        · cases h
      · cases h
    · cases h
  · rename_i args ts e z by_ x' y' ho
    split at hchk
    · rename_i x y t t' e1 e2
      simp only [Bool.and_eq_true, beq_iff_eq] at hchk
      obtain ⟨⟨⟨⟨rfl, h1⟩, h2⟩, h3⟩, h4⟩ := hchk
      rw [arr_of_list e1, arr_of_list e2] at ho
      simp only [Zd] at h
      split at h
      · rename_i d' cx i z2 es2 ex ey
        split at h
        · rename_i es e' z' hl
          split at h
          · rename_i hc
            obtain ⟨rfl, rfl, rfl⟩ := hc
            simp only [Option.some.injEq, Prod.mk.injEq] at h; obtain ⟨rfl, rfl, rfl⟩ := h
            exact eff_app ho hd (slT_eq h3) h4 h1 h2 ex rfl hl ey
          · cases h
        · cases h
      · rename_i d' cx z0 z2 es2 ex ey
        split at h
        · rename_i hc
          subst hc
          simp only [Option.some.injEq, Prod.mk.injEq] at h; obtain ⟨rfl, rfl, rfl⟩ := h
          exact eff_appn ho hd (slT_eq h3) h4 h1 h2 ex rfl ey
        · cases h
      · cases h
    · cases hchk
  · rename_i t x y e z by_ zero x' y' ho
    simp only [Bool.and_eq_true, beq_iff_eq] at hchk
    obtain ⟨⟨⟨⟨h1, h2⟩, h3⟩, h4⟩, h5⟩ := hchk
    simp only [Zd] at h
    split at h
    · rename_i d' cx kx n cy ky c' ex ey
      simp only [Option.some.injEq, Prod.mk.injEq] at h; obtain ⟨rfl, rfl, rfl⟩ := h
      exact eff_mks ho hd (slT_eq h3) h4 h5 h1 h2 ex ey
    · cases h
  · exact step_eff hchk0 hd h
  · exact step_eff hchk0 hd h
  · exact step_eff hchk0 hd h
  · exact step_eff hchk0 hd h
  · exact step_eff hchk0 hd h
  · rename_i t x hi z x' hi' ho
    simp only [Bool.and_eq_true] at hchk
    obtain ⟨⟨h1, h2⟩, h3⟩ := hchk
    split at h3
    · rename_i e he
      simp only [Zd] at h
      split at h
      · rename_i d' cx i ch k n ex eh
        split at h
        · rename_i es et z' ap hl
          split at h
          · rename_i hc
            obtain ⟨rfl, rfl⟩ := hc
            simp only [Option.some.injEq, Prod.mk.injEq] at h; obtain ⟨rfl, rfl, rfl⟩ := h
            exact eff_trn ho hd (slT_eq he) h3 h1 h2 ex eh hl
          · cases h
        · cases h
      · cases h
    · cases h3
  · rename_i args ts e z by_ zero x' y' ho
    split at hchk
    · rename_i x y t t' e1 e2
      simp only [Bool.and_eq_true, beq_iff_eq] at hchk
      obtain ⟨⟨⟨⟨⟨h1, h2⟩, h3⟩, h4⟩, h5⟩, h6⟩ := hchk
      obtain ⟨kn, hkn⟩ := Option.isSome_iff_exists.1 h4
      rw [arr_of_list e1, arr_of_list e2] at ho
      simp only [Zd] at h
      split at h
      · rename_i d' cx z0 cy ky n ex ey
        simp only [Option.some.injEq, Prod.mk.injEq] at h; obtain ⟨rfl, rfl, rfl⟩ := h
        exact eff_apz ho hd (slT_eq h3) (intT_eq hkn) h5 h6 h1 h2 ex ey
      · cases h
    · cases hchk
  · rename_i t kt et ho
    simp only [Zd] at h
    split at h
    · simp only [Option.some.injEq, Prod.mk.injEq] at h; obtain ⟨rfl, rfl, rfl⟩ := h
      exact eff_mkm ho hd
    · cases h
  · rename_i t m k x m' k' x' ho
    simp only [Bool.and_eq_true] at hchk
    obtain ⟨⟨⟨h1, h2⟩, h3⟩, h4⟩ := hchk
    split at h4
    · rename_i kt et ht
      simp only [Zd] at h
      split at h
      · rename_i cm q ck s cv y em ex ev
        split at h
        · rename_i kv kt0 et0 hl
          simp only [Option.some.injEq, Prod.mk.injEq] at h; obtain ⟨rfl, rfl, rfl⟩ := h
          exact eff_mpu (.inl ho) hd ht (strT_eq h4) h1 h2 h3 em ex ev hl
        · cases h
      · cases h
    · cases h4
  · rename_i t m k x m' k' x' ho
    simp only [Bool.and_eq_true] at hchk
    obtain ⟨⟨⟨h1, h2⟩, h3⟩, h4⟩ := hchk
    split at h4
    · rename_i kt et ht
      simp only [Zd] at h
      split at h
      · rename_i cm q ck s cv y em ex ev
        split at h
        · rename_i kv kt0 et0 hl
          simp only [Option.some.injEq, Prod.mk.injEq] at h; obtain ⟨rfl, rfl, rfl⟩ := h
          exact eff_mpu (.inr ho) hd ht (strT_eq h4) h1 h2 h3 em ex ev hl
        · cases h
      · cases h
    · cases h4
  · exact step_eff hchk0 hd h
  · exact step_eff hchk0 hd h
  · exact step_eff hchk0 hd h
  · exact step_eff hchk0 hd h
  · rename_i t p x sz p' x' ho
    simp only [Bool.and_eq_true] at hchk
    obtain ⟨⟨h1, h2⟩, h3⟩ := hchk
    have hdn := hst rfl
    rw [hdn] at hd
    simp only [Zd] at h
    split at h
    · rename_i cp k of cx l ep ex
      split at h
      · rename_i cs bt hl
        split at h
        · rename_i hc
          simp only [Option.some.injEq, Prod.mk.injEq] at h; obtain ⟨rfl, rfl, rfl⟩ := h
          exact eff_stg ho hd h3 h1 h2 ep ex hl hc.1 hc.2
        · cases h
      · cases h
    · cases h
  · exact step_eff hchk0 hd h
  · cases hchk
end
end Go.Proofs.YtndjmidmfmcbkaaGreatDoor

/- Plain regions, calls, and whole bodies: what awp says of a body holds of its run. -/
namespace Go.Proofs.YtndjmidmfmcbkaaGreatDoor
set_option linter.unusedVariables false
set_option linter.unusedSimpArgs false
set_option linter.defProp false

section
variable {P : Program} {E : Envt} {B : Base} {w w' : World} {L L' : Objs} {ι ι' : Key → Value} {fr : List AV} {a : Act} {o : Oper} {X : Nat → Prop}

theorem St.x_own (h : St E B w L ι) {b : Nat} (hb : B.X b) : b < w.heap.size ∧ ¬ Own L ι b := by
  refine ⟨h.x_lt hb, fun ho => ?_⟩
  rcases h.own b ho with h' | h'
  · exact h.xdis b hb h'
  · have := h.xlt b hb; omega
theorem St.e_own (h : St E B w L ι) {b : Nat} (hb : E.bl b) : b < w.heap.size ∧ ¬ Own L ι b := by
  refine ⟨Nat.lt_of_lt_of_le (h.envb b hb).1 h.grow.size, fun ho => ?_⟩
  rcases h.own b ho with h' | h'
  · exact (h.envb b hb).2 h'
  · have := (h.envb b hb).1; omega

/-- Behind a call. -/
theorem StF.back (hs : StF E B w L ι fr a) {i : Nat} (hb : Back E w B.X L ι w' L' ι' i) : StF E B w' L' ι' (fr.map (·.kill (.l i))) a := by
  obtain ⟨h, hf, hd⟩ := hs
  have hk : Keeps w w' (fun b => Own L ι b ∨ B.X b) (fun b => Own L' ι' b ∨ B.X b) := by
    intro b hlt hu
    refine ⟨hb.grow.block b hlt (fun h => hu (.inl h)), ?_⟩
    rintro (h' | h')
    · rcases hb.own b h' with h'' | h''
      · exact hu (.inl h'')
      · omega
    · exact hu (.inr h')
  refine ⟨⟨h.grow.trans hb.grow h.own, hb.sim, fun b hb' => ?_, h.xlt, fun k h0 h1 => ?_, E.mono w w' (fun b hb' => hb.grow.block b (h.e_own hb').1 (h.e_own hb').2) h.env, h.envb, h.loc, h.xdis⟩, ⟨by simpa using hf.1, fun j x hx => ?_⟩, hd⟩
  · rcases hb.own b hb' with h' | h'
    · exact h.own b h'
    · exact .inr (Nat.le_trans h.grow.size h')
  · by_cases e : k = .l i
    · subst e; rw [h.loc i] at h0; cases h0
    · rcases hb.news k h1 with h2 | h2
      · rw [hb.keep k e]; exact h.keep k h0 h2
      · exact absurd h2 e
  · rw [List.getElem?_map, Option.map_eq_some_iff] at hx
    obtain ⟨y, hy, rfl⟩ := hx
    obtain ⟨u, hu, hr⟩ := hf.2 j y hy
    have := (hr.mono hk).kill (k := .l i) (v := ι' (.l i))
    rw [show (fun j => if j = .l i then ι' (.l i) else ι j) = ι' from by
      funext j
      by_cases e : j = .l i
      · rw [if_pos e, e]
      · rw [if_neg e, hb.keep j e]] at this
    exact ⟨u, hu, this⟩

theorem argsRep {U : Nat → Prop} (hf : FRep w U ι fr a) : ∀ {xs : List Operand} {ys : List Opd}, okOpds xs ys = true → Zl fr ys → ARepL w U ι (Zm fr ys) (xs.map a.eval) := by
  intro xs
  induction xs with
  | nil => intro ys h _; cases ys with
    | nil => simp [Zm, ARepL]
    | cons y ys => simp [okOpds] at h
  | cons x xs ih => intro ys h hc; cases ys with
    | nil => simp [okOpds] at h
    | cons y ys =>
      simp only [okOpds, Bool.and_eq_true] at h
      simp only [Zl] at hc
      simp only [Zm, List.map_cons, ARepL]
      exact ⟨_, _, rfl, (rdOk hf h.1).un hc.1, ih h.2 hc.2⟩

theorem ARepL.append {U : Nat → Prop} {as bs : List AV} {vs us : List Value} (h : ARepL w U ι as vs) (k : ARepL w U ι bs us) : ARepL w U ι (as ++ bs) (vs ++ us) := by
  induction as generalizing vs with
  | nil => simp only [ARepL] at h; subst h; simpa using k
  | cons a as ih => simp only [ARepL] at h; obtain ⟨v, r, rfl, h1, h2⟩ := h; simp only [List.cons_append, ARepL]; exact ⟨v, _, rfl, h1, ih h2⟩

theorem FRep.setD {U : Nat → Prop} (hf : FRep w U ι fr a) (d : Option Nat) {r : AV} {v : Value} (hr : ARep w U ι r v) : FRep w U ι (Zf fr d r) (a.put d v) := by
  cases d with
  | none => exact hf
  | some d => exact hf.put d hr

/-- A call of a function of the program, entered. -/
theorem run_enter {f : FuncId} (hf : fnB P f = true) (args : Array Value) (w : World) : (callFunc f args).run P w = .ok (.enter f args) w := by
  unfold fnB at hf
  split at hf
  · rename_i fn hfn
    simp only [Bool.and_eq_true, bne_iff_ne, ne_eq] at hf
    have hb : fn.body.isNone = false := by cases hq : fn.body <;> simp_all
    simp only [callFunc, Sem.run_bind, run_program, Result.andThen_ok, hfn]
    rw [show (fn.name == "runtime.NumGoroutine") = false from by simpa using hf.2]
    simp [hb]
  · cases hf

/-- What a call does to the rest. -/
theorem call_ok {f : FuncId} {as : List AV} {vs : List Value} {d : Option Nat} {K : List AV → Objs → Prop} {R : Ending → World → Prop} (hs : StF E B w L ι fr a) (hA : ARepL w (fun b => Own L ι b ∨ B.X b) ι as vs) (h : CallOp P E f as L d fr K)
    (hR : ∀ v w' fr' L' ι', K fr' L' → StF E B w' L' ι' fr' (a.put d v) → R (.returned v) w') : Calls P f vs.toArray w R := by
  rcases h with ⟨φ, hp, hk⟩ | ⟨bk, post, hgc, hh, hsep, hk⟩ | ⟨i, hg⟩
  · refine (hp w B.X ι vs hs.1.sim (fun b hb => hs.1.x_own hb) hs.1.env (fun b hb => hs.1.e_own hb) hA).mono ?_
    rintro e w' ⟨v, x, rfl, hx, hr, hG⟩
    have h1 := hs.grown hG
    exact hR v w' _ _ ι (hk x hx) ⟨h1.1, h1.2.1.setD d (r := .p x) hr, by rw [Act.put_defers']; exact h1.2.2⟩
  · refine (hgc w B.X ι vs hs.1.sim (fun b hb => hs.1.x_own hb) hs.1.env (fun b hb => hs.1.e_own hb) hA).mono ?_
    rintro e w' ⟨v, r, os', rfl, hp, hr, hb⟩
    have hk := hk r os' hp
    -- the state behind the call, the result not yet laid down
    have h1 : StF E B w' (putB L bk os') ι fr a ∧ (∀ b, Own (putB L bk os') ι b ↔ Own L ι b) := by
      cases bk with
      | none => exact ⟨hs.grown hb, fun b => Iff.rfl⟩
      | some q =>
        obtain ⟨k, os⟩ := q
        obtain ⟨hG, hat⟩ := hb
        have hO : ∀ b, Own (Zas L k os'.ao) ι b ↔ Own L ι b := by
          intro b
          constructor
          · rintro ⟨j, q, e1, e2⟩
            rw [look_putO] at e1
            by_cases e : j = k
            · exact ⟨k, _, hh, by rw [← e]; exact e2⟩
            · rw [if_neg e] at e1; exact ⟨j, q, e1, e2⟩
          · rintro ⟨j, q, e1, e2⟩
            by_cases e : j = k
            · exact ⟨k, _, by rw [look_putO, if_pos rfl], by rw [← e]; exact e2⟩
            · exact ⟨j, q, by rw [look_putO, if_neg e]; exact e1, e2⟩
        exact ⟨hs.wr k _ os'.ao hh hG (hat.mono (fun b hlt hu => ⟨rfl, fun h => hu (.inl (h.imp (hO b).1 id))⟩) (fun _ _ => rfl)).ok, hO⟩
    obtain ⟨h1, hO⟩ := h1
    have hkU : Keeps w' w' (fun b => Own L ι b ∨ B.X b) (fun b => Own (putB L bk os') ι b ∨ B.X b) := fun b _ hu => ⟨rfl, fun h => hu (h.imp (hO b).1 id)⟩
    cases r with
    | p x => exact hR v w' _ _ ι hk ⟨h1.1, h1.2.1.setD d (r := .p x) (PRep.mono hkU _ _ hr), by rw [Act.put_defers']; exact h1.2.2⟩
    | fr es e z =>
      cases d with
      | none => exact hR v w' _ _ ι hk h1
      | some d =>
        obtain ⟨vs', r1, r2, r3, r4, r5⟩ := hr
        have hsl : ∃ A n c, v = .slice A n c := by
          rcases r1.2 with ⟨q1, _⟩ | ⟨g, cap, cur, fz, q1, _⟩
          · exact ⟨none, 0, 0, q1⟩
          · exact ⟨_, _, _, q1⟩
        have fin : StF E B w' (Zau (putB L bk os') (.l d) (.row es e z true)) (updI ι (.l d) v) (fr.map (·.kill (.l d))) a := by
          cases bk with
          | none =>
            have hG : Grow w w' (Old L ι (.l d)) := grow_any hb
            have hbv : ∀ b, blk v = some b → w.heap.size ≤ b ∨ Old L ι (.l d) b := fun b hb' => .inl (r5 b hb')
            refine hs.upd d v (.row es e z true) hG hbv ⟨vs', by simpa [updI] using r1, r2, ?_, r4⟩
            refine PRepL.mono (fun b hlt hu => ⟨rfl, ?_⟩) _ _ r3
            rintro (h' | h')
            · rcases own_updL h' with h'' | ⟨j, q, _, h2, h3⟩
              · exact hu (.inr h'')
              · exact hu (.inl (.inl ⟨j, q, h2, h3⟩))
            · exact hu (.inl (.inr h'))
          | some q =>
            obtain ⟨k, os⟩ := q
            obtain ⟨hG, hat⟩ := hb
            have hU : ∀ b, Own (Zau (Zas L k os'.ao) (.l d) (.row es e z true)) (updI ι (.l d) v) b → blk v = some b ∨ Own L ι b := by
              intro b hb'
              rcases own_updL hb' with h'' | ⟨j, q, _, h2, h3⟩
              · exact .inl h''
              · exact .inr ((hO b).1 ⟨j, q, h2, h3⟩)
            have hki : k ≠ .l d := hsep
            have hik : updI ι (.l d) v k = ι k := by simp [updI, hki]
            have hkill : os'.ao.kill (.l d) = os'.ao := by cases os' <;> simp [OS.ao, AO.kill, AV.kill, Function.comp_def]
            refine hs.wrupd d k hki _ os'.ao (.row es e z true) hh v hG r5 ?_ ⟨vs', by simpa [updI] using r1, r2, ?_, r4⟩
            · rw [hkill]
              refine ObjAt.ok ?_
              rw [hik]
              refine hat.mono (fun b hlt hu => ⟨rfl, ?_⟩) (fun _ _ => rfl)
              rintro (h' | h')
              · rcases hU b h' with h'' | h''
                · exact hu (.inr h'')
                · exact hu (.inl (.inl h''))
              · exact hu (.inl (.inr h'))
            · refine PRepL.mono (fun b hlt hu => ⟨rfl, ?_⟩) _ _ r3
              rintro (h' | h')
              · rcases hU b h' with h'' | h''
                · exact hu (.inr h'')
                · exact hu (.inl (.inl h''))
              · exact hu (.inl (.inr h'))
        exact hR v w' _ _ _ hk ⟨fin.1, fin.2.1.put d ⟨by simp [updI], hsl⟩, by rw [Act.put_defers']; exact fin.2.2⟩
  · refine (hg w B.X ι vs hs.1.sim (fun b hb => hs.1.x_own hb) hs.1.env (fun b hb => hs.1.e_own hb) hA).mono ?_
    rintro e w' ⟨v, r, L', ι', rfl, hk, hr, hB⟩
    have h1 := hs.back hB
    exact hR v w' _ _ ι' hk ⟨h1.1, h1.2.1.setD d hr, by rw [Act.put_defers']; exact h1.2.2⟩

def yieldV : Option Value → Option Bool
  | some (.bool b) => some b
  | _ => none
theorem gvalA_ok {U : Nat → Prop} {want : Bool} : ∀ {x : AV} {v : Value} {c0 : Bool}, ARep w U ι x v → Zh want x = some c0 → (yieldV (some v) == some want) = c0 := by
  intro x
  induction x with
  | p y =>
    intro v c0 hr h
    cases y <;> simp only [Zh, reduceCtorEq, Option.some.injEq] at h
    rename_i b
    have := PRep.bool_eq hr
    subst this
    subst h
    cases b <;> cases want <;> rfl
  | g c a ih =>
    intro v c0 hr h
    simp only [Zh, Option.map_eq_some_iff] at h
    obtain ⟨q, h1, h2⟩ := h
    cases c with
    | true => rw [ih (hr.1 rfl) h1, ← h2]; simp
    | false =>
      have := hr.2 rfl
      subst this
      simp at h2
      subst h2
      simp [yieldV]
  | _ => intro v c0 hr h; simp [Zh] at h
theorem gval_ok {U : Nat → Prop} (hf : FRep w U ι fr a) {ops : Array Oper} {j s : Nat} {want c0 : Bool} (hj : (ops[j]?).bind (·.dst) = some s) (h : Zg fr s want = some c0) : (yielded ops a.tmps j == some want) = c0 := by
  have hy : yielded ops a.tmps j = yieldV (a.tmps[s]?) := by
    unfold yielded yieldV
    rw [hj]
    simp only [Option.bind_some]
    cases a.tmps[s]? with
    | none => rfl
    | some v => cases v <;> rfl
  rw [hy]
  unfold Zg at h
  cases hq : fr[s]? with
  | none => rw [List.getD, hq] at h; simp [Zh] at h
  | some y =>
    rw [List.getD, hq] at h
    obtain ⟨v, hv, hr⟩ := hf.2 s y hq
    rw [hv]
    exact gvalA_ok hr h

theorem fz_ok (hs : StF E B w L ι fr a) {x : Opd} {k : Key} {z : Nat} {es : List (List PV)} (h : Zap fr L x = some (k, z, es)) : StF E B w (Zav k z es L) ι (fr.map (·.thaw k z es)) a := by
  unfold Zap at h
  split at h
  · split at h
    · rename_i hl
      simp only [Option.some.injEq, Prod.mk.injEq] at h
      obtain ⟨rfl, rfl, rfl⟩ := h
      exact hs.thaw hl
    · cases h
  · cases h

theorem adr_keys {U : Nat → Prop} {f : FuncId} {ks : List Key} (hk : ∀ k ∈ ks, ∃ b, ι k = .pointer (some ⟨b, 0, none⟩)) : ARepL w U ι (ks.map fun k => .adr k 0) (ks.map ι) := by
  induction ks with
  | nil => simp [ARepL]
  | cons k ks ih =>
    simp only [List.map_cons, ARepL]
    obtain ⟨b, hb⟩ := hk k (by simp)
    exact ⟨_, _, rfl, ⟨b, hb, hb⟩, ih (fun j hj => hk j (by simp [hj]))⟩

theorem chk_call {op : Op} {f : FuncId} {args : List Opd} (h : chkOp P op (.call f args) = true) : ∃ args0 ts, op = .call { callee := .value (.func f), args := args0, argTypes := ts } ∧ fnB P f = true ∧ okOpds args0.toList args = true := by
  cases op with
  | call c =>
    obtain ⟨callee, as, ts⟩ := c
    cases callee with
    | value x => cases x with
      | func g =>
        simp only [chkOp, Bool.and_eq_true, beq_iff_eq] at h
        obtain ⟨⟨rfl, h1⟩, h2⟩ := h
        exact ⟨as, ts, rfl, h1, h2⟩
      | _ => simp [chkOp] at h
    | invoke r m => simp [chkOp] at h
    | builtin b => cases b <;> simp [chkOp] at h
  | _ => simp [chkOp] at h
theorem chk_pcall {op : Op} {n : Nat} {f : FuncId} {args : List Opd} (h : chkOp P op (.pcall n f args) = true) : chkOp P op (.call f args) = true := by
  cases op with
  | call c =>
    obtain ⟨callee, as, ts⟩ := c
    cases callee with
    | value x => cases x with
      | func g => simpa only [chkOp] using h
      | _ => simp [chkOp] at h
    | invoke r m => simp [chkOp] at h
    | builtin b => cases b <;> simp [chkOp] at h
  | _ => simp [chkOp] at h
theorem chk_callv {op : Op} {g : Opd} {args : List Opd} (h : chkOp P op (.callv g args) = true) : ∃ t args0 ts, op = .call { callee := .value (.tmp t), args := args0, argTypes := ts } ∧ g = .t t ∧ okOpds args0.toList args = true := by
  cases op with
  | call c =>
    obtain ⟨callee, as, ts⟩ := c
    cases callee with
    | value x => cases x with
      | tmp t =>
        cases g with
        | t t' =>
          simp only [chkOp, Bool.and_eq_true, beq_iff_eq] at h
          obtain ⟨rfl, h2⟩ := h
          exact ⟨_, as, ts, rfl, rfl, h2⟩
        | _ => simp [chkOp] at h
      | _ => simp [chkOp] at h
    | invoke r m => simp [chkOp] at h
    | builtin b => cases b <;> simp [chkOp] at h
  | _ => simp [chkOp] at h
theorem chk_fz {op : Op} {x : Opd} (h : chkOp P op (.fz x) = true) : False := by
  cases op with
  | call c =>
    obtain ⟨callee, as, ts⟩ := c
    cases callee with
    | value x => cases x <;> simp [chkOp] at h
    | invoke r m => simp [chkOp] at h
    | builtin b => cases b <;> simp [chkOp] at h
  | _ => simp [chkOp] at h

theorem chk_hole {op : Op} {x : Nat} (h : chkOp P op (.hole x) = true) : False := by
  cases op with
  | call c =>
    obtain ⟨callee, as, ts⟩ := c
    cases callee with
    | value x => cases x <;> simp [chkOp] at h
    | invoke r m => simp [chkOp] at h
    | builtin b => cases b <;> simp [chkOp] at h
  | _ => simp [chkOp] at h
theorem slOf_nil (hs : StF E B w L ι fr a) {x : AV} {v : Value} {q : Nat × List (List PV)} (e : Zv L x = some q) (h : ARep w (fun b => Own L ι b ∨ B.X b) ι x v) : ∃ A n c, v = .slice A n c ∧ (q.2 ≠ [] → A.isNone = false) := by
  unfold Zv at e
  split at e
  · cases e
    obtain ⟨A, c, rfl, _, h2⟩ := h
    exact ⟨A, _, c, rfl, fun hne => by obtain ⟨b, off, rfl, _⟩ := h2 hne; rfl⟩
  · cases e
    exact ⟨none, 0, 0, h, fun hne => absurd rfl hne⟩
  · split at e
    · rename_i hl
      cases e
      obtain ⟨vs, hown, _⟩ := hs.1.sim.obj _ _ hl
      rcases hown.2 with ⟨g1, g2⟩ | ⟨g, cap, cur, fz, g1, _⟩
      · exact ⟨none, 0, 0, by rw [h.1, g1], fun hne => absurd (List.eq_nil_of_length_eq_zero g2) hne⟩
      · exact ⟨_, _, cap, by rw [h.1, g1], fun _ => rfl⟩
    · cases e
  · cases e
theorem chk_isn {op : Op} {x' : Opd} (h : chkOp P op (.isn x') = true) : ∃ t x y t', op = .binOp .eql t x y t' ∧ okOpd x x' = true ∧ okOpd y (.c (.nl 0)) = true ∧ ∃ e, P.underlying t = some (.slice e) := by
  cases op with
  | call c =>
    obtain ⟨callee, as, ts⟩ := c
    cases callee with
    | value x => cases x <;> simp [chkOp] at h
    | invoke r m => simp [chkOp] at h
    | builtin b => cases b <;> simp [chkOp] at h
  | binOp op t x y t' =>
    simp only [chkOp, Bool.and_eq_true, beq_iff_eq] at h
    obtain ⟨⟨⟨rfl, h1⟩, h2⟩, h3⟩ := h
    obtain ⟨e, he⟩ := Option.isSome_iff_exists.1 h3
    exact ⟨t, x, y, t', rfl, h1, h2, e, slT_eq he⟩
  | _ => simp [chkOp] at h
theorem hole_ok (hs : StF E B w L ι fr a) (d : Nat) : StF E B w (Zau L (.l d) Zam) (updI ι (.l d) (.slice none 0 0)) (fr.map (·.kill (.l d))) a :=
  hs.upd d (.slice none 0 0) Zam (Grow.refl _ _) (by simp [blk]) ⟨[], ⟨by simp, .inl ⟨by simp [updI], rfl⟩⟩, by simp, by simp [PRepL], by simp⟩

theorem eff_wp {c : Prop} {fr' : List AV} {L' : Objs} (h : Eff1 P o fr L c fr' L') (hc : c) (hs : StF E B w L ι fr a) {next : Act → World → Prop} {Q : Exit → Act → World → Prop} (hn : ∀ ι' a' w', StF E B w' L' ι' fr' a' → next a' w') : o.wp P a w next Q := by
  obtain ⟨v, nx, w', ι', hr, hx, hs'⟩ := h E B w ι a hs hc
  unfold Oper.wp
  rw [hr]
  rcases hx with rfl | ⟨rfl, rfl⟩
  · exact hn ι' _ w' hs'
  · exact hn ι' _ w' hs'

theorem boxK_ok (h : Sim w X L ι) {ks : List Key} (hk : Zk L (ks.map fun k => .adr k 0) = true) : ∀ k ∈ ks, ∃ b, ι k = .pointer (some ⟨b, 0, none⟩) := by
  induction ks with
  | nil => simp
  | cons k ks ih =>
    simp only [List.map_cons, Zk, Bool.and_eq_true] at hk
    intro j hj
    simp only [List.mem_cons] at hj
    rcases hj with rfl | hj
    · have := hk.1
      split at this
      · rename_i cs t hl
        obtain ⟨b, vs, e1, _⟩ := h.obj j _ hl
        exact ⟨b, e1⟩
      · cases this
    · exact ih hk.2 j hj
theorem arepL_p {w : World} {U : Nat → Prop} {ι : Key → Value} {ps : List PV} {vs : List Value} (h : PRepL w U ps vs) : ARepL w U ι (ps.map .p) vs := by
  induction ps generalizing vs with
  | nil => exact h
  | cons x r ih =>
    simp only [PRepL] at h
    obtain ⟨v, s, rfl, h1, h2⟩ := h
    exact ⟨v, s, rfl, h1, ih h2⟩
/-- A function's value: what it is, and what it brings along. -/
theorem fn_rep (h : Sim w X L ι) {U : Nat → Prop} {fr : List AV} {g : Opd} {f : FuncId} {as : List AV} (hf : Zaq fr g = some (f, as)) (hk : Zk L as = true) {v : Value} (hv : ARep w U ι (rd fr g).un.2 v) : ∃ us : List Value, v = .func (.func f) #[] us.toArray ∧ ARepL w U ι as us := by
  unfold Zaq at hf
  split at hf
  · rename_i c f' ks e
    simp only [Option.some.injEq, Prod.mk.injEq] at hf
    obtain ⟨rfl, rfl⟩ := hf
    rw [e] at hv
    exact ⟨ks.map ι, hv, adr_keys (f := f') (boxK_ok h hk)⟩
  · rename_i c f' ps e
    simp only [Option.some.injEq, Prod.mk.injEq] at hf
    obtain ⟨rfl, rfl⟩ := hf
    rw [e] at hv
    obtain ⟨vs, e2, h2⟩ := hv
    exact ⟨vs, e2, arepL_p h2⟩
  · cases hf

set_option maxHeartbeats 2000000 in
/-- One operation in front of others. -/
theorem oper_sound0 {Y : List PV} {ops : Array Oper} {i : IOper} {is : List IOper} {K : List AV → Objs → Prop} (hchk : chkOper0 P ops o i = true) (hfz : isFz i = false) (h : awpOps P E Y (i :: is) fr L K) (hs : StF E B w L ι fr a)
    {next : Act → World → Prop} {Q : Exit → Act → World → Prop} (hn : ∀ fr' L' ι' a' w', awpOps P E Y is fr' L' K → StF E B w' L' ι' fr' a' → next a' w') :
    if Region.wanted o (yielded ops a.tmps) then o.wp P a w next Q else next (a.put o.dst undef) w := by
  obtain ⟨d, op, gd⟩ := i
  simp only [chkOper0, Bool.and_eq_true, beq_iff_eq, Bool.or_eq_true, Bool.not_eq_true'] at hchk
  obtain ⟨⟨⟨hd, hop⟩, hst⟩, hgd⟩ := hchk
  have hst' : isSt op = true → d = none := fun e => by rcases hst with h | h; rw [e] at h; cases h; exact h
  have callCase : ∀ (f : FuncId) (args : List Opd), chkOp P o.op (.call f args) = true → Zl fr args → CallOp P E f (Zm fr args) L d fr (fun fr L => awpOps P E Y is fr L K) → o.wp P a w next Q := by
    intro f args hop hc h
    obtain ⟨args0, ts, ho, h1, h2⟩ := chk_call hop
    have hrun : (execOp a.eval o).run P w = .ok (.enter f (args0.map a.eval)) w := by
      simp only [execOp, ho, resolve, Act.eval, Deferred.ofValue, Sem.run_bind, Sem.run_pure, Result.andThen_ok, invoke, run_enter h1]
      simp
    unfold Oper.wp
    rw [hrun, Oper.upon_enter]
    have hA := argsRep hs.2.1 h2 hc
    have e3 : args0.map a.eval = (args0.toList.map a.eval).toArray := by apply Array.ext'; simp
    rw [e3]
    exact call_ok hs hA h (fun v w' fr' L' ι' hk hs' => hn fr' L' ι' _ w' hk (by rw [hd]; exact hs'))
  have pureCase : ∀ (f : FuncId) (args : List Opd) (x : PV) (r : AV), chkOp P o.op (.call f args) = true → Zl fr args → PureC P E f (Zm fr args) L (· = x) → (∀ w' v, StF E B w' L ι fr a → PRep w' (fun b => Own L ι b ∨ B.X b) x v → ARep w' (fun b => Own L ι b ∨ B.X b) ι r v) → awpOps P E Y is (Zf fr d r) L K → o.wp P a w next Q := by
    intro f args x r hop hc hp hrr hk
    obtain ⟨args0, ts, ho, h1, h2⟩ := chk_call hop
    have hrun : (execOp a.eval o).run P w = .ok (.enter f (args0.map a.eval)) w := by
      simp only [execOp, ho, resolve, Act.eval, Deferred.ofValue, Sem.run_bind, Sem.run_pure, Result.andThen_ok, invoke, run_enter h1]
      simp
    unfold Oper.wp
    rw [hrun, Oper.upon_enter]
    have hA := argsRep hs.2.1 h2 hc
    have e3 : args0.map a.eval = (args0.toList.map a.eval).toArray := by apply Array.ext'; simp
    rw [e3]
    refine (hp w B.X ι _ hs.1.sim (fun b hb => hs.1.x_own hb) hs.1.env (fun b hb => hs.1.e_own hb) hA).mono ?_
    rintro e w' ⟨v, y, rfl, rfl, hr, hG⟩
    have h1 := hs.grown hG
    exact hn _ _ ι _ w' hk ⟨h1.1, by rw [hd]; exact h1.2.1.setD d (hrr w' v h1 hr), by rw [Act.put_defers']; exact h1.2.2⟩
  have runv : ∀ (g : Opd) (args : List Opd) (f : FuncId) (ks : List AV), chkOp P o.op (.callv g args) = true → Zaq fr g = some (f, ks) → (rd fr g).un.1 → fnB P f = true → Zk L ks = true → Zl fr args →
      ∃ vs : List Value, ARepL w (fun b => Own L ι b ∨ B.X b) ι (Zm fr args ++ ks) vs ∧ (execOp a.eval o).run P w = .ok (.enter f vs.toArray) w := by
    intro g args f ks hop hfn h0 hfb hbk hc
    obtain ⟨t, args0, ts, ho, rfl, h2⟩ := chk_callv hop
    obtain ⟨us, hg', hus⟩ := fn_rep hs.1.sim hfn hbk ((rdOk hs.2.1 (show okOpd (.tmp t) (.t t) = true by simp [okOpd])).un h0)
    have hrun : (execOp a.eval o).run P w = .ok (.enter f (args0.map a.eval ++ us.toArray)) w := by
      simp only [execOp, ho, resolve, hg', Deferred.ofValue, Sem.run_bind, Sem.run_pure, Result.andThen_ok, invoke]
      simp [run_enter hfb]
    have hA := (argsRep hs.2.1 h2 hc).append hus
    have e3 : args0.map a.eval ++ us.toArray = (args0.toList.map a.eval ++ us).toArray := by apply Array.ext'; simp
    rw [e3] at hrun
    exact ⟨_, hA, hrun⟩
  have callvCase : ∀ (g : Opd) (args : List Opd) (f : FuncId) (ks : List AV), chkOp P o.op (.callv g args) = true → Zaq fr g = some (f, ks) → (rd fr g).un.1 → fnB P f = true → Zk L ks = true → Zl fr args → CallOp P E f (Zm fr args ++ ks) L d fr (fun fr L => awpOps P E Y is fr L K) → o.wp P a w next Q := by
    intro g args f ks hop hfn h0 hfb hbk hc h
    obtain ⟨vs, hA, hrun⟩ := runv g args f ks hop hfn h0 hfb hbk hc
    unfold Oper.wp
    rw [hrun, Oper.upon_enter]
    exact call_ok hs hA h (fun v w' fr' L' ι' hk hs' => hn fr' L' ι' _ w' hk (by rw [hd]; exact hs'))
  have purevCase : ∀ (g : Opd) (args : List Opd) (f : FuncId) (ks : List AV) (x : PV) (r : AV), chkOp P o.op (.callv g args) = true → Zaq fr g = some (f, ks) → (rd fr g).un.1 → fnB P f = true → Zk L ks = true → Zl fr args → PureC P E f (Zm fr args ++ ks) L (· = x) → (∀ w' v, PRep w' (fun b => Own L ι b ∨ B.X b) x v → ARep w' (fun b => Own L ι b ∨ B.X b) ι r v) → awpOps P E Y is (Zf fr d r) L K → o.wp P a w next Q := by
    intro g args f ks x r hop hfn h0 hfb hbk hc hp hrr hk
    obtain ⟨vs, hA, hrun⟩ := runv g args f ks hop hfn h0 hfb hbk hc
    unfold Oper.wp
    rw [hrun, Oper.upon_enter]
    refine (hp w B.X ι _ hs.1.sim (fun b hb => hs.1.x_own hb) hs.1.env (fun b hb => hs.1.e_own hb) hA).mono ?_
    rintro e w' ⟨v, y, rfl, rfl, hr, hG⟩
    have h1 := hs.grown hG
    exact hn _ _ ι _ w' hk ⟨h1.1, by rw [hd]; exact h1.2.1.setD d (hrr w' v hr), by rw [Act.put_defers']; exact h1.2.2⟩
  cases gd with
  | none =>
    have hgn : o.guard = none := by cases hq : o.guard <;> simp_all
    have hw : Region.wanted o (yielded ops a.tmps) = true := by simp [Region.wanted, hgn]
    rw [if_pos hw]
    cases op with
    | call f args =>
      simp only [awpOps] at h
      exact callCase f args hop h.1 h.2
    | pcall n f args =>
      simp only [awpOps] at h
      exact pureCase f args _ (.p _) (chk_pcall hop) h.1.1 h.1.2 (fun w' v _ hr => hr) h.2
    | callv g args =>
      simp only [awpOps] at h
      split at h
      · rename_i f ks hfn
        obtain ⟨h0, hfb, hbk, hc, h⟩ := h
        exact callvCase g args f ks hop hfn h0 hfb hbk hc h
      · exact h.elim
    | fz x => exact (chk_fz hop).elim
    | hole x => exact (chk_hole hop).elim
    | isn x =>
      simp only [awpOps] at h
      split at h
      · rename_i z es e
        obtain ⟨h0, h⟩ := h
        obtain ⟨t, x0, y0, t', ho, h1, h2, et, ht⟩ := chk_isn hop
        obtain ⟨A, n, c, e3, e4⟩ := slOf_nil hs e ((rdOk hs.2.1 h1).un h0)
        have hy : a.eval y0 = .slice none 0 0 := rdOk hs.2.1 h2
        have hrun : (execOp a.eval o).run P w = .ok (.value (.bool A.isNone)) w := by
          simp only [execOp, ho, e3, hy, Sem.run_bind]
          have := Lib.run_eql_slice_nil (P := P) w t et A n c 0 0 ht
          rw [run_guard (by simp) (by simp), Result.andThen_ok, this]
          rfl
        unfold Oper.wp
        rw [hrun, Oper.upon_value]
        exact hn _ _ ι _ w (h A.isNone (fun hA => Classical.byContradiction fun hne => by rw [e4 hne] at hA; cases hA)) ⟨hs.1, by rw [hd]; exact hs.2.1.setD d (r := .p (.bool A.isNone)) rfl, by rw [Act.put_defers']; exact hs.2.2⟩
      · exact h.elim
    | dcall b f args => exact absurd hop (by unfold chkOp; split <;> simp_all)
    | _ =>
      simp only [awpOps] at h
      split at h
      · rename_i c fr' L' he
        exact eff_wp (estep_sound hop hd hst' he) h.1 hs (fun ι' a' w' hs' => hn _ _ ι' a' w' h.2 hs')
      · exact h.elim
  | some sw =>
    obtain ⟨s, want⟩ := sw
    obtain ⟨j, hj, hjs⟩ : ∃ j, o.guard = some (j, want) ∧ (ops[j]?).bind (·.dst) = some s := by
      cases hq : o.guard with
      | none => rw [hq] at hgd; simp at hgd
      | some q => obtain ⟨j, w1⟩ := q; rw [hq] at hgd; simp only [Bool.and_eq_true, beq_iff_eq] at hgd; exact ⟨j, by rw [hgd.1], hgd.2⟩
    have hskip : ∀ c0 x, c0 = false → StF E B w L ι (Zf fr d (.g c0 x)) (a.put o.dst undef) := by
      intro c0 x e
      subst e
      exact ⟨hs.1, by rw [hd]; exact hs.2.1.setD d ⟨(fun h => by cases h), fun _ => rfl⟩, by rw [Act.put_defers']; exact hs.2.2⟩
    simp only [awpOps] at h
    split at h
    · rename_i c0 hc0
      have hy := gval_ok hs.2.1 hjs hc0
      have hw : Region.wanted o (yielded ops a.tmps) = c0 := by simp only [Region.wanted, hj]; exact hy
      rw [hw]
      cases op with
      | call f args =>
        simp only at h
        rcases h with ⟨hc, ⟨x, hx, hk⟩ | ⟨ht, hf⟩⟩
        · cases c0 with
          | true =>
            rw [if_pos rfl]
            exact pureCase f args x (.g true (.p x)) hop (hc rfl) (hx rfl) (fun w' v _ hr => ⟨fun _ => hr, fun h => by cases h⟩) hk
          | false =>
            rw [if_neg (by simp)]
            exact hn _ _ ι _ w hk (hskip _ _ rfl)
        · cases c0 with
          | true =>
            rw [if_pos rfl]
            exact callCase f args hop (hc rfl) (ht rfl)
          | false =>
            rw [if_neg (by simp)]
            exact hn _ _ ι _ w (hf rfl) (hskip _ _ rfl)
      | pcall n f args =>
        simp only at h
        cases c0 with
        | true =>
          rw [if_pos rfl]
          exact pureCase f args _ (.g true (.p _)) (chk_pcall hop) (h.1 rfl).1 (h.1 rfl).2 (fun w' v _ hr => ⟨fun _ => hr, fun h => by cases h⟩) h.2
        | false =>
          rw [if_neg (by simp)]
          exact hn _ _ ι _ w h.2 (hskip _ _ rfl)
      | callv g args =>
        simp only at h
        split at h
        · rename_i f ks hfn
          obtain ⟨⟨hfb, hbk⟩, hc, ⟨x, hx, hk⟩ | ⟨ht, hf⟩⟩ := h
          · cases c0 with
            | true =>
              rw [if_pos rfl]
              exact purevCase g args f ks x (.g true (.p x)) hop hfn (hc rfl).1 hfb hbk (hc rfl).2 (hx rfl) (fun w' v hr => ⟨fun _ => hr, fun h => by cases h⟩) hk
            | false =>
              rw [if_neg (by simp)]
              exact hn _ _ ι _ w hk (hskip _ _ rfl)
          · cases c0 with
            | true =>
              rw [if_pos rfl]
              exact callvCase g args f ks hop hfn (hc rfl).1 hfb hbk (hc rfl).2 (ht rfl)
            | false =>
              rw [if_neg (by simp)]
              exact hn _ _ ι _ w (hf rfl) (hskip _ _ rfl)
        · obtain ⟨rfl, h⟩ := h
          rw [if_neg (by simp)]
          exact hn _ _ ι _ w h (hskip _ _ rfl)
      | _ =>
        simp only at h
        split at h
        · rename_i c r he
          cases c0 with
          | true =>
            rw [if_pos rfl]
            have hv := step_sound hop he
            obtain ⟨v, w', e, hG, hr⟩ := hv E B w ι a hs (h.1 rfl)
            have h1 := hs.grown hG
            unfold Oper.wp
            rw [e, Oper.upon_value]
            exact hn _ _ ι _ w' h.2 ⟨h1.1, by rw [hd]; exact h1.2.1.setD d (r := .g true r) ⟨fun _ => hr, fun h => by cases h⟩, by rw [Act.put_defers']; exact h1.2.2⟩
          | false =>
            rw [if_neg (by simp)]
            exact hn _ _ ι _ w h.2 (hskip _ _ rfl)
        · obtain ⟨_, rfl, h⟩ := h
          rw [if_neg (by simp)]
          exact hn _ _ ι _ w h (hskip _ _ rfl)
    · exact h.elim

theorem ldl_ld {sz : Nat} {ag : Bool} {x : Opd} {q : Prop × AV} (h : Ze fr L (.ldl sz ag x) = some q) : Ze fr L (.ld sz ag x) = some q := by
  simp only [Ze] at h ⊢
  split at h
  · rename_i e; rw [e]; exact h
  · rename_i e; rw [e]; exact h
  · cases h

theorem DCallOp.call {b : Bool} {f : FuncId} {as : List AV} {d : Option Nat} {K : List AV → Objs → Prop} (h : DCallOp b P E f as L d fr K) : CallOp P E f as L d fr K := by
  obtain ⟨k, t, cs, post, h1, h2, h3, h4, h5, h6⟩ := h
  refine .inr (.inl ⟨some (k, .box t cs), _, h1 L h2, h2, ?_, ?_⟩)
  · cases d with
    | none => trivial
    | some e => exact h3 e rfl
  · rintro r os' ⟨x, cs', rfl, rfl, hp⟩
    exact h6 x cs' hp

theorem awpOps_norm {Y : List PV} {i : IOper} {is : List IOper} {K : List AV → Objs → Prop} (h : awpOps P E Y (i :: is) fr L K) : awpOps P E Y ({ i with op := i.op.norm } :: is) fr L K := by
  obtain ⟨d, op, gd⟩ := i
  cases op
  case ldl sz ag x =>
    simp only [IOp.norm]
    cases gd with
    | none =>
      simp only [awpOps, Zd] at h ⊢
      split at h
      · rename_i c fr' L' e
        obtain ⟨q, e1, e2⟩ := Option.map_eq_some_iff.1 e
        rw [ldl_ld e1]
        simp only [Option.map_some, e2]
        exact h
      · exact h.elim
    | some sw =>
      obtain ⟨s, want⟩ := sw
      simp only [awpOps] at h ⊢
      split at h
      · split at h
        · rename_i c r e
          rw [ldl_ld e]
          exact h
        · simp [plainOp] at h
      · exact h.elim
  case dcall b f args =>
    simp only [IOp.norm]
    cases gd with
    | none =>
      simp only [awpOps] at h ⊢
      exact ⟨h.1, h.2.call⟩
    | some sw =>
      obtain ⟨s, want⟩ := sw
      simp only [awpOps, Ze] at h
      split at h
      · simp [plainOp] at h
      · exact h.elim
  case alcd t zero =>
    simp only [IOp.norm]
    cases gd with
    | none =>
      simp only [awpOps, Zd] at h ⊢
      cases d with
      | none => exact h
      | some d =>
        obtain ⟨⟨⟨h1, h2⟩, _⟩, h⟩ := h
        simp only [Zau, h1, h2]
        exact ⟨trivial, h⟩
    | some sw =>
      obtain ⟨s, want⟩ := sw
      simp only [awpOps, Ze] at h
      split at h
      · simp [plainOp] at h
      · exact h.elim
  case bsrd e z parts =>
    simp only [IOp.norm]
    cases gd with
    | none =>
      simp only [awpOps, Zd] at h ⊢
      cases d with
      | none => exact h
      | some d =>
        cases hb : Zan fr z parts with
        | none => rw [hb] at h; exact h
        | some q =>
          rw [hb] at h
          obtain ⟨⟨⟨⟨h1, h2⟩, _⟩, hc⟩, h⟩ := h
          simp only [Zau, h1, h2]
          exact ⟨hc, h⟩
    | some sw =>
      obtain ⟨s, want⟩ := sw
      simp only [awpOps, Ze] at h
      split at h
      · simp [plainOp] at h
      · exact h.elim
  all_goals exact h

theorem oper_sound {Y : List PV} {ops : Array Oper} {i : IOper} {is : List IOper} {K : List AV → Objs → Prop} (hchk : chkOper P ops o i = true) (hfz : isFz i = false) (h : awpOps P E Y (i :: is) fr L K) (hs : StF E B w L ι fr a)
    {next : Act → World → Prop} {Q : Exit → Act → World → Prop} (hn : ∀ fr' L' ι' a' w', awpOps P E Y is fr' L' K → StF E B w' L' ι' fr' a' → next a' w') :
    if Region.wanted o (yielded ops a.tmps) then o.wp P a w next Q else next (a.put o.dst undef) w := by
  simp only [chkOper, Bool.or_eq_true] at hchk
  rcases hchk with hd | hchk
  · obtain ⟨d, op, gd⟩ := i
    cases op <;> simp only [isDead, Bool.false_eq_true] at hd
    cases gd with
    | none => simp only [awpOps, Zd, Ze, Option.map_none] at h
    | some sw =>
      obtain ⟨s, want⟩ := sw
      simp only [awpOps, Ze] at h
      split at h
      · simp [plainOp] at h
      · exact h.elim
  · refine oper_sound0 hchk ?_ (awpOps_norm h) hs hn
    obtain ⟨d, op, gd⟩ := i
    cases op <;> first | exact hfz | (simp only [IOp.norm]; cases d <;> cases gd <;> rfl)


theorem Zc.look {L L' : Objs} (h : Zc L' L) : ∀ (k : Key) (a : AO), Zar L' k = some a → Zar L k = some a := by
  induction L' with
  | nil => intro k a h; simp [Go.Proofs.YtndjmidmfmcbkaaGreatDoor.Zar] at h
  | cons q r ih =>
    intro k a hk
    obtain ⟨k', a'⟩ := q
    simp only [Zc] at h
    simp only [Go.Proofs.YtndjmidmfmcbkaaGreatDoor.Zar] at hk
    split at hk
    · rename_i e; cases hk; rw [← e]; exact h.1
    · exact ih h.2 k a hk
theorem Za.get : ∀ {as bs : List AV}, Za as bs → as.length = bs.length ∧ ∀ (i : Nat) (b : AV), bs[i]? = some b → ∃ a, as[i]? = some a ∧ Zb a b := by
  intro as
  induction as with
  | nil => intro bs h; cases bs with
    | nil => simp
    | cons b bs => exact h.elim
  | cons a as ih => intro bs h; cases bs with
    | nil => exact h.elim
    | cons b bs =>
      simp only [Za] at h
      obtain ⟨h1, h2⟩ := ih h.2
      refine ⟨by simp [h1], fun i x hx => ?_⟩
      cases i with
      | zero => simp at hx; subst hx; exact ⟨a, rfl, h.1⟩
      | succ i => simp at hx; simpa using h2 i x hx
theorem Zb.rep {U : Nat → Prop} {x y : AV} {v : Value} (h : Zb x y) (hr : ARep w U ι x v) : ARep w U ι y v := by
  unfold Zb at h
  split at h
  · trivial
  · subst h; exact hr

theorem StF.weak {fr' : List AV} (hs : StF E B w L ι fr a) (h1 : Za fr fr') (h2 : Zc L' L) : StF E B w L' ι fr' a := by
  obtain ⟨h, hf, hd⟩ := hs
  have hl := Zc.look h2
  have hO : ∀ b, Own L' ι b → Own L ι b := fun b ⟨k, q, e1, e2⟩ => ⟨k, q, hl k q e1, e2⟩
  have hk : Keeps w w (fun b => Own L ι b ∨ B.X b) (fun b => Own L' ι b ∨ B.X b) := fun b _ hu => ⟨rfl, fun h => hu (h.imp (hO b) id)⟩
  obtain ⟨g1, g2⟩ := h1.get
  refine ⟨⟨h.grow, ⟨fun j q hj => ?_, fun j j' q q' b hj hj' => h.sim.inj j j' q q' b (hl j q hj) (hl j' q' hj')⟩, fun b hb => h.own b (hO b hb), h.xlt, fun k h0 h1 => ?_, h.env, h.envb, h.loc, h.xdis⟩, ⟨by rw [hf.1, g1], fun i y hy => ?_⟩, hd⟩
  · have ho := h.sim.obj j q (hl j q hj)
    cases q with
    | box cs t =>
      obtain ⟨b, vs, e1, e2, e3, e4, e5⟩ := ho
      refine ⟨b, vs, e1, e2, e3, e4, fun i x hx => ?_⟩
      obtain ⟨u, hu, hr⟩ := e5 i x hx
      exact ⟨u, hu, hr.mono hk⟩
    | row es e z ap =>
      obtain ⟨vs, hown', e4, e5, e6⟩ := ho
      exact ⟨vs, hown', e4, PRepL.mono hk _ _ e5, e6⟩
    | map kv x y =>
      obtain ⟨r, ents, cl, e1, e2, e3⟩ := ho
      exact ⟨r, ents, cl, e1, e2, e3.1, PRepL.mono hk _ _ e3.2⟩
  · obtain ⟨q, hq⟩ := Option.isSome_iff_exists.1 h1
    exact h.keep k h0 (by rw [hl k q hq]; rfl)
  · obtain ⟨x, hx, hxy⟩ := g2 i y hy
    obtain ⟨v, hv, hr⟩ := hf.2 i x hx
    exact ⟨v, hv, (hxy.rep hr).mono hk⟩
end
end Go.Proofs.YtndjmidmfmcbkaaGreatDoor

/- Whole bodies: what awp says of a body holds of its run; contracts out of bodies. -/
namespace Go.Proofs.YtndjmidmfmcbkaaGreatDoor
set_option linter.unusedVariables false
set_option linter.unusedSimpArgs false
set_option linter.defProp false

section
variable {P : Program} {E : Envt} {B : Base} {w w' : World} {L L' : Objs} {ι ι' : Key → Value} {fr : List AV} {a : Act} {o : Oper} {X : Nat → Prop}

theorem isFz_eq {i : IOper} (h : isFz i = true) : (∃ x, i = ⟨none, .fz x, none⟩) ∨ ∃ x, i = ⟨none, .hole x, none⟩ := by
  unfold isFz at h
  split at h
  · exact .inl ⟨_, rfl⟩
  · exact .inr ⟨_, rfl⟩
  · cases h

theorem awpOps_fz {Y : List PV} {i : IOper} {is : List IOper} {K : List AV → Objs → Prop} (hi : isFz i = true) (h : awpOps P E Y (i :: is) fr L K) (hs : StF E B w L ι fr a) : ∃ fr' L' ι', awpOps P E Y is fr' L' K ∧ StF E B w L' ι' fr' a := by
  rcases isFz_eq hi with ⟨x, rfl⟩ | ⟨x, rfl⟩
  · simp only [awpOps] at h
    split at h
    · rename_i k z es hk; exact ⟨_, _, _, h, fz_ok hs hk⟩
    · exact ⟨_, _, _, h, hs⟩
  · simp only [awpOps] at h
    exact ⟨_, _, _, h, hole_ok hs x⟩

theorem awpOps_sound {Y : List PV} {ops : Array Oper} {K : List AV → Objs → Prop} {Q : Exit → Act → World → Prop} (hK : ∀ fr L ι a w, K fr L → StF E B w L ι fr a → Q .normal a w) : ∀ (is : List IOper) (os : List Oper) (fr : List AV) (L : Objs) (ι : Key → Value) (a : Act) (w : World),
    chkOps P ops os is = true → awpOps P E Y is fr L K → StF E B w L ι fr a → wpList P ops Q os a w := by
  intro is
  induction is with
  | nil =>
    intro os fr L ι a w hchk h hs
    simp only [chkOps, List.isEmpty_iff] at hchk
    subst hchk
    exact wpList_nil (hK fr L ι a w h hs)
  | cons i is ih =>
    intro os fr L ι a w hchk h hs
    simp only [chkOps] at hchk
    by_cases hf : isFz i = true
    · rw [if_pos hf] at hchk
      obtain ⟨fr', L', ι', h', hs'⟩ := awpOps_fz hf h hs
      exact ih os fr' L' ι' a w hchk h' hs'
    · rw [if_neg hf] at hchk
      split at hchk
      · rename_i o os'
        simp only [Bool.and_eq_true] at hchk
        refine wpList_step fun Kc hKc => ?_
        exact oper_sound hchk.1 (by simpa using hf) h hs (fun fr' L' ι' a' w' h' hs' => hKc a' w' (ih os' fr' L' ι' a' w' hchk.2 h' hs'))
      · cases hchk

/-- What a check of regions that draw their order must give. -/
def DrawOk (P : Program) (D : Array Oper → List IOper → Bool) : Prop :=
  ∀ (E : Envt) (B : Base) (Y : List PV) (ops : Array Oper) (is : List IOper) (id : Nat) (fr : List AV) (L : Objs) (ι : Key → Value) (a : Act) (w : World) (K : List AV → Objs → Prop) (Q : Exit → Act → World → Prop),
    (∀ fr L ι a w, K fr L → StF E B w L ι fr a → Q .normal a w) → chkOps P ops ops.toList is = true → D ops is = true → awpOps P E Y is fr L K → StF E B w L ι fr a → (Code.region id ops true).wp P Q a w

theorem awp_sound {D : Array Oper → List IOper → Bool} (hD : DrawOk P D) : ∀ (ic : IC) (c : Code) (fr : List AV) (L : Objs) (Q : AQ), chkC P D ic c = true → awp P E ic fr L Q → AWp P E c fr L Q := by
  intro ic
  induction ic with
  | skip => intro c fr L Q hc h; cases c <;> simp [chkC] at hc; exact AWp.skip h
  | reg ops =>
    intro c fr L Q hc h
    cases c with
    | region id os draw =>
      cases draw with
      | true => simp [chkC] at hc
      | false =>
        simp only [chkC] at hc
        intro B w ι a hs
        refine wp_region_list ?_
        exact awpOps_sound (Q := Q.conc E B) (fun fr L ι a w hk hs => ⟨fr, L, ι, hk, hs⟩) ops os.toList fr L ι a w hc h hs
    | _ => simp [chkC] at hc
  | drg ops =>
    intro c fr L Q hc h
    cases c with
    | region id os draw =>
      cases draw with
      | false => simp [chkC] at hc
      | true =>
        simp only [chkC, Bool.and_eq_true] at hc
        intro B w ι a hs
        obtain ⟨Y, h⟩ := h
        exact hD E B Y os ops id fr L ι a w _ (Q.conc E B) (fun fr L ι a w hk hs => ⟨fr, L, ι, hk, hs⟩) hc.1 hc.2 h hs
    | _ => simp [chkC] at hc
  | seq x y ihx ihy =>
    intro c fr L Q hc h
    cases c with
    | seq a b =>
      simp only [chkC, Bool.and_eq_true] at hc
      refine AWp.seq ((ihx a fr L _ hc.1 h).mono ?_)
      intro e fr L hq
      cases e <;> first | exact ihy b fr L Q hc.2 hq | exact hq
    | _ => simp [chkC] at hc
  | cond d x y ihx ihy =>
    intro c fr L Q hc h
    cases c with
    | cond c a b =>
      simp only [chkC, Bool.and_eq_true] at hc
      simp only [awp] at h
      split at h
      · rename_i t ht
        refine AWp.cond (b := t) (fun B w ι ac hs => ?_) (fun e => ihx a fr L Q hc.1.2 (h.1 e)) (fun e => ihy b fr L Q hc.2 (h.2 e))
        have := rdOk hs.2.1 hc.1.1
        rw [ht] at this
        exact PRep.bool_eq this
      · exact h.elim
    | _ => simp [chkC] at hc
  | block id x ih =>
    intro c fr L Q hc h
    cases c with
    | block j a =>
      simp only [chkC, Bool.and_eq_true, beq_iff_eq] at hc
      obtain ⟨rfl, hc⟩ := hc
      exact AWp.block (ih a fr L _ hc h)
    | _ => simp [chkC] at hc
  | loop x ih =>
    intro c fr L Q hc h
    cases c with
    | loop a =>
      simp only [chkC] at hc
      obtain ⟨I, ⟨n, fr0, L0, e1, e2, h0⟩, hr⟩ := h
      intro B w ι ac hs
      refine AWp.loop (Q := Q) I (fun n fr L hi => ?_) n h0 B w ι ac (hs.weak e1 e2)
      intro B w ι ac hs
      refine wp_mono (ih a fr L _ hc (hr n fr L hi) B w ι ac hs) ?_
      rintro e a' w' ⟨fr', L', ι', q, s⟩
      cases e with
      | normal => obtain ⟨m, fr2, L2, hm, e1, e2, hi⟩ := q; exact ⟨fr2, L2, ι', ⟨m, hm, hi⟩, s.weak e1 e2⟩
      | _ => exact ⟨fr', L', ι', q, s⟩
    | _ => simp [chkC] at hc
  | exit id =>
    intro c fr L Q hc h
    cases c with
    | exit j => simp only [chkC, beq_iff_eq] at hc; subst hc; exact AWp.exit h
    | _ => simp [chkC] at hc
  | ret =>
    intro c fr L Q hc h
    cases c with
    | ret => exact AWp.ret h
    | _ => simp [chkC] at hc
  | dead => intro c fr L Q hc h; exact h.elim
  | cut x ih =>
    intro c fr L Q hc h
    simp only [chkC] at hc
    obtain ⟨fr', L', e1, e2, h⟩ := h
    intro B w ι ac hs
    exact ih c fr' L' Q hc h B w ι ac (hs.weak e1 e2)
end
end Go.Proofs.YtndjmidmfmcbkaaGreatDoor

/- Contracts of functions out of their bodies. -/
namespace Go.Proofs.YtndjmidmfmcbkaaGreatDoor
set_option linter.unusedVariables false
set_option linter.unusedSimpArgs false
set_option linter.defProp false

inductive IRes where
  | t (i : Nat)
  | c (i sz : Nat) (ag : Bool)

/-- A slot's value as a plain one, rows given up. -/
def Zay (L : Objs) : AV → Option PV
  | .p x => some (wk1 x)
  | .row (.l i) => match Zar L (.l i) with
    | some (.row es _ z _) => some (.sl z es)
    | _ => none
  | _ => none
def Zaz (L : Objs) : List AV → Option (List PV)
  | [] => some []
  | x :: r => match Zay L x, Zaz L r with
    | some y, some l => some (y :: l)
    | _, _ => none
def Zax (fr : List AV) (L : Objs) : IRes → Option PV
  | .t i => match fr.getD i .any with
    | .p x => some (wk x)
    | a => Zay L a
  | .c i sz ag => match fr.getD i .any with
    | .adr k o => match Zar L k with
      | some (.box cs _) => if o + sz ≤ cs.length then (if ag then (Zaz L ((cs.drop o).take sz)).map .agg else Zay L (cs.getD o .any)) else none
      | _ => none
    | _ => none
def Zaw (fr : List AV) (L : Objs) : List IRes → Option (List PV)
  | [] => some []
  | r :: rs => match Zax fr L r, Zaw fr L rs with
    | some y, some l => some (y :: l)
    | _, _ => none
def mkRes : List PV → PV
  | [x] => x
  | l => .tup l

def okRes (P : Program) : ResultVar → IRes → Bool
  | .tmp t, .t i => t == i
  | .cell t ty, .c i sz ag => t == i && sizeB P ty sz && aggB P ty ag && (ag || sz == 1)
  | _, _ => false
def okResL (P : Program) : List ResultVar → List IRes → Bool
  | [], [] => true
  | x :: xs, y :: ys => okRes P x y && okResL P xs ys
  | _, _ => false

def RetK (q : Option (List PV)) (φ : PV → Objs → Prop) (L : Objs) : Prop :=
  match q with
  | some l => φ (mkRes l) L
  | none => False
theorem RetK_some {l : List PV} {φ : PV → Objs → Prop} {L : Objs} : RetK (some l) φ L = φ (mkRes l) L := rfl
theorem RetK_ex {q : Option (List PV)} {φ : PV → Objs → Prop} {L : Objs} (h : RetK q φ L) : ∃ l, q = some l ∧ φ (mkRes l) L := by
  cases q with
  | none => exact h.elim
  | some l => exact ⟨l, rfl, h⟩
theorem mkRes1 (x : PV) : mkRes [x] = x := rfl
theorem mkRes2 (x y : PV) : mkRes [x, y] = .tup [x, y] := rfl
theorem mkRes3 (x y z : PV) : mkRes [x, y, z] = .tup [x, y, z] := rfl

def retQ (rs : List IRes) (φ : PV → Objs → Prop) : AQ
  | .normal, fr, L => RetK (Zaw fr L rs) φ L
  | .ret, fr, L => RetK (Zaw fr L rs) φ L
  | _, _, _ => False

section
variable {P : Program} {E : Envt} {B : Base} {w w' : World} {L L' : Objs} {ι ι' : Key → Value} {fr : List AV} {a : Act} {o : Oper} {X : Nat → Prop}

/-- The blocks of borrowed objects. -/
def ZB (L : Objs) (ι : Key → Value) (X : Nat → Prop) (c : Nat) : Prop := X c ∨ ∃ i q, Zar L (.b i) = some q ∧ blk (ι (.b i)) = some c
theorem keeps_z (w : World) (L : Objs) (ι : Key → Value) (X : Nat → Prop) : Keeps w w (fun b => Own L ι b ∨ X b) (ZB L ι X) := fun b _ h => ⟨rfl, fun hx => by
  rcases hx with hx | ⟨i, q, h1, h2⟩
  · exact h (.inr hx)
  · exact h (.inl ⟨_, q, h1, h2⟩)⟩
theorem keeps_x (w : World) (L : Objs) (ι : Key → Value) (X : Nat → Prop) : Keeps w w (fun b => Own L ι b ∨ X b) X := fun b _ h => ⟨rfl, fun hx => h (.inr hx)⟩

theorem pvOf_ok (h : St E B w L ι) {x : AV} {y : PV} {v : Value} (e : Zay L x = some y) (hr : ARep w (fun b => Own L ι b ∨ B.X b) ι x v) : PRep w (ZB L ι B.X) y v ∧ v.oneCell' = true ∨ (∃ z, x = .p z ∧ y = wk1 z) ∧ PRep w (ZB L ι B.X) y v := by
  unfold Zay at e
  split at e
  · cases e; exact .inr ⟨⟨_, rfl, rfl⟩, (PRep.mono (keeps_z w L ι B.X) _ _ hr).wk1⟩
  · rename_i k0
    generalize hkk : Key.l k0 = k at e hr
    split at e
    · rename_i es e' z ap hl
      cases e
      left
      obtain ⟨vs, hrow, e4, e5, e6⟩ := h.sim.obj k _ hl
      rcases hrow.2 with ⟨g1, g2⟩ | ⟨g, cap, cur, fz, g1, _, g3, _⟩
      · rw [hr.1, g1]
        exact ⟨⟨none, 0, by rw [g2], by omega, fun hne => absurd (List.eq_nil_of_length_eq_zero g2) hne⟩, rfl⟩
      · rw [hr.1, g1]
        have hE := row_cells h.sim hl g1
        have hO : Own L ι g := ⟨k, _, hl, by rw [g1]; rfl⟩
        refine ⟨⟨_, cap, rfl, g3, fun _ => ⟨g, 0, rfl, sim_own_lt h.sim hO, (fun hx => by
          rcases hx with hx | ⟨i, q, h1, h2⟩
          · exact (h.x_own hx).2 hO
          · have := h.sim.inj _ _ _ _ g h1 hl h2 (by rw [g1]; rfl)
            rw [← hkk] at this
            cases this), ?_⟩⟩, rfl⟩
        have key : ∀ (es' : List (List PV)) (off : Nat), PRepE w (fun b => Own L ι b ∨ B.X b) g z off es' → PRepE w (ZB L ι B.X) g z off es' := by
          intro es'
          induction es' with
          | nil => intro off _; simp [PRepE]
          | cons x r ih =>
            intro off hh
            simp only [PRepE] at hh ⊢
            refine ⟨hh.1, ?_, ih _ hh.2.2⟩
            obtain ⟨us, a1, a2, a3⟩ := hh.2.1.vals
            exact PRepC.of (PRepL.mono (keeps_z w L ι B.X) _ _ a1) a2 a3
        exact key es 0 hE
    · cases e
  · cases e
theorem pvOf_rep (h : St E B w L ι) {x : AV} {y : PV} {v : Value} (e : Zay L x = some y) (hr : ARep w (fun b => Own L ι b ∨ B.X b) ι x v) : PRep w (ZB L ι B.X) y v := by
  rcases pvOf_ok h e hr with h | h
  · exact h.1
  · exact h.2

theorem pvsOf_rep (h : St E B w L ι) : ∀ {xs : List AV} {ys : List PV} {vs : List Value}, Zaz L xs = some ys → vs.length = xs.length → (∀ (j : Nat) (x : AV), xs[j]? = some x → ∃ v, vs[j]? = some v ∧ ARep w (fun b => Own L ι b ∨ B.X b) ι x v) → PRepL w (ZB L ι B.X) ys vs := by
  intro xs
  induction xs with
  | nil => intro ys vs e hl _; simp only [Zaz, Option.some.injEq] at e; subst e; simp only [PRepL]; exact List.eq_nil_of_length_eq_zero hl
  | cons x xs ih =>
    intro ys vs e hl hr
    simp only [Zaz] at e
    split at e
    · rename_i y l e1 e2
      cases e
      cases vs with
      | nil => simp at hl
      | cons v vs =>
        obtain ⟨v0, h0, r0⟩ := hr 0 x rfl
        simp at h0
        subst h0
        simp only [PRepL]
        exact ⟨v, vs, rfl, pvOf_rep h e1 r0, ih e2 (by simpa using hl) (fun j q hq => by simpa using hr (j + 1) q (by simpa using hq))⟩
    · cases e

theorem PRep.wk {U : Nat → Prop} {x : PV} {v : Value} (h : PRep w U x v) : PRep w U (wk x) v := by
  cases x with
  | agg cs => simp only [PRep, Go.Proofs.YtndjmidmfmcbkaaGreatDoor.wk] at h ⊢; obtain ⟨vs, e, hl⟩ := h; exact ⟨vs, e, hl.wk1⟩
  | tup cs => simp only [PRep, Go.Proofs.YtndjmidmfmcbkaaGreatDoor.wk] at h ⊢; obtain ⟨vs, e, hl⟩ := h; exact ⟨vs, e, hl.wk1⟩
  | _ => exact h.wk1

def res1 (tmps : Array Value) : ResultVar → Sem Value
  | .tmp t => pure (tmps.getD t undef)
  | .cell a t => do loadVar t (← asAddr (tmps.getD a undef))

theorem FRep.getD {U : Nat → Prop} (hf : FRep w U ι fr a) (i : Nat) : ARep w U ι (fr.getD i .any) (a.tmps.getD i undef) := by
  cases hx : fr[i]? with
  | none => simp only [List.getD, hx]; trivial
  | some y =>
    obtain ⟨v, hv, hr⟩ := hf.2 i y hx
    simpa [List.getD, hx, hv] using hr

theorem res1_ok (hs : StF E B w L ι fr a) {rv : ResultVar} {r : IRes} (hok : okRes P rv r = true) {x : PV} (h : Zax fr L r = some x) : ∃ v, (res1 a.tmps rv).run P w = .ok v w ∧ PRep w (ZB L ι B.X) x v := by
  cases r with
  | t i =>
    cases rv with
    | cell t ty => simp [okRes] at hok
    | tmp t =>
      simp only [okRes, beq_iff_eq] at hok
      subst hok
      have hr := hs.2.1.getD t
      refine ⟨_, rfl, ?_⟩
      simp only [Zax] at h
      split at h
      · rename_i y hy; cases h; rw [hy] at hr; exact (PRep.mono (keeps_z w L ι B.X) _ _ hr).wk
      · exact pvOf_rep hs.1 h hr
  | c i sz ag =>
    cases rv with
    | tmp t => simp [okRes] at hok
    | cell t ty =>
      simp only [okRes, Bool.and_eq_true, beq_iff_eq, Bool.or_eq_true] at hok
      obtain ⟨⟨⟨rfl, hsz⟩, hag⟩, h1⟩ := hok
      have hr := hs.2.1.getD t
      simp only [Zax] at h
      split at h
      · rename_i k of hk
        rw [hk] at hr
        obtain ⟨b, e1, e2⟩ := hr
        split at h
        · rename_i cs bt hl
          obtain ⟨b', vs, e4, hb, hlen, h1c, hcs⟩ := hs.1.sim.obj k _ hl
          rw [e1] at e4
          cases e4
          split at h
          · rename_i hle
            have hcell : ∀ (j : Nat) (v : Value), vs[j]? = some v → w.cell? ⟨b, j, none⟩ = some v := fun j v hv => by rw [cell_of_row w b j _ _ _ hb]; simpa using hv
            cases ag with
            | true =>
              simp only [if_true] at h
              obtain ⟨l, hl', rfl⟩ := Option.map_eq_some_iff.1 h
              have hrep := pvsOf_rep hs.1 (vs := (vs.drop of).take sz) hl' (by simp; omega) (fun j x hx => by
                rw [List.getElem?_take] at hx ⊢
                split at hx
                · rename_i hj; rw [if_pos hj]; rw [List.getElem?_drop] at hx ⊢; exact hcs _ x hx
                · cases hx)
              refine ⟨.agg ((vs.drop of).take sz).toArray, ?_, _, rfl, hrep⟩
              have hld := run_loadCells_list (P := P) (w := w) ⟨b, of, none⟩ ((vs.drop of).take sz) (fun j v hj => by
                rw [addr_addA]
                rw [List.getElem?_take] at hj
                split at hj
                · rw [List.getElem?_drop] at hj; exact hcell _ v hj
                · cases hj)
              have hln : ((vs.drop of).take sz).length = sz := by simp; omega
              rw [hln] at hld
              simp [res1, e2, asAddr, loadVar, run_agg hag, run_size hsz, hld]
            | false =>
              have : sz = 1 := by rcases h1 with h1 | h1; cases h1; exact h1
              subst this
              simp only [Bool.false_eq_true, if_false] at h
              obtain ⟨u, hu, hr⟩ := hcs of (cs.getD of .any) (by rw [List.getD, List.getElem?_eq_getElem (by omega)]; rfl)
              refine ⟨u, ?_, pvOf_rep hs.1 h hr⟩
              simp [res1, e2, asAddr, loadVar, run_agg hag, hcell of u hu]
          · cases h
        · cases h
      · cases h

theorem resL_ok (hs : StF E B w L ι fr a) : ∀ {rvs : List ResultVar} {rs : List IRes} {l : List PV}, okResL P rvs rs = true → Zaw fr L rs = some l → ∃ vs, (rvs.mapM (res1 a.tmps)).run P w = .ok vs w ∧ PRepL w (ZB L ι B.X) l vs := by
  intro rvs
  induction rvs with
  | nil => intro rs l h1 h2; cases rs with
    | nil => simp only [Zaw, Option.some.injEq] at h2; subst h2; exact ⟨[], rfl, by simp [PRepL]⟩
    | cons _ _ => simp [okResL] at h1
  | cons rv rvs ih => intro rs l h1 h2; cases rs with
    | nil => simp [okResL] at h1
    | cons r rs =>
      simp only [okResL, Bool.and_eq_true] at h1
      simp only [Zaw] at h2
      split at h2
      · rename_i y l' e1 e2
        cases h2
        obtain ⟨v, hv, hr⟩ := res1_ok hs h1.1 e1
        obtain ⟨vs, hvs, hrs⟩ := ih h1.2 e2
        refine ⟨v :: vs, ?_, by simp only [PRepL]; exact ⟨v, vs, rfl, hr, hrs⟩⟩
        simp only [List.mapM_cons, Sem.run_bind, hv, Result.andThen_ok, hvs]
        rfl
      · cases h2

theorem results_ok (hs : StF E B w L ι fr a) {fn : Func} {rs : List IRes} {l : List PV} (h1 : okResL P fn.results.toList rs = true) (h2 : Zaw fr L rs = some l) : ∃ v, (results fn a.tmps).run P w = .ok v w ∧ PRep w (ZB L ι B.X) (mkRes l) v := by
  obtain ⟨vs, hvs, hrs⟩ := resL_ok hs h1 h2
  have e : (results fn a.tmps).run P w = .ok (if h : vs.toArray.size = 1 then vs.toArray[0] else .tuple vs.toArray) w := by
    have e0 : results fn a.tmps = (do let vs ← fn.results.mapM (res1 a.tmps); pure (if h : vs.size = 1 then vs[0] else .tuple vs)) := by
      unfold results
      congr 1
    rw [e0]
    rw [Array.mapM_eq_mapM_toList]
    simp only [← bind_pure_comp, Sem.run_bind, bind_assoc]
    rw [hvs]
    rfl
  rw [e]
  refine ⟨_, rfl, ?_⟩
  have hlen := hrs.length
  cases l with
  | nil => have : vs = [] := List.eq_nil_of_length_eq_zero hlen; subst this; simp [mkRes, PRep, PRepL]
  | cons x l =>
    cases l with
    | nil =>
      simp only [PRepL] at hrs
      obtain ⟨v, r, rfl, hv, rfl⟩ := hrs
      simpa [mkRes] using hv
    | cons y l =>
      rw [dif_neg (by simp at hlen ⊢; omega)]
      exact ⟨vs, rfl, hrs⟩

/-- A contract out of a body: plain arguments, no borrowed objects. -/
theorem pcall_of_awp {D : Array Oper → List IOper → Bool} (hD : DrawOk P D) {f : FuncId} {fn : Func} {c : Code} {ic : IC} {rs : List IRes} {args : List PV} {n : Nat} {φ : PV → Prop} (hf : P.funcs[f]? = some fn) (hb : fn.body = some c) (hn : fn.ntmps = n) (hchk : chkC P D ic c = true) (hr : okResL P fn.results.toList rs = true)
    (h : awp P E ic (args.map .p ++ List.replicate (n - args.length) .any) [] (retQ rs fun x _ => φ x)) : PCall P E f args φ := by
  intro w U vs hU hE hEb hA
  refine calls_of_wp hf hb ?_
  let B : Base := { w0 := w, X := U, L0 := [], i0 := fun _ => undef }
  have hO : ∀ b, ¬ Own [] (fun _ => undef) b := by rintro b ⟨k, q, h, _⟩; simp [Zar] at h
  have hst : St E B w [] (fun _ => undef) := ⟨Grow.refl _ _, ⟨fun k q h => by simp [Zar] at h, fun k k' q q' b h => by simp [Zar] at h⟩, fun b hb => .inl hb, hU, fun k h => by simp [B, Zar] at h, hE, fun b hb => ⟨hEb b hb, hO b⟩, fun i => rfl, fun b _ => hO b⟩
  have hkeep : Keeps w w U (fun b => Own [] (fun _ => undef) b ∨ B.X b) := fun b _ hu => ⟨rfl, fun h => hu (h.resolve_left (hO b))⟩
  have hlen := hA.length
  have hfr : StF E B w [] (fun _ => undef) (args.map .p ++ List.replicate (n - args.length) .any) { tmps := vs.toArray ++ Array.replicate (fn.ntmps - vs.toArray.size) undef, defers := [] } := by
    refine ⟨hst, ⟨by simp [hlen, hn], fun i x hx => ?_⟩, rfl⟩
    rw [List.getElem?_append] at hx
    split at hx
    · rename_i hi
      rw [List.getElem?_map, Option.map_eq_some_iff] at hx
      obtain ⟨y, hy, rfl⟩ := hx
      obtain ⟨v, hv, hrep⟩ := (PRepL.mono hkeep _ _ hA).get hy
      refine ⟨v, ?_, hrep⟩
      simp only [List.length_map] at hi
      rw [Array.getElem?_append_left (by simp; omega)]
      simpa using hv
    · rename_i hi
      rw [List.getElem?_replicate] at hx
      split at hx
      · rename_i hlt
        cases hx
        simp only [List.length_map] at hi hlt
        refine ⟨undef, ?_, trivial⟩
        rw [Array.getElem?_append_right (by simp; omega)]
        simp only [List.size_toArray]
        rw [Array.getElem?_replicate, if_pos (by rw [hlen]; omega)]
      · cases hx
  refine wp_mono (awp_sound hD ic c _ _ _ hchk h B w _ _ hfr) ?_
  rintro e a' w' ⟨fr', L', ι', q, hs'⟩
  have fin : (∃ l, Zaw fr' L' rs = some l ∧ φ (mkRes l)) → a'.defers = [] ∧ ∃ v, (results fn a'.tmps).run P w' = .ok v w' ∧ ∃ v_1 x, Ending.returned v = .returned v_1 ∧ φ x ∧ PRep w' U x v_1 ∧ Grow w w' (fun _ => False) := by
    rintro ⟨l, h1, h2⟩
    obtain ⟨v, hv, hrv⟩ := results_ok hs' hr h1
    refine ⟨hs'.2.2, v, hv, v, _, rfl, h2, PRep.mono (fun b _ h => ⟨rfl, fun hx => h (.inl hx)⟩) _ _ hrv, ?_⟩
    have hg := hs'.1.grow
    exact ⟨hg.os, hg.tape, hg.output, hg.size, fun b hb _ => hg.block b hb (hO b)⟩
  cases e with
  | normal => exact fin (RetK_ex (φ := fun x _ => φ x) (L := L') q)
  | ret => exact fin (RetK_ex (φ := fun x _ => φ x) (L := L') q)
  | exit id => exact q.elim
  | goto l => exact q.elim
  | panic ch => exact q.elim
  | outgrown => exact q.elim
end
end Go.Proofs.YtndjmidmfmcbkaaGreatDoor

/- Objects made in regions that draw their order: nothing speaks of them before they are there. -/
namespace Go.Proofs.YtndjmidmfmcbkaaGreatDoor
set_option linter.unusedVariables false
set_option linter.unusedSimpArgs false
set_option linter.defProp false

section
variable {fr : List AV} {L : Objs} {K : Key}

theorem AV.kill_comm (k j : Key) (x : AV) : (x.kill k).kill j = (x.kill j).kill k := by
  induction x with
  | g c a ih => simp only [AV.kill, ih]
  | p | ipt | any => rfl
  | _ => simp only [AV.kill]; split <;> split <;> simp_all [AV.kill]
theorem AV.kill_idem (k : Key) (x : AV) : (x.kill k).kill k = x.kill k := by
  induction x with
  | g c a ih => simp only [AV.kill, ih]
  | p | ipt | any => rfl
  | _ => simp only [AV.kill]; split <;> simp_all [AV.kill]
theorem AO.kill_comm (k j : Key) (x : AO) : (x.kill k).kill j = (x.kill j).kill k := by
  cases x <;> simp [AO.kill, AV.kill_comm k j]
theorem AO.kill_idem (k : Key) (x : AO) : (x.kill k).kill k = x.kill k := by
  cases x <;> simp [AO.kill, AV.kill_idem]
theorem killO_comm (k j : Key) : ∀ L : Objs, Zat k (Zat j L) = Zat j (Zat k L)
  | [] => rfl
  | (k', a) :: r => by simp only [Zat, killO_comm k j r, AO.kill_comm j k]
theorem killO_idem (k : Key) : ∀ L : Objs, Zat k (Zat k L) = Zat k L
  | [] => rfl
  | (k', a) :: r => by simp only [Zat, killO_idem k r, AO.kill_idem]
theorem killO_putO (K k : Key) (a : AO) : ∀ L : Objs, Zat K (Zas L k a) = Zas (Zat K L) k (a.kill K)
  | [] => rfl
  | (k', a') :: r => by
    simp only [Zas, Zat]
    split
    · simp only [Zat]
    · simp only [Zat, killO_putO K k a r]
theorem putO_comm {k j : Key} (a b : AO) (hne : k ≠ j) : ∀ {L : Objs}, (Zar L k).isSome = true → (Zar L j).isSome = true → Zas (Zas L k a) j b = Zas (Zas L j b) k a
  | [], h, _ => by simp [Zar] at h
  | (k', a') :: r, h1, h2 => by
    simp only [Zas]
    by_cases e1 : k' = k
    · have e2 : ¬ k' = j := fun e => hne (e1.symm.trans e)
      simp only [if_pos e1, if_neg e2, Zas]
    · by_cases e2 : k' = j
      · simp only [if_neg e1, if_pos e2, Zas]
      · simp only [Zar, if_neg e1, if_neg e2] at h1 h2
        simp only [if_neg e1, if_neg e2, Zas, putO_comm a b hne h1 h2]

theorem Zal.hole_self (d : Nat) (fr : List AV) (L : Objs) : Zal d (fr.map (·.kill (.l d))) (Zau L (.l d) Zam) := by
  refine ⟨by simp [Function.comp_def, AV.kill_idem], ?_⟩
  unfold Zau
  rw [killO_putO, killO_idem]
  rfl
theorem Zal.hole {d : Nat} (h : Zal d fr L) (e : Nat) : Zal d (fr.map (·.kill (.l e))) (Zau L (.l e) Zam) := by
  refine ⟨?_, ?_⟩
  · have := h.1
    rw [List.map_map]
    conv => rhs; rw [← this]
    rw [List.map_map]
    exact List.map_congr_left fun x _ => AV.kill_comm _ _ x
  · unfold Zau
    rw [killO_putO, killO_comm, h.2]
    rfl

theorem mem_fix {cs : List AV} (h : cs.map (·.kill K) = cs) : ∀ x ∈ cs, x.kill K = x :=
  List.map_inj_left.1 (h.trans (List.map_id cs).symm)
theorem fix_mem {cs : List AV} (h : ∀ x ∈ cs, x.kill K = x) : cs.map (·.kill K) = cs :=
  (List.map_congr_left h).trans (List.map_id cs)
theorem look_fix (h : Zat K L = L) {k : Key} {a : AO} (hl : Zar L k = some a) : a.kill K = a := by
  have := look_killO K L k
  rw [h, hl] at this
  simpa using this.symm
theorem box_fix {cs : List AV} {t : TypeId} : (AO.box cs t).kill K = .box cs t ↔ ∀ x ∈ cs, x.kill K = x := by
  simp only [AO.kill, AO.box.injEq, and_true]
  exact ⟨mem_fix, fix_mem⟩
theorem put_fix (h : Zat K L = L) {k : Key} {a : AO} (ha : a.kill K = a) : Zat K (Zas L k a) = Zas L k a := by rw [killO_putO, h, ha]
theorem rd_fix (h : fr.map (·.kill K) = fr) (x : Opd) : (rd fr x).kill K = rd fr x := by
  cases x with
  | t i =>
    simp only [rd, List.getD]
    cases hq : fr[i]? with
    | none => rfl
    | some y => exact mem_fix h y (List.mem_of_getElem? hq)
  | f n => simp [rd, AV.kill]
  | _ => rfl
theorem un_fix {x : AV} (h : x.kill K = x) : x.un.2.kill K = x.un.2 := by
  induction x with
  | g c a ih =>
    simp only [AV.kill, AV.g.injEq, true_and] at h
    exact ih h
  | _ => exact h
theorem ad_fix {x : AV} (h : x.kill K = x) : x.ad.kill K = x.ad := by
  unfold AV.ad
  split
  · rfl
  · exact h
theorem rdu_fix (h : fr.map (·.kill K) = fr) {x : Opd} {c : Prop} {q : AV} (e : (rd fr x).un = (c, q)) : q.kill K = q := by
  have := un_fix (rd_fix h x)
  rw [e] at this
  exact this
theorem rda_fix (h : fr.map (·.kill K) = fr) {x : Opd} {c : Prop} {q : AV} (e : (rd fr x).unA = (c, q)) : q.kill K = q := by
  have := ad_fix (un_fix (rd_fix h x))
  have e2 : (rd fr x).un.2.ad = q := by rw [show (rd fr x).un.2.ad = (rd fr x).unA.2 from rfl, e]
  rw [e2] at this
  exact this
theorem getD_fix {cs : List AV} {o : Nat} (h : ∀ x ∈ cs, x.kill K = x) : (cs.getD o .any).kill K = cs.getD o .any := by
  simp only [List.getD]
  cases hq : cs[o]? with
  | none => rfl
  | some y => exact h y (List.mem_of_getElem? hq)
theorem row_ne {k : Key} (h : (AV.row k).kill K = .row k) : k ≠ K := by
  intro e; simp [AV.kill, e] at h
theorem adr_ne {k : Key} {o : Nat} (h : (AV.adr k o).kill K = .adr k o) : k ≠ K := by
  intro e; simp [AV.kill, e] at h
theorem rad_ne {k : Key} {z i o : Nat} (h : (AV.rad k z i o).kill K = .rad k z i o) : k ≠ K := by
  intro e; simp [AV.kill, e] at h
theorem mp_ne {k : Key} (h : (AV.mp k).kill K = .mp k) : k ≠ K := by
  intro e; simp [AV.kill, e] at h
theorem row_fix {k : Key} (h : k ≠ K) : (AV.row k).kill K = .row k := by simp [AV.kill, h]
theorem adr_fix {k : Key} {o : Nat} (h : k ≠ K) : (AV.adr k o).kill K = .adr k o := by simp [AV.kill, h]
theorem rad_fix {k : Key} {z i o : Nat} (h : k ≠ K) : (AV.rad k z i o).kill K = .rad k z i o := by simp [AV.kill, h]
theorem anyK_iff {cs : List (PV ⊕ Key)} : Zah K cs = true ↔ Sum.inr K ∈ cs := by
  induction cs with
  | nil => simp [Zah]
  | cons x r ih =>
    simp only [Zah, Bool.or_eq_true, ih, List.mem_cons]
    cases x with
    | inl p => simp [Zai]
    | inr k => simp [Zai, eq_comm]
theorem ag_fix {cs : List (PV ⊕ Key)} : (AV.ag cs).kill K = .ag cs ↔ Sum.inr K ∉ cs := by
  simp only [AV.kill]
  rw [← anyK_iff]
  split <;> simp_all
theorem thaw_fix {k : Key} {z : Nat} {es : List (List PV)} {x : AV} (h : x.kill K = x) : (x.thaw k z es).kill K = x.thaw k z es := by
  induction x with
  | g c a ih =>
    simp only [AV.kill, AV.g.injEq, true_and] at h
    simp only [AV.thaw, AV.kill, ih h]
  | p | ipt | any => rfl
  | row k' => simp only [AV.thaw]; split; rfl; exact h
  | adr k' o => simp only [AV.thaw]; split; rfl; exact h
  | rad k' z' i o =>
    simp only [AV.thaw]; split
    · split <;> rfl
    · exact h
  | mp k' => simp only [AV.thaw]; split; rfl; exact h
  | fn f ks => simp only [AV.thaw]; split; rfl; exact h
  | ag cs =>
    rw [ag_fix] at h
    simp only [AV.thaw]
    rw [ag_fix]
    intro hm
    obtain ⟨y, hy, e⟩ := List.mem_map.1 hm
    cases y with
    | inl p => simp [Zaj] at e
    | inr k' =>
      simp only [Zaj] at e
      split at e
      · cases e
      · cases e; exact h hy
theorem killO_cons {k' : Key} {a : AO} {r : Objs} : Zat K ((k', a) :: r) = (k', a) :: r ↔ a.kill K = a ∧ Zat K r = r := by
  simp [Zat]
theorem Zal.thaw {d : Nat} {k : Key} {z : Nat} {es : List (List PV)} (h : Zal d fr L) : Zal d (fr.map (·.thaw k z es)) (Zav k z es L) := by
  refine ⟨?_, ?_⟩
  · refine fix_mem fun x hx => ?_
    obtain ⟨y, hy, rfl⟩ := List.mem_map.1 hx
    exact thaw_fix (mem_fix h.1 y hy)
  · have := h.2
    clear h
    induction L with
    | nil => rfl
    | cons q r ih =>
      obtain ⟨k', a⟩ := q
      rw [killO_cons] at this
      simp only [Zav]
      split
      · exact ih this.2
      · rw [killO_cons]
        refine ⟨?_, ih this.2⟩
        cases a with
        | box cs t =>
          simp only [AO.thaw]
          rw [box_fix]
          have h1 := box_fix.1 this.1
          intro x hx
          obtain ⟨y, hy, rfl⟩ := List.mem_map.1 hx
          exact thaw_fix (h1 y hy)
        | _ => rfl

theorem agL_fix : ∀ {cs : List AV} {l : List (PV ⊕ Key)}, Zaf cs = some l → (∀ x ∈ cs, x.kill K = x) → Sum.inr K ∉ l
  | [], l, h, _ => by simp only [Zaf, Option.some.injEq] at h; subst h; simp
  | .p x :: r, l, h, hx => by
    simp only [Zaf, Option.map_eq_some_iff] at h
    obtain ⟨l', h1, rfl⟩ := h
    have := agL_fix h1 (fun y hy => hx y (by simp [hy]))
    simp [this]
  | .row k :: r, l, h, hx => by
    simp only [Zaf, Option.map_eq_some_iff] at h
    obtain ⟨l', h1, rfl⟩ := h
    have := agL_fix h1 (fun y hy => hx y (by simp [hy]))
    have := row_ne (hx (.row k) (by simp))
    simp_all [eq_comm]
  | .adr _ _ :: _, _, h, _ => by simp [Zaf] at h
  | .rad _ _ _ _ :: _, _, h, _ => by simp [Zaf] at h
  | .ipt _ _ _ _ :: _, _, h, _ => by simp [Zaf] at h
  | .mp _ :: _, _, h, _ => by simp [Zaf] at h
  | .fn _ _ :: _, _, h, _ => by simp [Zaf] at h
  | .g _ _ :: _, _, h, _ => by simp [Zaf] at h
  | .ag _ :: _, _, h, _ => by simp [Zaf] at h
  | .any :: _, _, h, _ => by simp [Zaf] at h
theorem setC_fix : ∀ {us : List PV} {cs : List (PV ⊕ Key)} {o : Nat}, Sum.inr K ∉ cs → Sum.inr K ∉ Zae cs o us
  | [], cs, o, h => by simpa [Zae] using h
  | x :: r, cs, o, h => by
    simp only [Zae]
    refine setC_fix ?_
    intro hm
    rcases List.mem_or_eq_of_mem_set hm with h' | h'
    · exact h h'
    · cases h'
theorem bldG_fix (hF : fr.map (·.kill K) = fr) : ∀ {ps : List (Nat × Nat × Opd)} {cs : List (PV ⊕ Key)} {q : Prop × List (PV ⊕ Key)}, Zad fr cs ps = some q → Sum.inr K ∉ cs → Sum.inr K ∉ q.2
  | [], cs, q, h, hc => by simp only [Zad, Option.some.injEq] at h; subst h; exact hc
  | (o, s, x) :: r, cs, q, h, hc => by
    simp only [Zad] at h
    split at h
    · split at h
      · obtain ⟨q', h1, rfl⟩ := Option.map_eq_some_iff.1 h
        have := bldG_fix hF h1 (setC_fix hc)
        exact this
      · cases h
    · rename_i c k e
      split at h
      · obtain ⟨q', h1, rfl⟩ := Option.map_eq_some_iff.1 h
        have := bldG_fix hF h1 (fun hm => by
          rcases List.mem_or_eq_of_mem_set hm with h' | h'
          · exact hc h'
          · cases h'
            exact row_ne (rdu_fix hF e) rfl)
        exact this
      · cases h
    · cases h
theorem setAV_fix : ∀ {us cs : List AV} {o : Nat}, (∀ x ∈ cs, x.kill K = x) → (∀ x ∈ us, x.kill K = x) → ∀ x ∈ Zab cs o us, x.kill K = x
  | [], cs, o, h, _ => by simpa [Zab] using h
  | u :: r, cs, o, h, hu => by
    simp only [Zab]
    refine setAV_fix (fun x hx => ?_) (fun x hx => hu x (by simp [hx]))
    rcases List.mem_or_eq_of_mem_set hx with h' | h'
    · exact h x h'
    · subst h'; exact hu _ (by simp)
end
end Go.Proofs.YtndjmidmfmcbkaaGreatDoor

/- Regions that draw their order: what the text's order gives, every order gives. -/
namespace Go.Proofs.YtndjmidmfmcbkaaGreatDoor
set_option linter.unusedVariables false
set_option linter.unusedSimpArgs false
set_option linter.defProp false

def slots : Opd → List Nat
  | .t i => [i]
  | _ => []
def optS : Option Opd → List Nat
  | none => []
  | some x => slots x
def slotsL : List Opd → List Nat
  | [] => []
  | x :: r => slots x ++ slotsL r
def slotsP : List (Nat × Nat × Opd) → List Nat
  | [] => []
  | (_, _, x) :: r => slots x ++ slotsP r

/-- The slots that an operation without effects reads; none: it has effects. -/
def readsA : IOp → Option (List Nat)
  | .mov x | .not x | .neg x | .len x | .sln x | .fla _ x | .fld _ _ _ x | .ld _ _ x | .ldl _ _ x | .ldg _ x | .ext _ x | .cvi _ x | .cvs x | .b2s x | .nck x | .mpn x => some (slots x)
  | .pick c a b => some (slots c ++ slots a ++ slots b)
  | .bin _ x y | .bnb _ x y | .eqa _ _ x y | .mx x y | .mn x y | .idx x y | .ixa _ x y | .mpl _ _ x y => some (slots x ++ slots y)
  | .ssl x lo hi | .vsl _ x lo hi => some (slots x ++ optS lo ++ optS hi)
  | .bld _ parts | .bldg _ parts => some (slotsP parts)
  | .bsl _ parts => some (slotsL parts)
  | .pcall _ _ args => some (slotsL args)
  | _ => none
def readsI (i : IOper) : Option (List Nat) :=
  (readsA i.op).map fun l => l ++ (match i.guard with | some (s, _) => [s] | none => [])

/-- A call that turns one variable: the slots that it reads. -/
def isD : IOper → Option (Bool × List Nat)
  | ⟨_, .dcall b _ args, none⟩ => some (b, slotsL args)
  | _ => none
/-- An object made: its slot, the slots that it reads. -/
def isN : IOper → Option (Nat × List Nat)
  | ⟨some d, .alcd _ _, none⟩ => some (d, [])
  | ⟨some d, .bsrd _ _ parts, none⟩ => some (d, slotsL parts)
  | _ => none
/-- What an operation without effects does is the same before and behind a new object. -/
def nfree : IOp → Bool
  | .pcall .. => false
  | _ => true
/-- What an operation without effects does is the same before and behind such a call. -/
def lfree (b : Bool) : IOp → Bool
  | .ld .. => false
  | .ldg .. => false
  | .pcall .. => false
  | .mpl .. => false
  | .mpn .. => false
  | .ldl .. => b
  | _ => true
/-- A store: the slots that it reads. -/
def isSr : IOper → Option (List Nat)
  | ⟨none, .st _ p x, none⟩ => some (slots p ++ slots x)
  | _ => none
/-- Operations that read no object. -/
def nol : IOp → Bool
  | .mov .. | .pick .. | .bin .. | .bnb .. | .eqa .. | .not .. | .neg .. | .sln .. | .mx .. | .mn .. | .idx .. | .ssl .. | .vsl .. | .fla .. | .fld .. | .ext .. | .bld .. | .bldg .. | .cvi .. | .cvs .. | .bsl .. | .nck .. => true
  | _ => false
def sepI (x i : IOper) (rx ri : List Nat) : Bool :=
  (match x.dst with | some d => !ri.contains d | none => true) && (match i.dst with | some d => !rx.contains d | none => true) && (match x.dst, i.dst with | some d, some e => d != e | _, _ => true)
def apartI (x i : IOper) : Bool :=
  match readsI x, readsI i with
  | some rx, some ri => sepI x i rx ri
  | some rx, none => match isD i with
    | some (b, ri) => lfree b x.op && sepI x i rx ri
    | none => match isN i with
      | some (_, ri) => nfree x.op && sepI x i rx ri
      | none => match isSr i with
        | some ri => nol x.op && sepI x i rx ri
        | none => false
  | none, some ri => match isD x with
    | some (b, rx) => lfree b i.op && sepI x i rx ri
    | none => match isN x with
      | some (_, rx) => nfree i.op && sepI x i rx ri
      | none => match isSr x with
        | some rx => nol i.op && sepI x i rx ri
        | none => false
  | none, none => match isN x, isN i with
    | some (_, rx), some (_, ri) => sepI x i rx ri
    | some (_, rx), none => match isD i with
      | some (b, ri) => b && sepI x i rx ri
      | none => false
    | none, some (_, ri) => match isD x with
      | some (b, rx) => b && sepI x i rx ri
      | none => false
    | none, none => false

section
variable {P : Program} {E : Envt} {Y : List PV} {fr : List AV} {L : Objs}

theorem rd_set {d : Nat} {r : AV} {x : Opd} (h : d ∉ slots x) : rd (fr.set d r) x = rd fr x := by
  cases x with
  | t i =>
    simp only [slots, List.mem_singleton] at h
    simp only [rd, List.getD]
    rw [List.getElem?_set_ne h]
  | _ => rfl
theorem rdo_set {d : Nat} {r : AV} {x : Option Opd} (h : d ∉ optS x) : x.map (rd (fr.set d r)) = x.map (rd fr) := by
  cases x with
  | none => rfl
  | some y => simp only [Option.map_some]; rw [rd_set h]
theorem bldP_set {d : Nat} {r : AV} : ∀ {ps : List (Nat × Nat × Opd)} {cs : List PV}, d ∉ slotsP ps → Zac (fr.set d r) cs ps = Zac fr cs ps := by
  intro ps
  induction ps with
  | nil => intros; rfl
  | cons p ps ih =>
    intro cs h
    obtain ⟨o, s, x⟩ := p
    simp only [slotsP, List.mem_append, not_or] at h
    simp only [Zac]
    rw [rd_set h.1]
    split
    · rw [ih h.2]
    · rfl
theorem bldG_set {d : Nat} {r : AV} : ∀ {ps : List (Nat × Nat × Opd)} {cs : List (PV ⊕ Key)}, d ∉ slotsP ps → Zad (fr.set d r) cs ps = Zad fr cs ps := by
  intro ps
  induction ps with
  | nil => intros; rfl
  | cons p ps ih =>
    intro cs h
    obtain ⟨o, s, x⟩ := p
    simp only [slotsP, List.mem_append, not_or] at h
    simp only [Zad]
    rw [rd_set h.1]
    split
    · rw [ih h.2]
    · rw [ih h.2]
    · rfl
theorem bslP_set {d z : Nat} {r : AV} : ∀ {ps : List Opd}, d ∉ slotsL ps → Zan (fr.set d r) z ps = Zan fr z ps := by
  intro ps
  induction ps with
  | nil => intros; rfl
  | cons x ps ih =>
    intro h
    simp only [slotsL, List.mem_append, not_or] at h
    simp only [Zan]
    rw [rd_set h.1]
    split
    · rw [ih h.2]
    · rfl
theorem argC_set {d : Nat} {r : AV} : ∀ {ps : List Opd}, d ∉ slotsL ps → Zl (fr.set d r) ps = Zl fr ps := by
  intro ps
  induction ps with
  | nil => intros; rfl
  | cons x ps ih =>
    intro h
    simp only [slotsL, List.mem_append, not_or] at h
    simp only [Zl]
    rw [rd_set h.1, ih h.2]
theorem argV_set {d : Nat} {r : AV} : ∀ {ps : List Opd}, d ∉ slotsL ps → Zm (fr.set d r) ps = Zm fr ps := by
  intro ps
  induction ps with
  | nil => intros; rfl
  | cons x ps ih =>
    intro h
    simp only [slotsL, List.mem_append, not_or] at h
    have := ih h.2
    simp only [Zm, List.map_cons] at this ⊢
    rw [rd_set h.1, this]

/-- What an operation without effects does: its condition, its result. -/
def core (P : Program) (E : Envt) (Y : List PV) (fr : List AV) (L : Objs) : IOp → Option (Prop × AV)
  | .pcall n f args => some (Zl fr args ∧ PureC P E f (Zm fr args) L (· = Y.getD n (.bool false)), .p (Y.getD n (.bool false)))
  | op => Ze fr L op

theorem core_set {d : Nat} {r : AV} {op : IOp} {l : List Nat} (h : readsA op = some l) (hd : d ∉ l) : core P E Y (fr.set d r) L op = core P E Y fr L op := by
  cases op <;> simp only [readsA, Option.some.injEq, reduceCtorEq] at h <;> subst h <;> (try simp only [List.mem_append, not_or] at hd)
  case mov x => simp only [core, Ze, rd_set hd]
  case pick c a b => simp only [core, Ze, rd_set hd.1.1, rd_set hd.1.2, rd_set hd.2]
  case bin op x y => simp only [core, Ze, rd_set hd.1, rd_set hd.2]
  case bnb op x y => simp only [core, Ze, rd_set hd.1, rd_set hd.2]
  case eqa n k x y => simp only [core, Ze, rd_set hd.1, rd_set hd.2]
  case not x => simp only [core, Ze, rd_set hd]
  case neg x => simp only [core, Ze, rd_set hd]
  case len x => simp only [core, Ze, rd_set hd]
  case sln x => simp only [core, Ze, rd_set hd]
  case mx x y => simp only [core, Ze, rd_set hd.1, rd_set hd.2]
  case mn x y => simp only [core, Ze, rd_set hd.1, rd_set hd.2]
  case idx x y => simp only [core, Ze, rd_set hd.1, rd_set hd.2]
  case ssl x lo hi => simp only [core, Ze, rd_set hd.1.1, rdo_set hd.1.2, rdo_set hd.2]
  case vsl z x lo hi => simp only [core, Ze, rd_set hd.1.1, rdo_set hd.1.2, rdo_set hd.2]
  case ixa z x y => simp only [core, Ze, rd_set hd.1, rd_set hd.2]
  case fla o x => simp only [core, Ze, rd_set hd]
  case fld o s a x => simp only [core, Ze, rd_set hd]
  case ld s a x => simp only [core, Ze, rd_set hd]
  case ldl s a x => simp only [core, Ze, rd_set hd]
  case ext i x => simp only [core, Ze, rd_set hd]
  case bld z ps => simp only [core, Ze, bldP_set hd]
  case bldg z ps => simp only [core, Ze, bldG_set hd]
  case ldg s x => simp only [core, Ze, rd_set hd]
  case cvi k x => simp only [core, Ze, rd_set hd]
  case cvs x => simp only [core, Ze, rd_set hd]
  case b2s x => simp only [core, Ze, rd_set hd]
  case bsl z ps => simp only [core, Ze, bslP_set hd]
  case nck x => simp only [core, Ze, rd_set hd]
  case mpn x => simp only [core, Ze, rd_set hd]
  case mpl o z x y => simp only [core, Ze, rd_set hd.1, rd_set hd.2]
  case pcall n f args => simp only [core, argC_set hd, argV_set hd]

def sx (P : Program) (E : Envt) (Y : List PV) (fr : List AV) (L : Objs) (i : IOper) : Option (Prop × AV) :=
  match i.guard with
  | none => core P E Y fr L i.op
  | some (s, w) => match Zg fr s w with
    | some c0 => (match core P E Y fr L i.op with | some q => some (c0 = true → q.1, .g c0 q.2) | none => if plainOp i.op = true then some (c0 = false, .g c0 .any) else none)
    | none => none

theorem sx_setD {d : Option Nat} {r : AV} {i : IOper} {l : List Nat} (h : readsI i = some l) (hd : ∀ e, d = some e → e ∉ l) : sx P E Y (Zf fr d r) L i = sx P E Y fr L i := by
  cases d with
  | none => rfl
  | some d =>
    have hd := hd d rfl
    obtain ⟨l0, h1, rfl⟩ := Option.map_eq_some_iff.1 h
    simp only [List.mem_append, not_or] at hd
    unfold sx
    simp only [Zf]
    cases hg : i.guard with
    | none => simp only; exact core_set h1 hd.1
    | some q =>
      obtain ⟨s, w⟩ := q
      rw [hg] at hd
      simp only
      have : Zg (fr.set d r) s w = Zg fr s w := by
        unfold Zg
        rw [show (fr.set d r).getD s .any = fr.getD s .any from by simp only [List.getD]; rw [List.getElem?_set_ne (by simpa using hd.2)]]
      rw [this, core_set h1 hd.1]

theorem awpOps_sx {i : IOper} {is : List IOper} {K : List AV → Objs → Prop} (hr : (readsI i).isSome = true) : awpOps P E Y (i :: is) fr L K ↔ ∃ c r, sx P E Y fr L i = some (c, r) ∧ c ∧ awpOps P E Y is (Zf fr i.dst r) L K := by
  obtain ⟨d, op, gd⟩ := i
  have hA : (readsA op).isSome = true := by simpa [readsI] using hr
  cases gd with
  | none =>
    have key : ∀ q : Option (Prop × AV), (∃ c r, q = some (c, r) ∧ c ∧ awpOps P E Y is (Zf fr d r) L K) ↔ (match q with | some (c, r) => c ∧ awpOps P E Y is (Zf fr d r) L K | none => False) := by
      intro q
      cases q with
      | none => simp
      | some q =>
        obtain ⟨c, r⟩ := q
        simp only [Option.some.injEq, Prod.mk.injEq]
        exact ⟨fun ⟨_, _, ⟨rfl, rfl⟩, h1, h2⟩ => ⟨h1, h2⟩, fun ⟨h1, h2⟩ => ⟨_, _, ⟨rfl, rfl⟩, h1, h2⟩⟩
    have gen : ∀ op : IOp, awpOps P E Y (⟨d, op, none⟩ :: is) fr L K = (match Zd d fr L op with | some (c, fr', L') => c ∧ awpOps P E Y is fr' L' K | none => False) → Zd d fr L op = (Ze fr L op).map (fun q => (q.1, Zf fr d q.2, L)) → core P E Y fr L op = Ze fr L op → (awpOps P E Y (⟨d, op, none⟩ :: is) fr L K ↔ ∃ c r, sx P E Y fr L ⟨d, op, none⟩ = some (c, r) ∧ c ∧ awpOps P E Y is (Zf fr d r) L K) := by
      intro op h1 h2 h3
      rw [h1, h2]
      simp only [sx, h3]
      rw [key]
      cases Ze fr L op with
      | none => rfl
      | some q => rfl
    cases op <;> simp only [readsA, Option.isSome_some, Option.isSome_none, Bool.false_eq_true] at hA
    case pcall n f args =>
      simp only [awpOps, sx, core]
      rw [key]
    all_goals exact gen _ rfl rfl rfl
  | some sw =>
    obtain ⟨s, want⟩ := sw
    have gen : ∀ op : IOp, awpOps P E Y (⟨d, op, some (s, want)⟩ :: is) fr L K = (match Zg fr s want with | some c0 => (match Ze fr L op with | some (c, r) => (c0 = true → c) ∧ awpOps P E Y is (Zf fr d (.g c0 r)) L K | none => plainOp op = true ∧ c0 = false ∧ awpOps P E Y is (Zf fr d (.g c0 .any)) L K) | none => False) → core P E Y fr L op = Ze fr L op → (awpOps P E Y (⟨d, op, some (s, want)⟩ :: is) fr L K ↔ ∃ c r, sx P E Y fr L ⟨d, op, some (s, want)⟩ = some (c, r) ∧ c ∧ awpOps P E Y is (Zf fr d r) L K) := by
      intro op h1 h3
      rw [h1]
      simp only [sx, h3]
      cases Zg fr s want with
      | none => simp
      | some c0 =>
        cases Ze fr L op with
        | none =>
          cases hp : plainOp op with
          | false => simp
          | true =>
            simp only [if_true, Option.some.injEq, Prod.mk.injEq, true_and]
            exact ⟨fun ⟨h1, h2⟩ => ⟨_, _, ⟨rfl, rfl⟩, h1, h2⟩, fun ⟨_, _, ⟨rfl, rfl⟩, h1, h2⟩ => ⟨h1, h2⟩⟩
        | some q =>
          obtain ⟨c, r⟩ := q
          simp only [Option.some.injEq, Prod.mk.injEq]
          exact ⟨fun ⟨h1, h2⟩ => ⟨_, _, ⟨rfl, rfl⟩, h1, h2⟩, fun ⟨_, _, ⟨rfl, rfl⟩, h1, h2⟩ => ⟨h1, h2⟩⟩
    cases op <;> simp only [readsA, Option.isSome_some, Option.isSome_none, Bool.false_eq_true] at hA
    case pcall n f args =>
      simp only [awpOps, sx, core]
      cases Zg fr s want with
      | none => simp
      | some c0 =>
        simp only [Option.map_some, Option.some.injEq, Prod.mk.injEq]
        exact ⟨fun ⟨h1, h2⟩ => ⟨_, _, ⟨rfl, rfl⟩, h1, h2⟩, fun ⟨_, _, ⟨rfl, rfl⟩, h1, h2⟩ => ⟨h1, h2⟩⟩
    all_goals exact gen _ rfl rfl

theorem sepI_spec {x i : IOper} {rx ri : List Nat} (h : sepI x i rx ri = true) : (∀ d, x.dst = some d → d ∉ ri) ∧ (∀ d, i.dst = some d → d ∉ rx) ∧ (∀ d e, x.dst = some d → i.dst = some e → d ≠ e) := by
  simp only [sepI, Bool.and_eq_true] at h
  refine ⟨fun d hd => ?_, fun d hd => ?_, fun d e hd he => ?_⟩
  · have := h.1.1; rw [hd] at this; simpa using this
  · have := h.1.2; rw [hd] at this; simpa using this
  · have := h.2; rw [hd, he] at this; simpa using this
theorem isD_eq {i : IOper} {b : Bool} {l : List Nat} (h : isD i = some (b, l)) : ∃ d f args, i = ⟨d, .dcall b f args, none⟩ ∧ l = slotsL args := by
  unfold isD at h
  split at h
  · simp only [Option.some.injEq, Prod.mk.injEq] at h
    obtain ⟨rfl, rfl⟩ := h
    exact ⟨_, _, _, rfl, rfl⟩
  · cases h
theorem isSr_eq {i : IOper} {l : List Nat} (h : isSr i = some l) : ∃ sz p y, i = ⟨none, .st sz p y, none⟩ ∧ l = slots p ++ slots y := by
  unfold isSr at h
  split at h
  · cases h; exact ⟨_, _, _, rfl, rfl⟩
  · cases h
theorem apartI_spec {x i : IOper} (h : apartI x i = true) :
    (∃ rx ri, readsI x = some rx ∧ readsI i = some ri ∧ sepI x i rx ri = true) ∨
    (∃ rx b d f args, readsI x = some rx ∧ i = ⟨d, .dcall b f args, none⟩ ∧ lfree b x.op = true ∧ sepI x i rx (slotsL args) = true) ∨
    (∃ ri b d f args, readsI i = some ri ∧ x = ⟨d, .dcall b f args, none⟩ ∧ lfree b i.op = true ∧ sepI x i (slotsL args) ri = true) ∨
    (∃ rx d ri, readsI x = some rx ∧ isN i = some (d, ri) ∧ nfree x.op = true ∧ sepI x i rx ri = true) ∨
    (∃ d rx ri, isN x = some (d, rx) ∧ readsI i = some ri ∧ nfree i.op = true ∧ sepI x i rx ri = true) ∨
    (∃ d rx e ri, isN x = some (d, rx) ∧ isN i = some (e, ri) ∧ sepI x i rx ri = true) ∨
    (∃ d rx e f args, isN x = some (d, rx) ∧ i = ⟨e, .dcall true f args, none⟩ ∧ sepI x i rx (slotsL args) = true) ∨
    (∃ d f args e ri, x = ⟨d, .dcall true f args, none⟩ ∧ isN i = some (e, ri) ∧ sepI x i (slotsL args) ri = true) ∨
    (∃ rx sz p y, readsI x = some rx ∧ i = ⟨none, .st sz p y, none⟩ ∧ nol x.op = true ∧ sepI x i rx (slots p ++ slots y) = true) ∨
    (∃ ri sz p y, readsI i = some ri ∧ x = ⟨none, .st sz p y, none⟩ ∧ nol i.op = true ∧ sepI x i (slots p ++ slots y) ri = true) := by
  unfold apartI at h
  split at h
  · rename_i rx ri h1 h2; exact .inl ⟨rx, ri, h1, h2, h⟩
  · rename_i rx h1 h2
    split at h
    · rename_i b l e
      obtain ⟨d, f, args, rfl, rfl⟩ := isD_eq e
      simp only [Bool.and_eq_true] at h
      exact .inr (.inl ⟨rx, b, d, f, args, h1, rfl, h.1, h.2⟩)
    · split at h
      · rename_i q ri e
        simp only [Bool.and_eq_true] at h
        exact .inr (.inr (.inr (.inl ⟨rx, _, ri, h1, e, h.1, h.2⟩)))
      · split at h
        · rename_i ri e
          obtain ⟨sz, p, y, rfl, rfl⟩ := isSr_eq e
          simp only [Bool.and_eq_true] at h
          exact .inr (.inr (.inr (.inr (.inr (.inr (.inr (.inr (.inl ⟨rx, _, _, _, h1, rfl, h.1, h.2⟩))))))))
        · cases h
  · rename_i ri h1 h2
    split at h
    · rename_i b l e
      obtain ⟨d, f, args, rfl, rfl⟩ := isD_eq e
      simp only [Bool.and_eq_true] at h
      exact .inr (.inr (.inl ⟨ri, b, d, f, args, h2, rfl, h.1, h.2⟩))
    · split at h
      · rename_i q rx e
        simp only [Bool.and_eq_true] at h
        exact .inr (.inr (.inr (.inr (.inl ⟨_, rx, ri, e, h2, h.1, h.2⟩))))
      · split at h
        · rename_i rx e
          obtain ⟨sz, p, y, rfl, rfl⟩ := isSr_eq e
          simp only [Bool.and_eq_true] at h
          exact .inr (.inr (.inr (.inr (.inr (.inr (.inr (.inr (.inr ⟨ri, _, _, _, h2, rfl, h.1, h.2⟩))))))))
        · cases h
  · split at h
    · rename_i d rx e ri e1 e2
      exact .inr (.inr (.inr (.inr (.inr (.inl ⟨_, _, _, _, e1, e2, h⟩)))))
    · rename_i d rx e1 e2
      split at h
      · rename_i b ri e3
        obtain ⟨d, f, args, rfl, rfl⟩ := isD_eq e3
        simp only [Bool.and_eq_true] at h
        obtain ⟨rfl, h⟩ := h
        exact .inr (.inr (.inr (.inr (.inr (.inr (.inl ⟨_, _, _, _, _, e1, rfl, h⟩))))))
      · cases h
    · rename_i d ri e1 e2
      split at h
      · rename_i b rx e3
        obtain ⟨d, f, args, rfl, rfl⟩ := isD_eq e3
        simp only [Bool.and_eq_true] at h
        obtain ⟨rfl, h⟩ := h
        exact .inr (.inr (.inr (.inr (.inr (.inr (.inr (.inl ⟨_, _, _, _, _, rfl, e2, h⟩)))))))
      · cases h
    · cases h

theorem slOf_put {k : Key} {cs cs' : List AV} {t : TypeId} (hl : Zar L k = some (.box cs t)) (v : AV) : Zv (Zas L k (.box cs' t)) v = Zv L v := by
  cases v with
  | row k' =>
    simp only [Zv, look_putO]
    by_cases h : k' = k
    · subst h; simp [hl]
    · simp [h]
  | p x => cases x <;> rfl
  | _ => rfl
theorem core_put {b : Bool} {op : IOp} {k : Key} {cs cs' : List AV} {t : TypeId} (hf : lfree b op = true) (hr : (readsA op).isSome = true) (hl : Zar L k = some (.box cs t)) (hb : b = true → ∃ j, k = .b j) : core P E Y fr (Zas L k (.box cs' t)) op = core P E Y fr L op := by
  cases op <;> simp only [readsA, Option.isSome_some, Option.isSome_none, Bool.false_eq_true] at hr
  case ld => simp [lfree] at hf
  case ldg => simp [lfree] at hf
  case pcall => simp [lfree] at hf
  case mpl => simp [lfree] at hf
  case mpn => simp [lfree] at hf
  case len x => simp only [core, Ze, slOf_put hl]
  case b2s x => simp only [core, Ze, slOf_put hl]
  case ixa z x y =>
    simp only [core, Ze]
    split
    · rfl
    · rename_i k' _ _ _ _ _
      rw [look_putO]
      by_cases h : k' = k
      · subst h; simp [hl]
      · simp [h]
    · rfl
  case ldl s a x =>
    simp only [lfree] at hf
    obtain ⟨j, rfl⟩ := hb hf
    simp only [core, Ze]
    split
    · rfl
    · rw [look_putO, if_neg (by simp)]
    · rfl
  all_goals rfl
theorem sx_put {b : Bool} {i : IOper} {k : Key} {cs cs' : List AV} {t : TypeId} (hf : lfree b i.op = true) (hr : (readsI i).isSome = true) (hl : Zar L k = some (.box cs t)) (hb : b = true → ∃ j, k = .b j) : sx P E Y fr (Zas L k (.box cs' t)) i = sx P E Y fr L i := by
  have hA : (readsA i.op).isSome = true := by simpa [readsI] using hr
  unfold sx
  split
  · exact core_put hf hA hl hb
  · rw [core_put hf hA hl hb]
theorem argC_setD {d : Option Nat} {r : AV} {ps : List Opd} (h : ∀ e, d = some e → e ∉ slotsL ps) : Zl (Zf fr d r) ps = Zl fr ps := by
  cases d with
  | none => rfl
  | some e => exact argC_set (h e rfl)
theorem argV_setD {d : Option Nat} {r : AV} {ps : List Opd} (h : ∀ e, d = some e → e ∉ slotsL ps) : Zm (Zf fr d r) ps = Zm fr ps := by
  cases d with
  | none => rfl
  | some e => exact argV_set (h e rfl)

theorem setD_comm {d e : Option Nat} {r q : AV} (h : ∀ a b, d = some a → e = some b → a ≠ b) : Zf (Zf fr d r) e q = Zf (Zf fr e q) d r := by
  cases d with
  | none => rfl
  | some d => cases e with
    | none => rfl
    | some e => simp only [Zf]; rw [List.set_comm _ _ (h d e rfl rfl)]

/-- What an operation without effects gives speaks of no object that its slots and the objects do not speak of. -/
theorem core_fix {K : Key} {op : IOp} {c : Prop} {r : AV} (hr : (readsA op).isSome = true) (hF : fr.map (·.kill K) = fr) (hL : Zat K L = L) (h : core P E Y fr L op = some (c, r)) : r.kill K = r := by
  cases op <;> simp only [readsA, Option.isSome_some, Option.isSome_none, Bool.false_eq_true] at hr <;> simp only [core, Ze] at h
  case mov x => cases h; exact rd_fix hF x
  case ixa z x y =>
    split at h
    · split at h
      · cases h; rfl
      · cases h
    · rename_i c1 k c2 y1 n e1 e2
      split at h
      · split at h
        · cases h; exact rad_fix (row_ne (rdu_fix hF e1))
        · cases h
      · cases h
    · cases h
  case fla o x =>
    split at h
    · rename_i e; cases h; exact adr_fix (adr_ne (rda_fix hF e))
    · rename_i e; cases h; exact rad_fix (rad_ne (rda_fix hF e))
    · cases h; rfl
    · cases h
  case nck x =>
    split at h
    · rename_i e; cases h; exact adr_fix (adr_ne (rda_fix hF e))
    · rename_i e; cases h; exact rad_fix (rad_ne (rda_fix hF e))
    · cases h; rfl
    · cases h
  case ld sz ag x =>
    split at h
    · split at h
      · cases h; rfl
      · cases h
    · split at h
      · split at h
        · cases h; rfl
        · cases h
      · cases h
    · split at h
      · rename_i cs t hl
        split at h
        · split at h
          · obtain ⟨q, _, e⟩ := Option.map_eq_some_iff.1 h; cases e; rfl
          · cases h
            exact getD_fix (box_fix.1 (look_fix hL hl))
        · cases h
      · cases h
    · cases h
  case ldl sz ag x =>
    split at h
    · split at h
      · cases h; rfl
      · cases h
    · split at h
      · rename_i cs t hl
        split at h
        · split at h
          · obtain ⟨q, _, e⟩ := Option.map_eq_some_iff.1 h; cases e; rfl
          · cases h
            exact getD_fix (box_fix.1 (look_fix hL hl))
        · cases h
      · cases h
    · cases h
  case ldg sz x =>
    split at h
    · split at h
      · rename_i cs t hl
        split at h
        · obtain ⟨q, e1, e⟩ := Option.map_eq_some_iff.1 h
          cases e
          exact ag_fix.2 (agL_fix e1 (fun y hy => box_fix.1 (look_fix hL hl) y (List.mem_of_mem_drop (List.mem_of_mem_take hy))))
        · cases h
      · cases h
    · cases h
  case bldg zero ps =>
    obtain ⟨q, e1, e⟩ := Option.map_eq_some_iff.1 h
    cases e
    exact ag_fix.2 (bldG_fix hF e1 (by simp))
  all_goals first
    | (cases h; rfl)
    | (obtain ⟨q, _, e⟩ := Option.map_eq_some_iff.1 h; cases e; rfl)
    | ((repeat' split at h) <;> first | (cases h; rfl) | (cases h; done) | (obtain ⟨q, _, e⟩ := Option.map_eq_some_iff.1 h; cases e; rfl))

theorem sx_fix {K : Key} {i : IOper} {c : Prop} {r : AV} (hr : (readsI i).isSome = true) (hF : fr.map (·.kill K) = fr) (hL : Zat K L = L) (h : sx P E Y fr L i = some (c, r)) : r.kill K = r := by
  have hA : (readsA i.op).isSome = true := by simpa [readsI] using hr
  unfold sx at h
  split at h
  · exact core_fix hA hF hL h
  · split at h
    · split at h
      · rename_i q e
        cases h
        have := core_fix (P := P) (E := E) (Y := Y) (c := q.1) (r := q.2) hA hF hL e
        simp only [AV.kill, this]
      · split at h
        · cases h; rfl
        · cases h
    · cases h

theorem slOf_putN {K : Key} {a : AO} {v : AV} (h : v.kill K = v) : Zv (Zas L K a) v = Zv L v := by
  cases v with
  | row k' => simp only [Zv, look_putO, if_neg (row_ne h)]
  | p x => cases x <;> rfl
  | _ => rfl
theorem core_putN {K : Key} {a : AO} {op : IOp} (hf : nfree op = true) (hr : (readsA op).isSome = true) (hF : fr.map (·.kill K) = fr) : core P E Y fr (Zas L K a) op = core P E Y fr L op := by
  cases op <;> simp only [readsA, Option.isSome_some, Option.isSome_none, Bool.false_eq_true] at hr
  case pcall => simp [nfree] at hf
  case len x => simp only [core, Ze, slOf_putN (un_fix (rd_fix hF x))]
  case b2s x => simp only [core, Ze, slOf_putN (un_fix (rd_fix hF x))]
  case ixa z x y =>
    simp only [core, Ze]
    split
    · rfl
    · rename_i e1 e2
      rw [look_putO, if_neg (row_ne (rdu_fix hF e1))]
    · rfl
  case ld s ag x =>
    simp only [core, Ze]
    split
    · rfl
    · rename_i e
      rw [look_putO, if_neg (rad_ne (rda_fix hF e))]
    · rename_i e
      rw [look_putO, if_neg (adr_ne (rda_fix hF e))]
    · rfl
  case ldl s ag x =>
    simp only [core, Ze]
    split
    · rfl
    · rename_i e
      rw [look_putO, if_neg (adr_ne (rda_fix hF e))]
    · rfl
  case ldg s x =>
    simp only [core, Ze]
    split
    · rename_i e
      rw [look_putO, if_neg (adr_ne (rda_fix hF e))]
    · rfl
  case mpl o z x y =>
    simp only [core, Ze]
    split
    · rename_i e1 e2
      rw [look_putO, if_neg (mp_ne (rdu_fix hF e1))]
    · rfl
  case mpn x =>
    simp only [core, Ze]
    split
    · rename_i e1
      rw [look_putO, if_neg (mp_ne (rdu_fix hF e1))]
    · rfl
  all_goals rfl
theorem sx_putN {K : Key} {a : AO} {i : IOper} (hf : nfree i.op = true) (hr : (readsI i).isSome = true) (hF : fr.map (·.kill K) = fr) : sx P E Y fr (Zas L K a) i = sx P E Y fr L i := by
  have hA : (readsA i.op).isSome = true := by simpa [readsI] using hr
  unfold sx
  split
  · exact core_putN hf hA hF
  · rw [core_putN hf hA hF]

/-- An object made: the condition, what the slot holds, the object. -/
def nx (fr : List AV) : IOper → Option (Prop × AV × AO)
  | ⟨some d, .alcd t zero, none⟩ => some (True, .adr (.l d) 0, .box (zero.map .p) t)
  | ⟨some d, .bsrd e z parts, none⟩ => (Zan fr z parts).map fun q => (q.1, .row (.l d), .row q.2 e z true)
  | _ => none
theorem isN_eq {i : IOper} {d : Nat} {l : List Nat} (h : isN i = some (d, l)) : (∃ t zero, i = ⟨some d, .alcd t zero, none⟩ ∧ l = []) ∨ ∃ e z parts, i = ⟨some d, .bsrd e z parts, none⟩ ∧ l = slotsL parts := by
  unfold isN at h
  split at h
  · cases h; exact .inl ⟨_, _, rfl, rfl⟩
  · cases h; exact .inr ⟨_, _, _, rfl, rfl⟩
  · cases h
theorem isN_dst {i : IOper} {d : Nat} {l : List Nat} (h : isN i = some (d, l)) : i.dst = some d := by
  rcases isN_eq h with ⟨t, zero, rfl, _⟩ | ⟨e, z, parts, rfl, _⟩ <;> rfl
theorem awpOps_nx {i : IOper} {is : List IOper} {K : List AV → Objs → Prop} {d : Nat} {l : List Nat} (hi : isN i = some (d, l)) : awpOps P E Y (i :: is) fr L K ↔ (Zal d fr L ∧ Zar L (.l d) = some Zam) ∧ ∃ c r ao, nx fr i = some (c, r, ao) ∧ c ∧ awpOps P E Y is (fr.set d r) (Zas L (.l d) ao) K := by
  rcases isN_eq hi with ⟨t, zero, rfl, _⟩ | ⟨e, z, parts, rfl, _⟩
  · simp only [awpOps, Zd, nx, Option.some.injEq, Prod.mk.injEq]
    exact ⟨fun ⟨h1, h2⟩ => ⟨h1, _, _, _, ⟨rfl, rfl, rfl⟩, trivial, h2⟩, fun ⟨h1, _, _, _, ⟨rfl, rfl, rfl⟩, _, h2⟩ => ⟨h1, h2⟩⟩
  · simp only [awpOps, Zd, nx]
    cases Zan fr z parts with
    | none => simp
    | some q =>
      obtain ⟨c, es⟩ := q
      simp only [Option.map_some, Option.some.injEq, Prod.mk.injEq]
      exact ⟨fun ⟨⟨h1, hc⟩, h2⟩ => ⟨h1, _, _, _, ⟨rfl, rfl, rfl⟩, hc, h2⟩, fun ⟨h1, _, _, _, ⟨rfl, rfl, rfl⟩, hc, h2⟩ => ⟨⟨h1, hc⟩, h2⟩⟩
theorem nx_setD {i : IOper} {d : Nat} {l : List Nat} {e : Option Nat} {q : AV} (hi : isN i = some (d, l)) (he : ∀ x, e = some x → x ∉ l) : nx (Zf fr e q) i = nx fr i := by
  cases e with
  | none => rfl
  | some e =>
    have he := he e rfl
    rcases isN_eq hi with ⟨t, zero, rfl, _⟩ | ⟨e', z, parts, rfl, rfl⟩
    · rfl
    · simp only [nx, Zf]
      rw [bslP_set he]
theorem nx_fix {i : IOper} {d e : Nat} {l : List Nat} {c : Prop} {r : AV} {ao : AO} (hi : isN i = some (d, l)) (hne : d ≠ e) (h : nx fr i = some (c, r, ao)) : r.kill (.l e) = r ∧ ao.kill (.l e) = ao := by
  rcases isN_eq hi with ⟨t, zero, rfl, _⟩ | ⟨e', z, parts, rfl, rfl⟩
  · simp only [nx, Option.some.injEq, Prod.mk.injEq] at h
    obtain ⟨_, rfl, rfl⟩ := h
    exact ⟨adr_fix (by simpa using hne), box_fix.2 (fun x hx => by obtain ⟨y, _, rfl⟩ := List.mem_map.1 hx; rfl)⟩
  · simp only [nx, Option.map_eq_some_iff, Prod.mk.injEq] at h
    obtain ⟨q, _, _, rfl, rfl⟩ := h
    exact ⟨row_fix (by simpa using hne), rfl⟩
theorem set_fix {K : Key} {d : Option Nat} {r : AV} (hF : fr.map (·.kill K) = fr) (hr : r.kill K = r) : (Zf fr d r).map (·.kill K) = Zf fr d r := by
  cases d with
  | none => exact hF
  | some d => simp only [Zf, List.map_set, hF, hr]
theorem Zal.put {d : Nat} {e : Option Nat} {r : AV} {k : Key} {a : AO} (h : Zal d fr L) (hr : r.kill (.l d) = r) (ha : a.kill (.l d) = a) : Zal d (Zf fr e r) (Zas L k a) := ⟨set_fix h.1 hr, put_fix h.2 ha⟩
theorem Zal.set {d : Nat} {e : Option Nat} {r : AV} (h : Zal d fr L) (hr : r.kill (.l d) = r) : Zal d (Zf fr e r) L := ⟨set_fix h.1 hr, h.2⟩
theorem boxp_fix {K : Key} {cs : List PV} {t : TypeId} : (AO.box (cs.map .p) t).kill K = .box (cs.map .p) t := box_fix.2 (fun x hx => by obtain ⟨y, _, rfl⟩ := List.mem_map.1 hx; rfl)
/-- What a store does: its condition, the objects behind it. -/
def stx (fr : List AV) (L : Objs) (sz : Nat) (p x : Opd) : Option (Prop × Objs) := (Zd none fr L (.st sz p x)).map fun q => (q.1, q.2.2)
theorem st_fix {d : Option Nat} {sz : Nat} {p x : Opd} {c : Prop} {fr' : List AV} {L' : Objs} (h : Zd d fr L (.st sz p x) = some (c, fr', L')) : fr' = fr ∧ ∀ K : Key, fr.map (·.kill K) = fr → Zat K L = L → Zat K L' = L' := by
  simp only [Zd] at h
  split at h
  · split at h
    · rename_i hl
      split at h
      · cases h
        exact ⟨rfl, fun K hF hL => put_fix hL (box_fix.2 (setAV_fix (box_fix.1 (look_fix hL hl)) (fun x hx => by obtain ⟨y, _, rfl⟩ := List.mem_map.1 hx; rfl)))⟩
      · cases h
    · cases h
  · rename_i e1 e2
    split at h
    · rename_i hl
      split at h
      · cases h
        exact ⟨rfl, fun K hF hL => put_fix hL (box_fix.2 (setAV_fix (box_fix.1 (look_fix hL hl)) (fun x hx => by simp only [List.mem_singleton] at hx; subst hx; exact rdu_fix hF e2)))⟩
      · cases h
    · cases h
  · rename_i e1 e2
    split at h
    · rename_i hl hl2
      split at h
      · cases h
        exact ⟨rfl, fun K hF hL => put_fix hL (box_fix.2 (setAV_fix (box_fix.1 (look_fix hL hl)) (fun x hx => by simp only [List.mem_singleton] at hx; subst hx; exact rdu_fix hF e2)))⟩
      · cases h
    · cases h
  · split at h
    · split at h
      · cases h
        exact ⟨rfl, fun K hF hL => put_fix hL rfl⟩
      · cases h
    · cases h
  · cases h
theorem awpOps_st {sz : Nat} {p x : Opd} {is : List IOper} {K : List AV → Objs → Prop} : awpOps P E Y (⟨none, .st sz p x, none⟩ :: is) fr L K ↔ ∃ c L', stx fr L sz p x = some (c, L') ∧ c ∧ awpOps P E Y is fr L' K := by
  simp only [awpOps, stx]
  cases hq : Zd none fr L (.st sz p x) with
  | none => simp
  | some q =>
    obtain ⟨c, fr', L'⟩ := q
    obtain ⟨rfl, _⟩ := st_fix hq
    simp only [Option.map_some, Option.some.injEq, Prod.mk.injEq]
    exact ⟨fun ⟨h1, h2⟩ => ⟨c, L', ⟨rfl, rfl⟩, h1, h2⟩, fun ⟨_, _, ⟨rfl, rfl⟩, h1, h2⟩ => ⟨h1, h2⟩⟩
theorem stx_setD {sz : Nat} {p x : Opd} {d : Option Nat} {r : AV} (h : ∀ e, d = some e → e ∉ slots p ++ slots x) : stx (Zf fr d r) L sz p x = stx fr L sz p x := by
  cases d with
  | none => rfl
  | some e =>
    have := h e rfl
    simp only [List.mem_append, not_or] at this
    simp only [stx, Zf, Zd, rd_set this.1, rd_set this.2]
    split
    · split
      · split <;> rfl
      · rfl
    · split
      · split <;> rfl
      · rfl
    · split
      · split <;> rfl
      · rfl
    · split
      · split <;> rfl
      · rfl
    · rfl
theorem sx_nol {L' : Objs} {i : IOper} (hf : nol i.op = true) : sx P E Y fr L' i = sx P E Y fr L i := by
  have e : core P E Y fr L' i.op = core P E Y fr L i.op := by
    cases hq : i.op <;> rw [hq] at hf <;> simp only [nol, Bool.false_eq_true] at hf <;> rfl
  unfold sx
  rw [e]

theorem commute1 {x i : IOper} {is : List IOper} {K : List AV → Objs → Prop} (ha : apartI x i = true) (hN : ∀ d l, isN i = some (d, l) → Zal d fr L) (h : awpOps P E Y (x :: i :: is) fr L K) : awpOps P E Y (i :: x :: is) fr L K := by
  rcases apartI_spec ha with ⟨rx, ri, h1, h2, hs⟩ | ⟨rx, b, d, f, args, h1, rfl, hf, hs⟩ | ⟨ri, b, d, f, args, h2, rfl, hf, hs⟩ | ⟨rx, d, ri, h1, h2, hf, hs⟩ | ⟨d, rx, ri, h1, h2, hf, hs⟩ | ⟨d, rx, e, ri, h1, h2, hs⟩ | ⟨d, rx, e, f, args, h1, rfl, hs⟩ | ⟨d, f, args, e, ri, rfl, h2, hs⟩ | ⟨rx, sz, p, y, h1, rfl, hf, hs⟩ | ⟨ri, sz, p, y, h2, rfl, hf, hs⟩
  · obtain ⟨h3, h4, h5⟩ := sepI_spec hs
    rw [awpOps_sx (by rw [h1]; rfl)] at h
    obtain ⟨c, r, e1, hc, h⟩ := h
    rw [awpOps_sx (by rw [h2]; rfl)] at h
    obtain ⟨c2, r2, e2, hc2, h⟩ := h
    rw [sx_setD h2 h3] at e2
    rw [awpOps_sx (by rw [h2]; rfl)]
    refine ⟨c2, r2, e2, hc2, ?_⟩
    rw [awpOps_sx (by rw [h1]; rfl)]
    refine ⟨c, r, by rw [sx_setD h1 h4]; exact e1, hc, ?_⟩
    rwa [setD_comm (fun a b ha hb => Ne.symm (h5 b a hb ha))]
  · obtain ⟨h3, h4, h5⟩ := sepI_spec hs
    rw [awpOps_sx (by rw [h1]; rfl)] at h
    obtain ⟨c, r, e1, hc, h⟩ := h
    simp only [awpOps] at h
    obtain ⟨hA, k, t, cs, post, g1, g2, g3, g4, g5, g6⟩ := h
    rw [argC_setD h3] at hA
    rw [argV_setD h3] at g1
    simp only [awpOps]
    refine ⟨hA, k, t, cs, post, g1, g2, g3, g4, g5, fun y cs' hp => ?_⟩
    show awpOps P E Y (x :: is) _ _ K
    rw [awpOps_sx (by rw [h1]; rfl)]
    refine ⟨c, r, ?_, hc, ?_⟩
    · rw [sx_put hf (by rw [h1]; rfl) g2 g4, sx_setD h1 h4]; exact e1
    · rw [setD_comm (fun a b ha hb => Ne.symm (h5 b a hb ha))]
      exact g6 y cs' hp
  · obtain ⟨h3, h4, h5⟩ := sepI_spec hs
    simp only [awpOps] at h
    obtain ⟨hA, k, t, cs, post, g1, g2, g3, g4, ⟨y0, cs0, hp0⟩, g6⟩ := h
    have hn := g6 y0 cs0 hp0
    change awpOps P E Y (i :: is) _ _ K at hn
    rw [awpOps_sx (by rw [h2]; rfl)] at hn
    obtain ⟨c, r, e1, hc, _⟩ := hn
    rw [sx_put hf (by rw [h2]; rfl) g2 g4, sx_setD h2 h3] at e1
    rw [awpOps_sx (by rw [h2]; rfl)]
    refine ⟨c, r, e1, hc, ?_⟩
    simp only [awpOps]
    refine ⟨by rw [argC_setD h4]; exact hA, k, t, cs, post, by rw [argV_setD h4]; exact g1, g2, g3, g4, ⟨y0, cs0, hp0⟩, fun y cs' hp => ?_⟩
    have hn := g6 y cs' hp
    change awpOps P E Y (i :: is) _ _ K at hn
    rw [awpOps_sx (by rw [h2]; rfl)] at hn
    obtain ⟨c', r', e', _, hk⟩ := hn
    rw [sx_put hf (by rw [h2]; rfl) g2 g4, sx_setD h2 h3, e1] at e'
    cases e'
    rw [setD_comm (fun a b ha hb => Ne.symm (h5 b a hb ha))]
    exact hk
  · obtain ⟨h3, h4, h5⟩ := sepI_spec hs
    have hd := isN_dst h2
    have hF := hN d ri h2
    rw [awpOps_sx (by rw [h1]; rfl)] at h
    obtain ⟨c, r, e1, hc, h⟩ := h
    rw [awpOps_nx h2] at h
    obtain ⟨⟨_, g2⟩, c2, r2, ao, g3, hc2, h⟩ := h
    rw [nx_setD h2 h3] at g3
    rw [awpOps_nx h2]
    refine ⟨⟨hF, g2⟩, c2, r2, ao, g3, hc2, ?_⟩
    rw [awpOps_sx (by rw [h1]; rfl)]
    refine ⟨c, r, ?_, hc, ?_⟩
    · rw [show fr.set d r2 = Zf fr (some d) r2 from rfl, sx_setD h1 (fun a ha => h4 a (hd.trans ha)), sx_putN hf (by rw [h1]; rfl) hF.1]; exact e1
    · have := setD_comm (fr := fr) (r := r2) (q := r) (d := some d) (e := x.dst) (fun a b ha hb => Ne.symm (h5 b a hb (hd.trans ha)))
      simp only [Zf] at this h ⊢
      rw [this]
      exact h
  · obtain ⟨h3, h4, h5⟩ := sepI_spec hs
    have hd := isN_dst h1
    rw [awpOps_nx h1] at h
    obtain ⟨⟨hF, g2⟩, c, r, ao, g3, hc, h⟩ := h
    rw [awpOps_sx (by rw [h2]; rfl)] at h
    obtain ⟨c2, r2, e2, hc2, h⟩ := h
    rw [show fr.set d r = Zf fr (some d) r from rfl, sx_setD h2 (fun a ha => h3 a (hd.trans ha)), sx_putN hf (by rw [h2]; rfl) hF.1] at e2
    rw [awpOps_sx (by rw [h2]; rfl)]
    refine ⟨c2, r2, e2, hc2, ?_⟩
    rw [awpOps_nx h1]
    refine ⟨⟨hF.set (sx_fix (by rw [h2]; rfl) hF.1 hF.2 e2), g2⟩, c, r, ao, by rw [nx_setD h1 h4]; exact g3, hc, ?_⟩
    have := setD_comm (fr := fr) (r := r) (q := r2) (d := some d) (e := i.dst) (fun a b ha hb => h5 a b (hd.trans ha) hb)
    simp only [Zf] at this h ⊢
    rw [← this]
    exact h
  · obtain ⟨h3, h4, h5⟩ := sepI_spec hs
    have hd := isN_dst h1
    have he := isN_dst h2
    have hne : d ≠ e := h5 d e hd he
    have hF2 := hN e ri h2
    rw [awpOps_nx h1] at h
    obtain ⟨⟨hF, g2⟩, c, r, ao, g3, hc, h⟩ := h
    rw [awpOps_nx h2] at h
    obtain ⟨⟨_, k2⟩, c2, r2, ao2, k3, hc2, h⟩ := h
    rw [show fr.set d r = Zf fr (some d) r from rfl, nx_setD h2 (fun a ha => h3 a (hd.trans ha))] at k3
    rw [look_putO, if_neg (by simpa using Ne.symm hne)] at k2
    rw [awpOps_nx h2]
    refine ⟨⟨hF2, k2⟩, c2, r2, ao2, k3, hc2, ?_⟩
    rw [awpOps_nx h1]
    obtain ⟨f1, f2⟩ := nx_fix h2 (Ne.symm hne) k3
    refine ⟨⟨hF.put (e := some e) f1 f2, by rw [look_putO, if_neg (by simpa using hne)]; exact g2⟩, c, r, ao, by rw [show fr.set e r2 = Zf fr (some e) r2 from rfl, nx_setD h1 (fun a ha => h4 a (he.trans ha))]; exact g3, hc, ?_⟩
    rw [List.set_comm _ _ (Ne.symm hne), putO_comm ao2 ao (by simpa using Ne.symm hne) (by rw [k2]; rfl) (by rw [g2]; rfl)]
    exact h
  · obtain ⟨h3, h4, h5⟩ := sepI_spec hs
    have hd := isN_dst h1
    rw [awpOps_nx h1] at h
    obtain ⟨⟨hF, g2⟩, c, r, ao, g3, hc, h⟩ := h
    simp only [awpOps] at h
    obtain ⟨hA, k, t, cs, post, k1, k2, k3, k4, k5, k6⟩ := h
    rw [show fr.set d r = Zf fr (some d) r from rfl, argC_setD (fun a ha => h3 a (hd.trans ha))] at hA
    rw [show fr.set d r = Zf fr (some d) r from rfl, argV_setD (fun a ha => h3 a (hd.trans ha))] at k1
    obtain ⟨j, rfl⟩ := k4 rfl
    rw [look_putO, if_neg (by simp)] at k2
    simp only [awpOps]
    refine ⟨hA, .b j, t, cs, post, k1, k2, k3, k4, k5, fun y cs' hp => ?_⟩
    show awpOps P E Y (x :: is) _ _ K
    rw [awpOps_nx h1]
    refine ⟨⟨hF.put rfl boxp_fix, by rw [look_putO, if_neg (by simp)]; exact g2⟩, c, r, ao, by rw [nx_setD h1 h4]; exact g3, hc, ?_⟩
    have := setD_comm (fr := fr) (r := r) (q := .p y) (d := some d) (e := e) (fun a b ha hb => h5 a b (hd.trans ha) hb)
    have h := k6 y cs' hp
    rw [putO_comm ao _ (by simp) (by rw [g2]; rfl) (by rw [k2]; rfl)] at h
    simp only [Zf] at this h ⊢
    rw [← this]
    exact h
  · obtain ⟨h3, h4, h5⟩ := sepI_spec hs
    have he := isN_dst h2
    have hF := hN e ri h2
    simp only [awpOps] at h
    obtain ⟨hA, k, t, cs, post, k1, k2, k3, k4, ⟨y0, cs0, hp0⟩, k6⟩ := h
    obtain ⟨j, rfl⟩ := k4 rfl
    have hn := k6 y0 cs0 hp0
    change awpOps P E Y (i :: is) _ _ K at hn
    rw [awpOps_nx h2] at hn
    obtain ⟨⟨_, g2⟩, c, r, ao, g3, hc, _⟩ := hn
    rw [look_putO, if_neg (by simp)] at g2
    rw [nx_setD h2 h3] at g3
    rw [awpOps_nx h2]
    refine ⟨⟨hF, g2⟩, c, r, ao, g3, hc, ?_⟩
    simp only [awpOps]
    refine ⟨by rw [show fr.set e r = Zf fr (some e) r from rfl, argC_setD (fun a ha => h4 a (he.trans ha))]; exact hA, .b j, t, cs, post, by rw [show fr.set e r = Zf fr (some e) r from rfl, argV_setD (fun a ha => h4 a (he.trans ha))]; exact k1, by rw [look_putO, if_neg (by simp)]; exact k2, k3, k4, ⟨y0, cs0, hp0⟩, fun y cs' hp => ?_⟩
    have hn := k6 y cs' hp
    change awpOps P E Y (i :: is) _ _ K at hn
    rw [awpOps_nx h2] at hn
    obtain ⟨_, c', r', ao', e', _, hk⟩ := hn
    rw [nx_setD h2 h3, g3] at e'
    cases e'
    show awpOps P E Y is _ _ K
    rw [putO_comm ao _ (by simp) (by rw [g2]; rfl) (by rw [k2]; rfl)]
    have := setD_comm (fr := fr) (r := r) (q := .p y) (d := some e) (e := d) (fun a b ha hb => Ne.symm (h5 b a hb (he.trans ha)))
    simp only [Zf] at this hk ⊢
    rw [this]
    exact hk
  · obtain ⟨h3, h4, h5⟩ := sepI_spec hs
    rw [awpOps_sx (by rw [h1]; rfl)] at h
    obtain ⟨c, r, e1, hc, h⟩ := h
    rw [awpOps_st] at h
    obtain ⟨c2, L', g1, hc2, h⟩ := h
    rw [stx_setD h3] at g1
    rw [awpOps_st]
    refine ⟨c2, L', g1, hc2, ?_⟩
    rw [awpOps_sx (by rw [h1]; rfl)]
    exact ⟨c, r, by rw [sx_nol hf]; exact e1, hc, h⟩
  · obtain ⟨h3, h4, h5⟩ := sepI_spec hs
    rw [awpOps_st] at h
    obtain ⟨c, L', g1, hc, h⟩ := h
    rw [awpOps_sx (by rw [h2]; rfl)] at h
    obtain ⟨c2, r2, e2, hc2, h⟩ := h
    rw [awpOps_sx (by rw [h2]; rfl)]
    refine ⟨c2, r2, by rw [sx_nol (L' := L) hf]; exact e2, hc2, ?_⟩
    rw [awpOps_st]
    exact ⟨c, L', by rw [stx_setD h4]; exact g1, hc, h⟩

/-- Operations beside which objects may be made. -/
def isS : IOper → Bool
  | ⟨_, .st .., none⟩ => true
  | ⟨_, .stg .., none⟩ => true
  | _ => false
def okIn (i : IOper) : Bool := (readsI i).isSome || (isD i).isSome || (isN i).isSome || isS i
def FreeAll (ds : List Nat) (fr : List AV) (L : Objs) : Prop := ∀ d ∈ ds, Zal d fr L

theorem stg_fix {d : Option Nat} {sz : Nat} {p x : Opd} {c : Prop} {fr' : List AV} {L' : Objs} (h : Zd d fr L (.stg sz p x) = some (c, fr', L')) : fr' = fr ∧ ∀ K : Key, fr.map (·.kill K) = fr → Zat K L = L → Zat K L' = L' := by
  simp only [Zd] at h
  split at h
  · rename_i e1 e2
    split at h
    · rename_i hl
      split at h
      · cases h
        refine ⟨rfl, fun K hF hL => put_fix hL (box_fix.2 (setAV_fix (box_fix.1 (look_fix hL hl)) (fun x hx => ?_)))⟩
        obtain ⟨y, hy, rfl⟩ := List.mem_map.1 hx
        cases y with
        | inl p => rfl
        | inr k =>
          refine row_fix ?_
          rintro rfl
          exact ag_fix.1 (rdu_fix hF e2) hy
      · cases h
    · cases h
  · cases h

/-- One operation, with what is free staying free. -/
theorem awpOps_consF {i : IOper} {is js : List IOper} {K K' : List AV → Objs → Prop} {ds : List Nat} (hi : okIn i = true) (hN : ∀ d l, isN i = some (d, l) → d ∉ ds) (hF : FreeAll ds fr L) (h : awpOps P E Y (i :: is) fr L K) (hk : ∀ fr L, FreeAll ds fr L → awpOps P E Y is fr L K → awpOps P E Y js fr L K') : awpOps P E Y (i :: js) fr L K' := by
  simp only [okIn, Bool.or_eq_true] at hi
  rcases hi with ((hr | hr) | hr) | hr
  · rw [awpOps_sx hr] at h ⊢
    obtain ⟨c, r, e1, hc, h⟩ := h
    exact ⟨c, r, e1, hc, hk _ _ (fun d hd => (hF d hd).set (sx_fix hr (hF d hd).1 (hF d hd).2 e1)) h⟩
  · obtain ⟨⟨b, l⟩, hq⟩ := Option.isSome_iff_exists.1 hr
    obtain ⟨d, f, args, rfl, rfl⟩ := isD_eq hq
    simp only [awpOps] at h ⊢
    obtain ⟨hA, k, t, cs, post, g1, g2, g3, g4, g5, g6⟩ := h
    exact ⟨hA, k, t, cs, post, g1, g2, g3, g4, g5, fun y cs' hp => hk _ _ (fun d hd => (hF d hd).put rfl boxp_fix) (g6 y cs' hp)⟩
  · obtain ⟨⟨d, l⟩, hq⟩ := Option.isSome_iff_exists.1 hr
    rw [awpOps_nx hq] at h ⊢
    obtain ⟨g, c, r, ao, e1, hc, h⟩ := h
    refine ⟨g, c, r, ao, e1, hc, hk _ _ (fun e he => ?_) h⟩
    obtain ⟨f1, f2⟩ := nx_fix hq (fun e' => hN d l hq (e' ▸ he)) e1
    exact (hF e he).put (e := some d) f1 f2
  · obtain ⟨d, op, gd⟩ := i
    cases gd with
    | some q => cases op <;> simp [isS] at hr
    | none =>
      cases op <;> simp only [isS, Bool.false_eq_true] at hr
      all_goals
        simp only [awpOps] at h ⊢
        split at h
        · rename_i c fr' L' e1
          refine ⟨h.1, hk _ _ (fun e he => ?_) h.2⟩
          first
            | (obtain ⟨rfl, h2⟩ := st_fix e1; exact ⟨(hF e he).1, h2 _ (hF e he).1 (hF e he).2⟩)
            | (obtain ⟨rfl, h2⟩ := stg_fix e1; exact ⟨(hF e he).1, h2 _ (hF e he).1 (hF e he).2⟩)
        · exact h.elim

theorem apart_in {x i : IOper} (h : apartI x i = true) : okIn x = true ∧ ∀ d l, isN x = some (d, l) → ∀ e l', isN i = some (e, l') → d ≠ e := by
  have pure : ∀ {q : IOper} {l}, readsI q = some l → isN q = none := by
    intro q l hq
    cases hn : isN q with
    | none => rfl
    | some p =>
      obtain ⟨d, l'⟩ := p
      rcases isN_eq hn with ⟨t, zero, rfl, _⟩ | ⟨e, z, parts, rfl, _⟩ <;> simp [readsI, readsA] at hq
  have sep : ∀ {rx ri}, sepI x i rx ri = true → ∀ d l, isN x = some (d, l) → ∀ e l', isN i = some (e, l') → d ≠ e := fun hs d l h1 e l' h2 => (sepI_spec hs).2.2 d e (isN_dst h1) (isN_dst h2)
  rcases apartI_spec h with ⟨rx, ri, h1, h2, hs⟩ | ⟨rx, b, d, f, args, h1, rfl, hf, hs⟩ | ⟨ri, b, d, f, args, h2, rfl, hf, hs⟩ | ⟨rx, d, ri, h1, h2, hf, hs⟩ | ⟨d, rx, ri, h1, h2, hf, hs⟩ | ⟨d, rx, e, ri, h1, h2, hs⟩ | ⟨d, rx, e, f, args, h1, rfl, hs⟩ | ⟨d, f, args, e, ri, rfl, h2, hs⟩ | ⟨rx, sz, p, y, h1, rfl, hf, hs⟩ | ⟨ri, sz, p, y, h2, rfl, hf, hs⟩
  · exact ⟨by simp [okIn, h1], sep hs⟩
  · exact ⟨by simp [okIn, h1], sep hs⟩
  · exact ⟨by simp [okIn, isD], sep hs⟩
  · exact ⟨by simp [okIn, h1], sep hs⟩
  · exact ⟨by simp [okIn, h1], sep hs⟩
  · exact ⟨by simp [okIn, h1], sep hs⟩
  · exact ⟨by simp [okIn, h1], sep hs⟩
  · exact ⟨by simp [okIn, isD], sep hs⟩
  · exact ⟨by simp [okIn, h1], sep hs⟩
  · exact ⟨by simp [okIn, isS], sep hs⟩

def newsOf (is : List IOper) : List Nat := is.filterMap fun i => (isN i).map (·.1)

theorem moveFront {i : IOper} {post : List IOper} {K : List AV → Objs → Prop} : ∀ (pre : List IOper) (fr : List AV) (L : Objs), (∀ x ∈ pre, apartI x i = true) → FreeAll (newsOf [i]) fr L → awpOps P E Y (pre ++ i :: post) fr L K → awpOps P E Y (i :: (pre ++ post)) fr L K := by
  intro pre
  induction pre with
  | nil => intro fr L _ _ h; exact h
  | cons x pre ih =>
    intro fr L ha hF h
    have hx := ha x (by simp)
    obtain ⟨h1, h2⟩ := apart_in hx
    have hN : ∀ d l, isN i = some (d, l) → Zal d fr L := fun d l hd => hF d (by simp [newsOf, hd])
    have h' : awpOps P E Y (x :: i :: (pre ++ post)) fr L K := awpOps_consF h1 (fun d l hd hm => by
      cases hq : isN i with
      | none => simp [newsOf, hq] at hm
      | some q => obtain ⟨e, l'⟩ := q; simp [newsOf, hq] at hm; exact h2 d l hd e l' hq hm) hF h (fun fr L hF h => ih fr L (fun y hy => ha y (by simp [hy])) hF h)
    exact commute1 hx hN h'

/-- The edges that bind in any order. -/
def edgesB (o : Oper) : List Nat := (o.after.toList.filter fun e => Region.binds .any e).map (·.on)

/-- j must come before i: by edges. -/
def ancB (ops : Array Oper) : Nat → Nat → Nat → Bool
  | 0, _, _ => false
  | n + 1, i, j => match ops[i]? with
    | some o => (edgesB o).any fun e => e == j || ancB ops n e j
    | none => false

def pairsOk (ops : Array Oper) (n : Nat) (i : Nat) (ii : IOper) : List (Nat × IOper) → Bool
  | [] => true
  | (j, jj) :: r => (apartI jj ii || ancB ops n i j) && pairsOk ops n i ii r

def allOk (ops : Array Oper) (n : Nat) : List (Nat × IOper) → List (Nat × IOper) → Bool
  | _, [] => true
  | seen, (i, ii) :: r => pairsOk ops n i ii seen && allOk ops n (seen ++ [(i, ii)]) r

def dropFz : List IOper → List IOper
  | [] => []
  | i :: is => if isFz i then dropFz is else i :: is

def holesOf : List IOper → List Nat
  | [] => []
  | i :: is => if isFz i then (match i.op with | .hole d => d :: holesOf is | _ => holesOf is) else []
/-- Objects made in a region: their places are laid ahead; what stands beside them leaves them alone. -/
def okNews (hs : List Nat) (js : List IOper) : Bool :=
  (newsOf js).isEmpty || (js.all okIn && decide (newsOf js).Nodup && (newsOf js).all fun d => hs.contains d)

/-- The check for a region that draws its order. -/
def okDraw (ops : Array Oper) (is : List IOper) : Bool :=
  let js := dropFz is
  okNews (holesOf is) js &&
  js.all (fun i => !isFz i) && js.length == ops.size && allOk ops ops.size [] ((List.range js.length).zip js) &&
  (List.range ops.size).all fun i => match ops[i]? with | some o => (edgesB o).all fun e => decide (e < i) | none => true
end
end Go.Proofs.YtndjmidmfmcbkaaGreatDoor

/- Regions that draw their order: the theorem. -/
namespace Go.Proofs.YtndjmidmfmcbkaaGreatDoor
set_option linter.unusedVariables false
set_option linter.unusedSimpArgs false
set_option linter.defProp false

section
variable {P : Program} {E : Envt} {Y : List PV} {B : Base}

theorem chkOps_get {ops : Array Oper} : ∀ {js : List IOper} {os : List Oper}, chkOps P ops os js = true → (∀ i ∈ js, isFz i = false) → js.length = os.length ∧ ∀ (k : Nat) (i : IOper), js[k]? = some i → ∃ o, os[k]? = some o ∧ chkOper P ops o i = true := by
  intro js
  induction js with
  | nil => intro os h _; simp only [chkOps, List.isEmpty_iff] at h; subst h; simp
  | cons i js ih =>
    intro os h hf
    simp only [chkOps] at h
    rw [if_neg (by simp [hf i (by simp)])] at h
    split at h
    · rename_i o os'
      simp only [Bool.and_eq_true] at h
      obtain ⟨h1, h2⟩ := ih h.2 (fun j hj => hf j (by simp [hj]))
      refine ⟨by simp [h1], fun k x hx => ?_⟩
      cases k with
      | zero => simp at hx; subst hx; exact ⟨o, rfl, h.1⟩
      | succ k => simp at hx; simpa using h2 k x hx
    · cases h

theorem pairsOk_mem {ops : Array Oper} {n i : Nat} {ii : IOper} : ∀ {l : List (Nat × IOper)}, pairsOk ops n i ii l = true → ∀ y ∈ l, apartI y.2 ii = true ∨ ancB ops n i y.1 = true := by
  intro l
  induction l with
  | nil => intro _ y hy; cases hy
  | cons q l ih =>
    intro h y hy
    obtain ⟨j, jj⟩ := q
    simp only [pairsOk, Bool.and_eq_true, Bool.or_eq_true] at h
    simp only [List.mem_cons] at hy
    rcases hy with rfl | hy
    · exact h.1
    · exact ih h.2 y hy
theorem allOk_get {ops : Array Oper} {n : Nat} : ∀ {l seen : List (Nat × IOper)}, allOk ops n seen l = true → ∀ (pre : List (Nat × IOper)) (x : Nat × IOper) (post : List (Nat × IOper)), l = pre ++ x :: post → ∀ y ∈ seen ++ pre, apartI y.2 x.2 = true ∨ ancB ops n x.1 y.1 = true := by
  intro l
  induction l with
  | nil => intro seen _ pre x post h; cases pre <;> cases h
  | cons q l ih =>
    intro seen h pre x post e y hy
    obtain ⟨i, ii⟩ := q
    simp only [allOk, Bool.and_eq_true] at h
    cases pre with
    | nil =>
      simp only [List.nil_append, List.cons.injEq] at e
      obtain ⟨rfl, rfl⟩ := e
      exact pairsOk_mem h.1 y (by simpa using hy)
    | cons p pre =>
      simp only [List.cons_append, List.cons.injEq] at e
      obtain ⟨rfl, rfl⟩ := e
      exact ih h.2 pre x post rfl y (by simpa using hy)

/-- What has been done is closed under what had to be done before. -/
def ClosedL (ops : Array Oper) (listed : Array Bool) : Prop := ∀ (i : Nat) (o : Oper), ops[i]? = some o → listed.getD i false = true → ∀ e ∈ edgesB o, listed.getD e false = true

theorem anc_listed {ops : Array Oper} {listed : Array Bool} (hc : ClosedL ops listed) : ∀ (n i j : Nat) (o : Oper), ops[i]? = some o → (∀ e ∈ edgesB o, listed.getD e false = true) → ancB ops n i j = true → listed.getD j false = true := by
  intro n
  induction n with
  | zero => intro i j o _ _ h; simp [ancB] at h
  | succ n ih =>
    intro i j o ho he h
    simp only [ancB, ho, List.any_eq_true, Bool.or_eq_true, beq_iff_eq] at h
    obtain ⟨e, h1, h2⟩ := h
    rcases h2 with rfl | h2
    · exact he e h1
    · cases hoe : ops[e]? with
      | none => cases n <;> simp [ancB, hoe] at h2
      | some oe => exact ih e j oe hoe (hc e oe hoe (he e h1)) h2

theorem mem_ready {ops : Array Oper} {listed : Array Bool} {i : Nat} : i ∈ Region.ready .any ops listed ↔ ∃ o, ops[i]? = some o ∧ listed.getD i true = false ∧ ∀ e ∈ edgesB o, listed.getD e false = true := by
  simp only [Region.ready, List.mem_filter, List.mem_range, Bool.and_eq_true, Bool.not_eq_true']
  constructor
  · rintro ⟨h1, h2, h3⟩
    obtain ⟨o, ho⟩ : ∃ o, ops[i]? = some o := ⟨_, Array.getElem?_eq_getElem h1⟩
    refine ⟨o, ho, h2, fun e he => ?_⟩
    rw [ho] at h3
    simp only [Option.map_some, Option.getD_some, Array.all_eq_true'] at h3
    simp only [edgesB, List.mem_map, List.mem_filter] at he
    obtain ⟨ed, ⟨h4, h5⟩, rfl⟩ := he
    have := h3 ed (by simpa using h4)
    simpa [h5] using this
  · rintro ⟨o, ho, h2, h3⟩
    refine ⟨(Array.getElem?_eq_some_iff.1 ho).1, h2, ?_⟩
    rw [ho]
    simp only [Option.map_some, Option.getD_some, Array.all_eq_true']
    intro ed hed
    cases hb : Region.binds .any ed with
    | false => simp
    | true => simp only [Bool.not_true, Bool.false_or]; exact h3 _ (by simp only [edgesB, List.mem_map, List.mem_filter]; exact ⟨ed, ⟨by simpa using hed, hb⟩, rfl⟩)

def unl (listed : Array Bool) (p : Nat × IOper) : Bool := !listed.getD p.1 true

theorem newsOf_mem {l : List IOper} {d : Nat} : d ∈ newsOf l ↔ ∃ i ∈ l, ∃ r, isN i = some (d, r) := by
  simp only [newsOf, List.mem_filterMap, Option.map_eq_some_iff]
  constructor
  · rintro ⟨i, hi, ⟨e, r⟩, h1, rfl⟩; exact ⟨i, hi, r, h1⟩
  · rintro ⟨i, hi, r, h1⟩; exact ⟨i, hi, (d, r), h1, rfl⟩
theorem any_ok {ops : Array Oper} {js : List IOper} {K : List AV → Objs → Prop} {Q : Exit → Act → World → Prop} (hK : ∀ fr L ι a w, K fr L → StF E B w L ι fr a → Q .normal a w) (hjs : js.length = ops.size)
    (hget : ∀ (k : Nat) (i : IOper), js[k]? = some i → ∃ o, ops[k]? = some o ∧ chkOper P ops o i = true) (hfz : ∀ i ∈ js, isFz i = false) (hall : allOk ops ops.size [] ((List.range js.length).zip js) = true)
    (hedge : ∀ (i : Nat) (o : Oper), ops[i]? = some o → ∀ e ∈ edgesB o, e < i) (hnews : newsOf js = [] ∨ (∀ i ∈ js, okIn i = true) ∧ (newsOf js).Nodup) :
    ∀ (fuel : Nat) (listed : Array Bool) (fr : List AV) (L : Objs) (ι : Key → Value) (a : Act) (w : World), listed.size = ops.size → ClosedL ops listed → fuel = (((List.range js.length).zip js).filter (unl listed)).length →
      FreeAll (newsOf ((((List.range js.length).zip js).filter (unl listed)).map (·.2))) fr L →
      awpOps P E Y ((((List.range js.length).zip js).filter (unl listed)).map (·.2)) fr L K → StF E B w L ι fr a → wpAny P .any ops Q fuel listed a w := by
  intro fuel
  have zget : ∀ (k : Nat) (x : IOper), js[k]? = some x → ((List.range js.length).zip js)[k]? = some (k, x) := by
    intro k x hk
    rw [List.getElem?_zip_eq_some]
    exact ⟨by rw [List.getElem?_range (List.getElem?_eq_some_iff.1 hk).1], hk⟩
  have zmem : ∀ (p : Nat × IOper), p ∈ (List.range js.length).zip js → p.1 < js.length ∧ js[p.1]? = some p.2 := by
    intro p hp
    obtain ⟨k, hk⟩ := List.getElem?_of_mem hp
    rw [List.getElem?_zip_eq_some] at hk
    obtain ⟨h1, h2⟩ := hk
    rw [List.getElem?_range (by have := (List.getElem?_eq_some_iff.1 h2).1; exact this)] at h1
    cases h1
    exact ⟨(List.getElem?_eq_some_iff.1 h2).1, h2⟩
  induction fuel with
  | zero =>
    intro listed fr L ι a w hsz hcl hf hFr h hs
    have hnil : ((List.range js.length).zip js).filter (unl listed) = [] := List.eq_nil_of_length_eq_zero hf.symm
    rw [hnil] at h
    refine ⟨?_, hK fr L ι a w h hs⟩
    refine List.eq_nil_iff_forall_not_mem.2 fun i hi => ?_
    obtain ⟨o, ho, h2, _⟩ := mem_ready.1 hi
    have hlt : i < js.length := by rw [hjs]; exact (Array.getElem?_eq_some_iff.1 ho).1
    have : (i, js[i]) ∈ ((List.range js.length).zip js).filter (unl listed) := by
      simp only [List.mem_filter]
      exact ⟨List.mem_of_getElem? (zget i _ (List.getElem?_eq_getElem hlt)), by simp [unl, h2]⟩
    rw [hnil] at this
    cases this
  | succ fuel ih =>
    intro listed fr L ι a w hsz hcl hf hFr h hs
    have hready : Region.ready .any ops listed ≠ [] := by
      intro hnil
      cases hrem : ((List.range js.length).zip js).filter (unl listed) with
      | nil => rw [hrem] at hf; simp at hf
      | cons p rest =>
        have hp : p ∈ ((List.range js.length).zip js).filter (unl listed) := by rw [hrem]; simp
        -- the least one that is not listed
        have hex : ∃ i, i < js.length ∧ listed.getD i true = false ∧ ∀ j, j < i → listed.getD j true = true := by
          obtain ⟨h1, h2⟩ := List.mem_filter.1 hp
          have hp1 := (zmem p h1).1
          have hpu : listed.getD p.1 true = false := by simpa [unl] using h2
          have : ∀ m i, i ≤ m → i < js.length → listed.getD i true = false → ∃ i, i < js.length ∧ listed.getD i true = false ∧ ∀ j, j < i → listed.getD j true = true := by
            intro m
            induction m with
            | zero => intro i hi h1 h2; exact ⟨i, h1, h2, fun j hj => by omega⟩
            | succ m ihm =>
              intro i hi h1 h2
              by_cases hex : ∃ j, j < i ∧ listed.getD j true = false
              · obtain ⟨j, hj1, hj2⟩ := hex
                exact ihm j (by omega) (by omega) hj2
              · refine ⟨i, h1, h2, fun j hj => ?_⟩
                cases hq : listed.getD j true with
                | true => rfl
                | false => exact absurd ⟨j, hj, hq⟩ hex
          exact this p.1 p.1 (Nat.le_refl _) hp1 hpu
        obtain ⟨i, hi1, hi2, hi3⟩ := hex
        obtain ⟨o, ho, _⟩ := hget i _ (List.getElem?_eq_getElem hi1)
        have : i ∈ Region.ready .any ops listed := mem_ready.2 ⟨o, ho, hi2, fun e he => by
          have hlt := hedge i o ho e he
          have := hi3 e hlt
          have hes : e < listed.size := by rw [hsz, ← hjs]; omega
          simp only [Array.getD, hes, dite_true] at this ⊢
          exact this⟩
        rw [hnil] at this
        cases this
    refine ⟨fun hn => absurd hn hready, fun i hi => ?_⟩
    obtain ⟨o, ho, hun, hed⟩ := mem_ready.1 hi
    have hlt : i < js.length := by rw [hjs]; exact (Array.getElem?_eq_some_iff.1 ho).1
    have hil : i < listed.size := by rw [hsz, ← hjs]; exact hlt
    obtain ⟨ii, hii⟩ : ∃ ii, js[i]? = some ii := ⟨_, List.getElem?_eq_getElem hlt⟩
    have hsplit : (List.range js.length).zip js = ((List.range js.length).zip js).take i ++ (i, ii) :: ((List.range js.length).zip js).drop (i + 1) := by
      have hzl : ((List.range js.length).zip js).length = js.length := by simp
      have e : ((List.range js.length).zip js)[i]? = some (i, ii) := by
        rw [List.getElem?_zip_eq_some]
        exact ⟨by rw [List.getElem?_range hlt], hii⟩
      rw [List.getElem?_eq_some_iff] at e
      obtain ⟨h1, h2⟩ := e
      rw [← h2, ← List.drop_eq_getElem_cons h1, List.take_append_drop]
    have hpre : ∀ p ∈ ((List.range js.length).zip js).take i, p.1 < i := by
      intro p hp
      obtain ⟨k, hk⟩ := List.getElem?_of_mem hp
      rw [List.getElem?_take] at hk
      split at hk
      · rename_i hki
        rw [List.getElem?_zip_eq_some] at hk
        rw [List.getElem?_range (by omega)] at hk
        cases hk.1
        exact hki
      · cases hk
    have hpost : ∀ p ∈ ((List.range js.length).zip js).drop (i + 1), i < p.1 := by
      intro p hp
      obtain ⟨k, hk⟩ := List.getElem?_of_mem hp
      rw [List.getElem?_drop, List.getElem?_zip_eq_some] at hk
      have hkl := (List.getElem?_eq_some_iff.1 hk.2).1
      rw [List.getElem?_range hkl] at hk
      have := Option.some.inj hk.1
      omega
    have hunl : unl listed (i, ii) = true := by simp [unl, hun]
    have hfil : ((List.range js.length).zip js).filter (unl listed) = (((List.range js.length).zip js).take i).filter (unl listed) ++ (i, ii) :: (((List.range js.length).zip js).drop (i + 1)).filter (unl listed) := by
      conv => lhs; rw [hsplit]
      rw [List.filter_append, List.filter_cons_of_pos hunl]
    have hgd : ∀ j, j ≠ i → (listed.setIfInBounds i true).getD j true = listed.getD j true := by
      intro j hj
      rw [Array.getD_eq_getD_getElem?, Array.getD_eq_getD_getElem?, Array.getElem?_setIfInBounds_ne (Ne.symm hj)]
    have hself : ∀ b, (listed.setIfInBounds i true).getD i b = true := by
      intro b
      rw [Array.getD_eq_getD_getElem?, Array.getElem?_setIfInBounds_self_of_lt hil]
      rfl
    have hfil' : ((List.range js.length).zip js).filter (unl (listed.setIfInBounds i true)) = (((List.range js.length).zip js).take i).filter (unl listed) ++ (((List.range js.length).zip js).drop (i + 1)).filter (unl listed) := by
      conv => lhs; rw [hsplit]
      rw [List.filter_append, List.filter_cons_of_neg (by simp [unl, hself])]
      congr 1
      · refine List.filter_congr fun p hp => ?_
        have := hpre p hp
        simp only [unl, hgd p.1 (by omega)]
      · refine List.filter_congr fun p hp => ?_
        have := hpost p hp
        simp only [unl, hgd p.1 (by omega)]
    have hap : ∀ x ∈ ((((List.range js.length).zip js).take i).filter (unl listed)).map (·.2), apartI x ii = true := by
      intro x hx
      obtain ⟨p, hp, rfl⟩ := List.mem_map.1 hx
      obtain ⟨hp1, hp2⟩ := List.mem_filter.1 hp
      rcases allOk_get hall _ _ _ hsplit p (by simpa using hp1) with h' | h'
      · exact h'
      · have := anc_listed hcl _ i p.1 o ho hed h'
        have hpl : p.1 < listed.size := by have := hpre p hp1; omega
        simp only [unl, Array.getD, hpl, dite_true] at hp2 this
        rw [this] at hp2
        cases hp2
    have hsub : ((((List.range js.length).zip js).filter (unl listed)).map (·.2)).Sublist js := by
      have e : ((List.range js.length).zip js).map (·.2) = js := by rw [← List.unzip_snd, List.unzip_zip (by simp)]
      have := (List.filter_sublist (p := unl listed) (l := (List.range js.length).zip js)).map (·.2)
      rwa [e] at this
    rw [hfil] at h hf hFr hsub
    simp only [List.map_append, List.map_cons] at h hFr hsub
    generalize hA : ((((List.range js.length).zip js).take i).filter (unl listed)).map (·.2) = A at *
    generalize hC : ((((List.range js.length).zip js).drop (i + 1)).filter (unl listed)).map (·.2) = C at *
    have hfront := moveFront _ fr L hap (fun d hd => hFr d (by
      obtain ⟨q, hq, r, hr⟩ := newsOf_mem.1 hd
      simp only [List.mem_singleton] at hq
      exact newsOf_mem.2 ⟨q, by simp [hq], r, hr⟩)) h
    -- with what stays free
    have hrest : FreeAll (newsOf (A ++ C)) fr L := fun d hd => hFr d (by
      obtain ⟨q, hq, r, hr⟩ := newsOf_mem.1 hd
      refine newsOf_mem.2 ⟨q, ?_, r, hr⟩
      simp only [List.mem_append, List.mem_cons] at hq ⊢
      rcases hq with hq | hq
      · exact .inl hq
      · exact .inr (.inr hq))
    have hfront : awpOps P E Y (ii :: []) fr L (fun fr L => FreeAll (newsOf (A ++ C)) fr L ∧ awpOps P E Y (A ++ C) fr L K) ∨ (awpOps P E Y (ii :: (A ++ C)) fr L K ∧ newsOf js = []) := by
      rcases hnews with hn | ⟨h1, h2⟩
      · exact .inr ⟨hfront, hn⟩
      · refine .inl (awpOps_consF (h1 ii (List.mem_of_getElem? hii)) ?_ hrest hfront (fun fr L hF h => ⟨hF, h⟩))
        intro d l hd hm
        have hnd : (newsOf (A ++ ii :: C)).Nodup := (hsub.filterMap _).nodup h2
        have hp : (newsOf (A ++ ii :: C)).Perm (newsOf (ii :: (A ++ C))) := List.Perm.filterMap _ List.perm_middle
        have hnd2 := hp.nodup_iff.1 hnd
        have e : newsOf (ii :: (A ++ C)) = d :: newsOf (A ++ C) := by simp [newsOf, hd]
        rw [e] at hnd2
        exact (List.nodup_cons.1 hnd2).1 hm
    have hemp : newsOf js = [] → newsOf (A ++ C) = [] := by
      intro hn
      refine List.eq_nil_iff_forall_not_mem.2 fun d hd => ?_
      obtain ⟨q, hq, r, hr⟩ := newsOf_mem.1 hd
      have : d ∈ newsOf js := newsOf_mem.2 ⟨q, hsub.subset (by
        simp only [List.mem_append, List.mem_cons] at hq ⊢
        rcases hq with hq | hq
        · exact .inl hq
        · exact .inr (.inr hq)), r, hr⟩
      rw [hn] at this
      cases this
    have hfi : isFz ii = false := hfz ii (List.mem_of_getElem? hii)
    obtain ⟨o', ho', hchk⟩ := hget i ii hii
    rw [ho] at ho'
    cases ho'
    have cont : ∀ fr' L' ι' a' w', FreeAll (newsOf (A ++ C)) fr' L' → awpOps P E Y (A ++ C) fr' L' K → StF E B w' L' ι' fr' a' → wpAny P .any ops Q fuel (listed.setIfInBounds i true) a' w' := by
      intro fr' L' ι' a' w' hF' h' hs'
      refine ih (listed.setIfInBounds i true) fr' L' ι' a' w' (by simpa using hsz) ?_ ?_ ?_ ?_ hs'
      · intro k q hq hk e he
        by_cases hki : k = i
        · subst hki
          rw [ho] at hq
          cases hq
          by_cases hei : e = k
          · subst hei; exact hself _
          · have := hed e he
            rw [Array.getD_eq_getD_getElem?, Array.getElem?_setIfInBounds_ne (Ne.symm hei), ← Array.getD_eq_getD_getElem?]
            exact this
        · rw [Array.getD_eq_getD_getElem?, Array.getElem?_setIfInBounds_ne (Ne.symm hki), ← Array.getD_eq_getD_getElem?] at hk
          have := hcl k q hq hk e he
          by_cases hei : e = i
          · subst hei; exact hself _
          · rw [Array.getD_eq_getD_getElem?, Array.getElem?_setIfInBounds_ne (Ne.symm hei), ← Array.getD_eq_getD_getElem?]
            exact this
      · rw [hfil']
        simp only [List.length_append, List.length_cons] at hf ⊢
        omega
      · rw [hfil', List.map_append, hA, hC]
        exact hF'
      · rw [hfil', List.map_append, hA, hC]
        exact h'
    have hstep : if Region.wanted o (yielded ops a.tmps) then o.wp P a w (wpAny P .any ops Q fuel (listed.setIfInBounds i true)) Q else wpAny P .any ops Q fuel (listed.setIfInBounds i true) (a.put o.dst undef) w := by
      rcases hfront with hfront | ⟨hfront, hn⟩
      · exact oper_sound hchk hfi hfront hs (fun fr' L' ι' a' w' h' hs' => by
          simp only [awpOps] at h'
          exact cont fr' L' ι' a' w' h'.1 h'.2 hs')
      · exact oper_sound hchk hfi hfront hs (fun fr' L' ι' a' w' h' hs' => cont fr' L' ι' a' w' (by rw [hemp hn]; intro d hd; cases hd) h' hs')
    unfold wpOp
    rw [ho]
    simp only
    by_cases hw : Region.wanted o (yielded ops a.tmps) = true
    · rw [if_pos hw] at hstep ⊢
      exact .inl hstep
    · rw [if_neg hw] at hstep ⊢
      exact hstep

theorem awpOps_drop {ops : Array Oper} {K : List AV → Objs → Prop} : ∀ (is : List IOper) (ds : List Nat) (fr : List AV) (L : Objs) (ι : Key → Value) (a : Act) (w : World) (os : List Oper), chkOps P ops os is = true → FreeAll ds fr L → awpOps P E Y is fr L K → StF E B w L ι fr a → chkOps P ops os (dropFz is) = true ∧ ∃ fr' L' ι', FreeAll (ds ++ holesOf is) fr' L' ∧ awpOps P E Y (dropFz is) fr' L' K ∧ StF E B w L' ι' fr' a := by
  intro is
  induction is with
  | nil => intro ds fr L ι a w os hc hF h hs; exact ⟨hc, fr, L, ι, by simpa [holesOf] using hF, h, hs⟩
  | cons i is ih =>
    intro ds fr L ι a w os hc hF h hs
    simp only [dropFz, holesOf]
    by_cases hf : isFz i = true
    · rw [if_pos hf, if_pos hf]
      simp only [chkOps] at hc
      rw [if_pos hf] at hc
      rcases isFz_eq hf with ⟨x, rfl⟩ | ⟨x, rfl⟩
      · simp only [awpOps] at h
        split at h
        · rename_i k z es hk
          exact ih ds _ _ ι a w os hc (fun d hd => (hF d hd).thaw) h (fz_ok hs hk)
        · exact ih ds _ _ ι a w os hc hF h hs
      · simp only [awpOps] at h
        obtain ⟨h1, fr', L', ι', h2, h3⟩ := ih (ds ++ [x]) _ _ _ a w os hc (fun d hd => by
          rcases List.mem_append.1 hd with hd | hd
          · exact (hF d hd).hole x
          · simp only [List.mem_singleton] at hd
            subst hd
            exact Zal.hole_self d fr L) h (hole_ok hs x)
        exact ⟨h1, fr', L', ι', by simpa using h2, h3⟩
    · rw [if_neg hf, if_neg hf]
      exact ⟨hc, fr, L, ι, by simpa using hF, h, hs⟩

theorem drawOk (hm : P.follows .mixedOrders = true) : DrawOk P okDraw := by
  intro E B Y ops is id fr L ι a w K Q hK hc hD h hs
  obtain ⟨hc', fr', L', ι', hF', h', hs'⟩ := awpOps_drop is [] fr L ι a w ops.toList hc (fun d hd => by cases hd) h hs
  simp only [okDraw, Bool.and_eq_true, beq_iff_eq, List.all_eq_true, Bool.not_eq_true'] at hD
  obtain ⟨⟨⟨⟨h0, h1⟩, h2⟩, h3⟩, h4⟩ := hD
  rw [List.nil_append] at hF'
  generalize holesOf is = hls at *
  generalize dropFz is = js at *
  obtain ⟨g1, g2⟩ := chkOps_get hc' (fun i hi => h1 i hi)
  refine wp_region_any hm ?_
  have hs'' : StF E B { w with drawn := w.drawn + 1 } L' ι' fr' a := hs'.grown ⟨rfl, rfl, rfl, Nat.le_refl _, fun _ _ _ => rfl⟩
  have hrep : ∀ j, (Array.replicate ops.size false).getD j true = false ↔ j < ops.size := by
    intro j
    by_cases hj : j < ops.size <;> simp [Array.getD, hj]
  have hfil : ((List.range js.length).zip js).filter (unl (Array.replicate ops.size false)) = (List.range js.length).zip js := by
    refine List.filter_eq_self.2 fun p hp => ?_
    obtain ⟨k, hk⟩ := List.getElem?_of_mem hp
    rw [List.getElem?_zip_eq_some] at hk
    have hkl := (List.getElem?_eq_some_iff.1 hk.2).1
    rw [List.getElem?_range hkl] at hk
    cases hk.1
    simp only [unl, (hrep p.1).2 (by rw [← h2]; exact hkl), Bool.not_false]
  refine any_ok (Y := Y) (js := js) hK h2 (fun k i hk => ?_) (fun i hi => h1 i hi) h3 (fun i o ho e he => ?_) ?_ ops.size (Array.replicate ops.size false) fr' L' ι' a _ (by simp) ?_ ?_ ?_ ?_ hs''
  · obtain ⟨o, ho, hh⟩ := g2 k i hk
    exact ⟨o, by simpa using ho, hh⟩
  · have hlt : i < ops.size := (Array.getElem?_eq_some_iff.1 ho).1
    have := h4 i (by simpa using hlt)
    rw [ho] at this
    simp only [List.all_eq_true, decide_eq_true_eq] at this
    exact this e he
  · simp only [okNews, Bool.or_eq_true, Bool.and_eq_true, List.isEmpty_iff, List.all_eq_true, decide_eq_true_eq] at h0
    rcases h0 with h0 | h0
    · exact .inl h0
    · exact .inr h0.1
  · intro k q hq hk
    by_cases hj : k < ops.size <;> simp [Array.getD, hj] at hk
  · rw [hfil]; simp [h2]
  · rw [hfil]
    have e : ((List.range js.length).zip js).map (·.2) = js := by
      rw [← List.unzip_snd, List.unzip_zip (by simp)]
    rw [e]
    simp only [okNews, Bool.or_eq_true, Bool.and_eq_true, List.isEmpty_iff, List.all_eq_true, decide_eq_true_eq] at h0
    rcases h0 with h0 | h0
    · rw [h0]; intro d hd; cases hd
    · exact fun d hd => hF' d (by simpa using h0.2 d hd)
  · rw [hfil]
    have : ((List.range js.length).zip js).map (·.2) = js := by
      rw [← List.unzip_snd, List.unzip_zip (by simp)]
    rw [this]
    exact h'
end
end Go.Proofs.YtndjmidmfmcbkaaGreatDoor
