
/- Own texts, put together: A15 A16 A17 A18 A19 A20 A21 A22 A23. -/
import Derived.Test.YtpddiepfolfnoaaDoorM1
import Derived.Orders
/- The small language's programs: their meaning (awp), and the check that one is what a translated body says. -/
namespace Go.Proofs.YtpddiepfolfnoaaDoor
set_option linter.unusedVariables false
set_option linter.unusedSimpArgs false
set_option linter.defProp false

inductive IC where
  | skip
  | reg (ops : List IOper)
  | drg (ops : List IOper)
  | seq (a b : IC)
  | cond (c : Opd) (t e : IC)
  | block (id : Nat) (b : IC)
  | loop (b : IC)
  | exit (id : Nat)
  | ret
  | cut (b : IC)
  | dead

/-- Slots may be forgotten. -/
def Zb (a b : AV) : Prop :=
  match b with
  | .any => True
  | b => a = b
def Za : List AV → List AV → Prop
  | [], [] => True
  | a :: as, b :: bs => Zb a b ∧ Za as bs
  | _, _ => False
/-- Objects may be forgotten. -/
def Zc : Objs → Objs → Prop
  | [], _ => True
  | (k, a) :: r, L => Zah L k = some a ∧ Zc r L

def Zf (fr : List AV) (d : Option Nat) (r : AV) : List AV :=
  match d with
  | some d => fr.set d r
  | none => fr

def Zd (d : Option Nat) (fr : List AV) (L : Objs) : IOp → Option (Prop × List AV × Objs)
  | .nilr e z => match d with
    | some d => some (True, (fr.map (·.kill (.l d))).set d (.row (.l d)), Zak L (.l d) (.row [] e z true))
    | none => none
  | .alc t zero => match d with
    | some d => some (True, (fr.map (·.kill (.l d))).set d (.adr (.l d) 0), Zak L (.l d) (.box (zero.map .p) t))
    | none => none
  | .box t x => match d, (rd fr x).un with
    | some d, (c, .p v) => if Zz (Zy v) = true then some (c, (fr.map (·.kill (.l d))).set d (.adr (.l d) 0), Zak L (.l d) (.box ((Zy v).map .p) t)) else none
    | some d, (c, .row k) => some (c, (fr.map (·.kill (.l d))).set d (.adr (.l d) 0), Zak L (.l d) (.box [(AV.row k).kill (.l d)] t))
    | _, _ => none
  | .st sz p x => match (rd fr p).un, (rd fr x).un with
    | (cp, .adr k o), (cx, .p v) => match Zah L k with
      | some (.box cs bt) => if o + sz ≤ cs.length ∧ (Zy v).length = sz ∧ Zz (Zy v) = true then some (cp ∧ cx, fr, Zai L k (.box (Zab cs o ((Zy v).map .p)) bt)) else none
      | _ => none
    | (cp, .adr k o), (cx, .row k') => match Zah L k with
      | some (.box cs bt) => if o + 1 ≤ cs.length ∧ sz = 1 then some (cp ∧ cx, fr, Zai L k (.box (Zab cs o [.row k']) bt)) else none
      | _ => none
    | (cp, .rad k z i o), (cx, .p v) => match Zah L k with
      | some (.row es e z' ap) => if z' = z ∧ o + sz ≤ z ∧ (Zy v).length = sz ∧ Zz (Zy v) = true then some (cp ∧ cx ∧ i < es.length, fr, Zai L k (.row (es.set i (Zaa (es.getD i []) o ((Zy v).map wk1))) e z ap)) else none
      | _ => none
    | _, _ => none
  | .app e z by_ x y => match d, (rd fr x).un, Zv L (rd fr y).un.2 with
    | some d, (cx, .row (.l i)), some (z2, es2) => match Zah L (.l i) with
      | some (.row es e' z' true) => if e' = e ∧ z' = z ∧ z2 = z then some (cx ∧ (rd fr y).un.1 ∧ (es.length + es2.length) * by_ ≤ 140737488355328, (fr.map (·.kill (.l i))).set d (.row (.l i)), Zak L (.l i) (.row (es ++ es2) e z true)) else none
      | _ => none
    | some d, (cx, .p (.nl _)), some (z2, es2) => if z2 = z then some (cx ∧ (rd fr y).un.1 ∧ es2.length * by_ ≤ 140737488355328, (fr.map (·.kill (.l d))).set d (.row (.l d)), Zak L (.l d) (.row es2 e z true)) else none
    | _, _, _ => none
  | .bsr e z parts => match d, Zad fr z parts with
    | some d, some (c, es) => some (c, (fr.map (·.kill (.l d))).set d (.row (.l d)), Zak L (.l d) (.row es e z true))
    | _, _ => none
  | .s2b e x => match d, (rd fr x).un with
    | some d, (c, .p (.str l)) => some (c ∧ l.length ≤ 140737488355328, (fr.map (·.kill (.l d))).set d (.row (.l d)), Zak L (.l d) (.row (l.map fun q => [.int .u8 (q.toNat : Nat)]) e 1 false))
    | _, _ => none
  | .mks e z by_ zero x y => match d, (rd fr x).un, (rd fr y).un with
    | some d, (cx, .p (.int _ n)), (cy, .p (.int _ c)) => some (cx ∧ cy ∧ 0 ≤ n ∧ n ≤ c ∧ c * by_ ≤ 140737488355328, (fr.map (·.kill (.l d))).set d (.row (.l d)), Zak L (.l d) (.row (List.replicate n.toNat (zero.map wk1)) e z true))
    | _, _, _ => none
  | .apz e z by_ zero x y => match d, (rd fr x).un, (rd fr y).un with
    | some d, (cx, .p (.nl _)), (cy, .p (.int _ n)) => some (cx ∧ cy ∧ 0 < n ∧ n * by_ ≤ 140737488355328, (fr.map (·.kill (.l d))).set d (.row (.l d)), Zak L (.l d) (.row (List.replicate n.toNat (zero.map wk1)) e z true))
    | _, _, _ => none
  | .trn z x y => match d, (rd fr x).un, (rd fr y).un with
    | some d, (cx, .row (.l i)), (cy, .p (.int _ h)) => match Zah L (.l i) with
      | some (.row es e z' ap) => if z' = z ∧ ap = true then some (cx ∧ cy ∧ 0 ≤ h ∧ h ≤ es.length, (fr.map (·.kill (.l i))).set d (.row (.l i)), Zak L (.l i) (.row (es.take h.toNat) e z true)) else none
      | _ => none
    | _, _, _ => none
  | .mkm kt et => match d with
    | some d => some (True, (fr.map (·.kill (.l d))).set d (.mp (.l d)), Zak L (.l d) (.map [] kt et))
    | none => none
  | .mpu m k v => match d, (rd fr m).un, (rd fr k).un, (rd fr v).un with
    | none, (cm, .mp q), (ck, .p (.str s)), (cv, .p x) => match Zah L q with
      | some (.map kv kt et) => some (cm ∧ ck ∧ cv, fr, Zai L q (.map (mpS kv s x) kt et))
      | _ => none
    | _, _, _, _ => none
  | op => (Ze fr L op).map fun q => (q.1, Zf fr d q.2, L)

def Zh (want : Bool) : AV → Option Bool
  | .p (.bool b) => some (b == want)
  | .g c a => (Zh want a).map (c && ·)
  | _ => none
def Zg (fr : List AV) (s : Nat) (want : Bool) : Option Bool := Zh want (fr.getD s .any)

def Zl (fr : List AV) : List Opd → Prop
  | [] => True
  | x :: r => (rd fr x).un.1 ∧ Zl fr r
def Zm (fr : List AV) (args : List Opd) : List AV := args.map fun x => (rd fr x).un.2

def AV.clean (L L' : Objs) : AV → AV
  | .p x => .p x
  | .row k => if (Zah L k).isSome ∧ (Zah L' k).isSome then .row k else .any
  | .adr k o => if (Zah L k).isSome ∧ (Zah L' k).isSome then .adr k o else .any
  | .rad k z i o => if (Zah L k).isSome ∧ (Zah L' k).isSome then .rad k z i o else .any
  | .ipt z es i o => .ipt z es i o
  | .mp k => if (Zah L k).isSome ∧ (Zah L' k).isSome then .mp k else .any
  | .fn f ks => if ∀ k ∈ ks, (Zah L k).isSome ∧ (Zah L' k).isSome then .fn f ks else .any
  | .g c a => .g c (a.clean L L')
  | .any => .any

/-- A result: a plain value, or a fresh row. -/
inductive RV where
  | p (x : PV)
  | fr (es : List (List PV)) (e : TypeId) (z : Nat)

/-- How a result lies in the world behind the call: U: what it must not touch; n: the blocks below n are older. -/
def RVok (w : World) (U : Nat → Prop) (n : Nat) : RV → Value → Prop
  | .p x, v => PRep w U x v
  | .fr es e z, v => ∃ vs, RowOk w e z true v es.length vs ∧ (∀ u ∈ vs, u.oneCell' = true) ∧ PRepL w (fun b => U b ∨ blk v = some b) es.flatten vs ∧ (∀ x ∈ es, x.length = z) ∧ ∀ b, blk v = some b → n ≤ b

/-- The block that a fresh row takes. -/
def RV.own : RV → Value → Nat → Prop
  | .p _, _, _ => False
  | .fr .., v, b => blk v = some b

/-- An object that a caller lends: a variable with plain cells, or a row. -/
inductive OS where
  | box (t : TypeId) (cs : List PV)
  | row (e z : Nat) (es : List (List PV))
def OS.ao : OS → AO
  | .box t cs => .box (cs.map .p) t
  | .row e z es => .row es e z true
def ObjAt (w : World) (U : Nat → Prop) (v : Value) : OS → Prop
  | .box t cs => ∃ (b : Nat) (vs : List Value), v = .pointer (some ⟨b, 0, none⟩) ∧ w.heap[b]? = some (.cells vs.toArray t (0, 0)) ∧ (∀ u ∈ vs, u.oneCell' = true) ∧ PRepL w U cs vs
  | .row e z es => ∃ vs : List Value, RowOk w e z true v es.length vs ∧ (∀ u ∈ vs, u.oneCell' = true) ∧ PRepL w U es.flatten vs ∧ ∀ x ∈ es, x.length = z

theorem ObjAt.ok {w : World} {U : Nat → Prop} {ι : Key → Value} {k : Key} {os : OS} (h : ObjAt w U (ι k) os) : ObjOk w U ι k os.ao := by
  cases os with
  | box t cs =>
    obtain ⟨b, vs, e1, e2, e3, e4⟩ := h
    refine ⟨b, vs, e1, e2, by simpa using e4.length, e3, fun j x hx => ?_⟩
    rw [List.getElem?_map, Option.map_eq_some_iff] at hx
    obtain ⟨y, hy, rfl⟩ := hx
    exact e4.get hy
  | row e z es => exact h
theorem ObjAt.of {w : World} {U : Nat → Prop} {ι : Key → Value} {k : Key} {os : OS} (h : ObjOk w U ι k os.ao) : ObjAt w U (ι k) os := by
  cases os with
  | box t cs =>
    obtain ⟨b, vs, e1, e2, e3, e4, e5⟩ := h
    refine ⟨b, vs, e1, e2, e4, PRepL.of_get (by simpa using e3) (fun j x u hx hu => ?_)⟩
    obtain ⟨u', hu', hr'⟩ := e5 j (.p x) (by rw [List.getElem?_map, hx]; rfl)
    rw [hu'] at hu
    cases hu
    exact hr'
  | row e z es => exact h
theorem ObjAt.mono {w w' : World} {U U' : Nat → Prop} {v : Value} {os : OS} (hk : Keeps w w' U U') (hb : ∀ b, blk v = some b → w'.heap[b]? = w.heap[b]?) (h : ObjAt w U v os) : ObjAt w' U' v os := by
  cases os with
  | box t cs =>
    obtain ⟨b, vs, e1, e2, e3, e4⟩ := h
    exact ⟨b, vs, e1, by rw [hb b (by rw [e1]; rfl)]; exact e2, e3, PRepL.mono hk _ _ e4⟩
  | row e z es =>
    obtain ⟨vs, h1, h2, h3, h4⟩ := h
    refine ⟨vs, ⟨h1.1, ?_⟩, h2, PRepL.mono hk _ _ h3, h4⟩
    rcases h1.2 with g1 | ⟨g, cap, cur, fz, g1, g2, rest⟩
    · exact .inl g1
    · exact .inr ⟨g, cap, cur, fz, g1, by rw [hb g (by rw [g1]; rfl)]; exact g2, rest⟩

/-- A call that may change one object (bk: its key and what it holds). -/
def GC (P : Program) (E : Envt) (f : FuncId) (as : List AV) (L : Objs) (bk : Option (Key × OS)) (post : RV → OS → Prop) : Prop :=
  ∀ w X ι vs, Sim w X L ι → (∀ b, X b → b < w.heap.size ∧ ¬ Own L ι b) → E.ok w → (∀ b, E.bl b → b < w.heap.size ∧ ¬ Own L ι b) → ARepL w (fun b => Own L ι b ∨ X b) ι as vs →
    Calls P f vs.toArray w fun e w' => ∃ v r os', e = .returned v ∧ post r os' ∧ RVok w' (fun b => Own L ι b ∨ X b) w.heap.size r v ∧
      (match bk with
       | none => Grow w w' (fun _ => False)
       | some (k, _) => Grow w w' (Old L ι k) ∧ ObjAt w' (fun b => (Own L ι b ∨ X b) ∨ r.own v b) (ι k) os')

def putB (L : Objs) (bk : Option (Key × OS)) (os' : OS) : Objs :=
  match bk with
  | none => L
  | some (k, _) => Zai L k os'.ao
def hasB (L : Objs) (bk : Option (Key × OS)) : Prop :=
  match bk with
  | none => True
  | some (k, os) => Zah L k = some os.ao
def Zau (d : Option Nat) (bk : Option (Key × OS)) : Prop :=
  match bk, d with
  | some (k, _), some d => k ≠ .l d
  | _, _ => True
def resK (d : Option Nat) (fr : List AV) (L : Objs) (K : List AV → Objs → Prop) : RV → Prop
  | .p x => K (Zf fr d (.p x)) L
  | .fr es e z => match d with
    | some d => K ((fr.map (·.kill (.l d))).set d (.row (.l d))) (Zak L (.l d) (.row es e z true))
    | none => K fr L

def CallOp (P : Program) (E : Envt) (f : FuncId) (as : List AV) (L : Objs) (d : Option Nat) (fr : List AV) (K : List AV → Objs → Prop) : Prop :=
  (∃ φ : PV → Prop, PureC P E f as L φ ∧ ∀ x, φ x → K (Zf fr d (.p x)) L) ∨
  (∃ bk post, GC P E f as L bk post ∧ hasB L bk ∧ Zau d bk ∧ ∀ r os', post r os' → resK d fr (putB L bk os') K r) ∨
  Call P E f as L (fun r L' => K (Zf (fr.map (·.clean L L')) d r) L')

/-- A call in a region that draws its order: it turns one variable, and it has an outcome. -/
def DCallOp (b : Bool) (P : Program) (E : Envt) (f : FuncId) (as : List AV) (L : Objs) (d : Option Nat) (fr : List AV) (K : List AV → Objs → Prop) : Prop :=
  ∃ (k : Key) (t : TypeId) (cs : List PV) (post : PV → List PV → Prop), GC P E f as L (some (k, .box t cs)) (fun r os' => ∃ x cs', r = .p x ∧ os' = .box t cs' ∧ post x cs') ∧ Zah L k = some (.box (cs.map .p) t) ∧ (∀ e, d = some e → k ≠ .l e) ∧ (b = true → ∃ j, k = .b j) ∧ (∃ x cs', post x cs') ∧
    ∀ x cs', post x cs' → K (Zf fr d (.p x)) (Zai L k (.box (cs'.map .p) t))

def CallG (c0 : Bool) (P : Program) (E : Envt) (f : FuncId) (as : List AV) (L : Objs) (d : Option Nat) (fr : List AV) (K : List AV → Objs → Prop) : Prop :=
  (∃ x : PV, (c0 = true → PureC P E f as L (· = x)) ∧ K (Zf fr d (.g c0 (.p x))) L) ∨ ((c0 = true → CallOp P E f as L d fr K) ∧ (c0 = false → K (Zf fr d (.g c0 .any)) L))

def Zaf (fr : List AV) (L : Objs) (x : Opd) : Option (Key × Nat × List (List PV)) :=
  match (rd fr x).un.2 with
  | .row k => match Zah L k with
    | some (.row es _ z _) => some (k, z, es)
    | _ => none
  | _ => none

def Zag (fr : List AV) (x : Opd) : Option (FuncId × List AV) :=
  match (rd fr x).un with
  | (_, .fn f ks) => some (f, ks.map fun k => .adr k 0)
  | (_, .p (.clo f ps)) => some (f, ps.map .p)
  | _ => none

def Zk (L : Objs) : List AV → Bool
  | [] => true
  | .adr k _ :: r => (match Zah L k with | some (.box _ _) => true | _ => false) && Zk L r
  | _ :: r => Zk L r
def fnB (P : Program) (f : FuncId) : Bool :=
  match P.funcs[f]? with
  | some fn => fn.body.isSome && fn.name != "runtime.NumGoroutine"
  | none => false

/-- Operations that may be left undefined where their guard is false. -/
def plainOp : IOp → Bool
  | .ldl .. | .dcall .. | .dead => false
  | _ => true

def awpOps (P : Program) (E : Envt) (X : List PV) : List IOper → List AV → Objs → (List AV → Objs → Prop) → Prop
  | [], fr, L, K => K fr L
  | ⟨d, op, gd⟩ :: is, fr, L, K =>
    match gd with
    | none => match op with
      | .call f args => Zl fr args ∧ CallOp P E f (Zm fr args) L d fr (fun fr L => awpOps P E X is fr L K)
      | .dcall b f args => Zl fr args ∧ DCallOp b P E f (Zm fr args) L d fr (fun fr L => awpOps P E X is fr L K)
      | .pcall n f args => (Zl fr args ∧ PureC P E f (Zm fr args) L (· = X.getD n (.bool false))) ∧ awpOps P E X is (Zf fr d (.p (X.getD n (.bool false)))) L K
      | .callv g args => match Zag fr g with
        | some (f, ks) => (rd fr g).un.1 ∧ fnB P f = true ∧ Zk L ks = true ∧ Zl fr args ∧ CallOp P E f (Zm fr args ++ ks) L d fr (fun fr L => awpOps P E X is fr L K)
        | none => False
      | .fz x => match Zaf fr L x with
        | some (k, z, es) => awpOps P E X is (fr.map (·.thaw k z es)) (Zal k z es L) K
        | none => awpOps P E X is fr L K
      | op => match Zd d fr L op with
        | some (c, fr', L') => c ∧ awpOps P E X is fr' L' K
        | none => False
    | some (s, want) => match Zg fr s want with
      | some c0 => match op with
        | .call f args => (c0 = true → Zl fr args) ∧ CallG c0 P E f (Zm fr args) L d fr (fun fr L => awpOps P E X is fr L K)
        | .pcall n f args => (c0 = true → Zl fr args ∧ PureC P E f (Zm fr args) L (· = X.getD n (.bool false))) ∧ awpOps P E X is (Zf fr d (.g c0 (.p (X.getD n (.bool false))))) L K
        | op => match Ze fr L op with
          | some (c, r) => (c0 = true → c) ∧ awpOps P E X is (Zf fr d (.g c0 r)) L K
          | none => plainOp op = true ∧ c0 = false ∧ awpOps P E X is (Zf fr d (.g c0 .any)) L K
      | none => False

def BrQ (b : Bool) (x y : Prop) : Prop := (b = true → x) ∧ (b = false → y)

def awp (P : Program) (E : Envt) : IC → List AV → Objs → AQ → Prop
  | .skip, fr, L, Q => Q .normal fr L
  | .reg ops, fr, L, Q => awpOps P E [] ops fr L (Q .normal)
  | .drg ops, fr, L, Q => ∃ X, awpOps P E X ops fr L (Q .normal)
  | .seq x y, fr, L, Q => awp P E x fr L (thenQ (fun fr L => awp P E y fr L Q) Q)
  | .cond c x y, fr, L, Q => match (rd fr c) with
    | .p (.bool b) => BrQ b (awp P E x fr L Q) (awp P E y fr L Q)
    | _ => False
  | .block id x, fr, L, Q => awp P E x fr L (blockQ id Q)
  | .loop x, fr, L, Q => ∃ (I : Nat → List AV → Objs → Prop), (∃ n fr' L', Za fr fr' ∧ Zc L' L ∧ I n fr' L') ∧ ∀ n fr L, I n fr L → awp P E x fr L (thenQ (fun fr L => ∃ m fr' L', m < n ∧ Za fr fr' ∧ Zc L' L ∧ I m fr' L') Q)
  | .exit id, fr, L, Q => Q (.exit id) fr L
  | .ret, fr, L, Q => Q .ret fr L
  | .cut x, fr, L, Q => ∃ fr' L', Za fr fr' ∧ Zc L' L ∧ awp P E x fr' L' Q
  | .dead, _, _, _ => False

def strT (P : Program) (t : TypeId) : Bool := match P.underlying t with | some .string => true | _ => false
def boolT (P : Program) (t : TypeId) : Bool := match P.underlying t with | some .bool => true | _ => false
def slT (P : Program) (t : TypeId) : Option TypeId := match P.underlying t with | some (.slice e) => some e | _ => none
def intT (P : Program) (t : TypeId) : Option IntKind := match P.underlying t with | some (.int k) => some k | _ => none

def chkOp (P : Program) : Op → IOp → Bool
  | .move x, .mov y => okOpd x y
  | .assign x, .mov y => okOpd x y
  | .move x, .nilr e z => okOpd x (.c (.nl z))
  | .assign x, .nilr e z => okOpd x (.c (.nl z))
  | .pick c x y, .pick c' x' y' => okOpd c c' && okOpd x x' && okOpd y y'
  | .binOp op t x y _, .bin op' x' y' => op == op' && okOpd x x' && okOpd y y'
  | .binOp op t x y _, .bnb op' x' y' => op == op' && okOpd x x' && okOpd y y' && boolT P t
  | .binOp op t x y _, .eqa neg ks x' y' => op == (if neg then .neq else .eql) && okOpd x x' && okOpd y y' && flatT P t ks
  | .unOp .not t x, .not x' => okOpd x x'
  | .unOp .neg t x, .neg x' => okOpd x x'
  | .call { callee := .builtin .len, args := args, argTypes := ts }, .len x' => match args.toList, ts.toList with
    | [x], [t] => okOpd x x' && (slT P t).isSome
    | _, _ => false
  | .call { callee := .builtin .len, args := args, argTypes := ts }, .sln x' => match args.toList, ts.toList with
    | [x], [t] => okOpd x x' && strT P t
    | _, _ => false
  | .call { callee := .builtin .max, args := args, argTypes := ts }, .mx x' y' => match args.toList with
    | [x, y] => okOpd x x' && okOpd y y'
    | _ => false
  | .call { callee := .builtin .min, args := args, argTypes := ts }, .mn x' y' => match args.toList with
    | [x, y] => okOpd x x' && okOpd y y'
    | _ => false
  | .index t x i, .idx x' i' => okOpd x x' && okOpd i i' && strT P t
  | .slice t x lo hi none, .ssl x' lo' hi' => okOpd x x' && okOpt lo lo' && okOpt hi hi' && strT P t
  | .slice t x lo hi none, .vsl z x' lo' hi' => okOpd x x' && okOpt lo lo' && okOpt hi hi' && (match slT P t with | some e => sizeB P e z | none => false)
  | .indexAddr t x i, .ixa z x' i' => okOpd x x' && okOpd i i' && (match slT P t with | some e => sizeB P e z | none => false)
  | .fieldAddr s x f, .fla off x' => okOpd x x' && (match P.underlying s with
    | some (.struct fs) => match fs[f]? with
      | some fd => fd.offset == off && decide (0 < P.cellsOf fd.type)
      | none => false
    | _ => false)
  | .field s x f, .fld off sz ag x' => okOpd x x' && (match P.underlying s with
    | some (.struct fs) => match fs[f]? with
      | some fd => fd.offset == off && sizeB P fd.type sz && aggB P fd.type ag && (ag || sz == 1)
      | none => false
    | _ => false)
  | .load t x, .ld sz ag x' => okOpd x x' && sizeB P t sz && aggB P t ag && (ag || sz == 1)
  | .extract x i, .ext i' x' => okOpd x x' && i == i'
  | .build t parts, .bld zero parts' => zeroB P t zero && (match P.underlying t with
    | some (.struct fs) => okParts P ((fs.map fun f => (f.offset, P.cellsOf f.type))[·]?) zero.length parts.toList parts' && (fs.toList.all fun f => (P.info? f.type).isSome)
    | _ => false)
  | .convert s d x, .cvi k x' => okOpd x x' && (P.underlying s).isSome && intT P d == some k
  | .convert s d x, .cvs x' => okOpd x x' && (intT P s).isSome && strT P d
  | .convert s d x, .b2s x' => okOpd x x' && strT P d && (match slT P s with | some e => intT P e == some .u8 | none => false)
  | .convert s d x, .s2b e x' => okOpd x x' && (P.underlying s).isSome && slT P d == some e && intT P e == some .u8
  | .buildSlice t n parts, .bsl z parts' => (match slT P t with | some e => sizeB P e z && ((P.info? e).bind (·.zero)).isSome | none => false) && parts.toList.length == n && decide (n * z ≤ 16777216) && okDense 0 parts.toList parts'
  | .buildSlice t n parts, .bsr e z parts' => slT P t == some e && sizeB P e z && ((P.info? e).bind (·.zero)).isSome && parts.toList.length == n && decide (n * z ≤ 16777216) && decide (n ≤ 16777216) && okDense 0 parts.toList parts'
  | .nilCheck x, .nck x' => okOpd x x'
  | .makeFunc (.func f) first caps, .mkf f' caps' => f == f' && first.toList.isEmpty && okOpds caps.toList caps'
  | .alloc t, .alc t' zero => t == t' && zeroB P t zero
  | .box t x, .box t' x' => t == t' && okOpd x x'
  | .store t p x, .st sz p' x' => okOpd p p' && okOpd x x' && sizeB P t sz
  | .call { callee := .builtin .append, args := args, argTypes := ts }, .app e z by_ x' y' => match args.toList, ts.toList with
    | [x, y], [t, t'] => t == t' && okOpd x x' && okOpd y y' && slT P t == some e && appB P e z by_
    | _, _ => false
  | .makeSlice t x y, .mks e z by_ zero x' y' => okOpd x x' && okOpd y y' && slT P t == some e && appB P e z by_ && zeroB P e zero
  | .call { callee := .value (.func f), args := args, argTypes := ts }, .call f' args' => f == f' && fnB P f && okOpds args.toList args'
  | .call { callee := .value (.func f), args := args, argTypes := ts }, .pcall _ f' args' => f == f' && fnB P f && okOpds args.toList args'
  | .call { callee := .value (.tmp g), args := args, argTypes := ts }, .callv (.t g') args' => g == g' && okOpds args.toList args'
  | .call { callee := .builtin .cap, args := args, argTypes := ts }, .cap0 x' => match args.toList, ts.toList with
    | [x], [t] => okOpd x x' && (slT P t).isSome
    | _, _ => false
  | .slice t x none (some hi) none, .vsn x' hi' => okOpd x x' && okOpd hi hi' && (match slT P t with | some e => (P.info? e).isSome | none => false)
  | .slice t x none (some hi) none, .trn z x' hi' => okOpd x x' && okOpd hi hi' && (match slT P t with | some e => sizeB P e z | none => false)
  | .call { callee := .builtin .append, args := args, argTypes := ts }, .apz e z by_ zero x' y' => match args.toList, ts.toList with
    | [x, y], [t, t'] => okOpd x x' && okOpd y y' && slT P t == some e && (intT P t').isSome && appB P e z by_ && zeroB P e zero
    | _, _ => false
  | .makeMap t none, .mkm kt et => match P.underlying t with
    | some (.map kt' et') => kt' == kt && et' == et
    | _ => false
  | .mapUpdate t m k x, .mpu m' k' x' => okOpd m m' && okOpd k k' && okOpd x x' && (match P.underlying t with
    | some (.map kt _) => strT P kt
    | _ => false)
  | .insert t m k x, .mpu m' k' x' => okOpd m m' && okOpd k k' && okOpd x x' && (match P.underlying t with
    | some (.map kt _) => strT P kt
    | _ => false)
  | .lookup t m k ok, .mpl ok' zero m' k' => ok == ok' && okOpd m m' && okOpd k k' && (match P.underlying t with
    | some (.map kt et) => strT P kt && zero1B P et zero
    | _ => false)
  | .call { callee := .builtin .len, args := args, argTypes := ts }, .mpn x' => match args.toList, ts.toList with
    | [x], [t] => okOpd x x' && (match P.underlying t with | some (.map ..) => true | _ => false)
    | _, _ => false
  | _, _ => false

def isSt : IOp → Bool
  | .st .. => true
  | _ => false

def chkOper0 (P : Program) (ops : Array Oper) (o : Oper) (i : IOper) : Bool :=
  o.dst == i.dst && chkOp P o.op i.op && (!isSt i.op || i.dst == none) &&
  (match o.guard, i.guard with
   | none, none => true
   | some (j, w), some (s, w') => w == w' && (ops[j]?).bind (·.dst) == some s
   | _, _ => false)

def IOp.norm : IOp → IOp
  | .ldl s a x => .ld s a x
  | .dcall _ f args => .call f args
  | i => i
def isDead : IOp → Bool
  | .dead => true
  | _ => false
def chkOper (P : Program) (ops : Array Oper) (o : Oper) (i : IOper) : Bool :=
  isDead i.op || chkOper0 P ops o { i with op := i.op.norm }

def isFz : IOper → Bool
  | ⟨none, .fz _, none⟩ => true
  | _ => false

def chkOps (P : Program) (ops : Array Oper) : List Oper → List IOper → Bool
  | os, [] => os.isEmpty
  | os, i :: is => if isFz i then chkOps P ops os is else match os with
    | o :: os => chkOper P ops o i && chkOps P ops os is
    | [] => false

def chkC (P : Program) (D : Array Oper → List IOper → Bool) : IC → Code → Bool
  | .skip, .skip => true
  | .reg is, .region _ ops false => chkOps P ops ops.toList is
  | .drg is, .region _ ops true => chkOps P ops ops.toList is && D ops is
  | .seq x y, .seq a b => chkC P D x a && chkC P D y b
  | .cond d x y, .cond c a b => okOpd c d && chkC P D x a && chkC P D y b
  | .block j x, .block i a => i == j && chkC P D x a
  | .loop x, .loop a => chkC P D x a
  | .exit j, .exit i => i == j
  | .ret, .ret => true
  | .cut x, c => chkC P D x c
  | .dead, _ => true
  | _, _ => false
end Go.Proofs.YtpddiepfolfnoaaDoor

/- The check is right: what passes it means what it says. -/
namespace Go.Proofs.YtpddiepfolfnoaaDoor
set_option linter.unusedVariables false
set_option linter.unusedSimpArgs false
set_option linter.defProp false

section
variable {P : Program} {E : Envt} {B : Base} {w w' : World} {L : Objs} {ι : Key → Value} {fr : List AV} {a : Act} {X : Nat → Prop} {o : Oper} {U : Nat → Prop}

theorem strT_eq {t : TypeId} (h : strT P t = true) : P.underlying t = some .string := by
  unfold strT at h; split at h
  · assumption
  · cases h
theorem boolT_eq {t : TypeId} (h : boolT P t = true) : P.underlying t = some .bool := by
  unfold boolT at h; split at h
  · assumption
  · cases h
theorem slT_eq {t e : TypeId} (h : slT P t = some e) : P.underlying t = some (.slice e) := by
  unfold slT at h; split at h
  · cases h; assumption
  · cases h
theorem intT_eq {t : TypeId} {k : IntKind} (h : intT P t = some k) : P.underlying t = some (.int k) := by
  unfold intT at h; split at h
  · cases h; assumption
  · cases h

theorem arr_of_list {α : Type} {a : Array α} {l : List α} (h : a.toList = l) : a = l.toArray := by rw [← h]

/-- Class A operations. -/
theorem step_sound {i : IOp} (hchk : chkOp P o.op i = true) {c : Prop} {r : AV} (h : Ze fr L i = some (c, r)) : Val1 P o fr L c r := by
  unfold chkOp at hchk
  split at hchk
  · rename_i x y ho; simp only [Ze, Option.some.injEq, Prod.mk.injEq] at h; obtain ⟨rfl, rfl⟩ := h; exact snd_mov (.inl ho) hchk
  · rename_i x y ho; simp only [Ze, Option.some.injEq, Prod.mk.injEq] at h; obtain ⟨rfl, rfl⟩ := h; exact snd_mov (.inr ho) hchk
  · simp [Ze] at h
  · simp [Ze] at h
  · rename_i x1 x2 x3 y1 y2 y3 ho
    simp only [Bool.and_eq_true] at hchk
    simp only [Ze] at h
    split at h
    · simp only [Option.some.injEq, Prod.mk.injEq] at h; obtain ⟨rfl, rfl⟩ := h
      exact snd_pick ho hchk.1.1 hchk.1.2 hchk.2 ‹_› ‹_› ‹_›
    · simp only [Option.some.injEq, Prod.mk.injEq] at h; obtain ⟨rfl, rfl⟩ := h
      exact snd_pick1 ho hchk.1.1 hchk.1.2 ‹_› ‹_›
    · simp only [Option.some.injEq, Prod.mk.injEq] at h; obtain ⟨rfl, rfl⟩ := h
      exact snd_pick2 ho hchk.1.1 hchk.2 ‹_› ‹_›
    · cases h
  · rename_i op t x y t' op' x' y' ho
    simp only [Bool.and_eq_true, beq_iff_eq] at hchk
    obtain ⟨⟨rfl, h1⟩, h2⟩ := hchk
    exact snd_bin ho h1 h2 h
  · rename_i op t x y t' op' x' y' ho
    simp only [Bool.and_eq_true, beq_iff_eq] at hchk
    obtain ⟨⟨⟨rfl, h1⟩, h2⟩, h3⟩ := hchk
    exact snd_bnb ho (boolT_eq h3) h1 h2 h
  · rename_i op t x y t' neg ks x' y' ho
    simp only [Bool.and_eq_true, beq_iff_eq] at hchk
    obtain ⟨⟨⟨h0, h1⟩, h2⟩, h3⟩ := hchk
    subst h0
    exact snd_eqa ho h3 h1 h2 h
  · rename_i t x x' ho; exact snd_not ho hchk h
  · rename_i t x x' ho; exact snd_neg ho hchk h
  · rename_i args ts x' ho
    split at hchk
    · rename_i x t e1 e2
      simp only [Bool.and_eq_true] at hchk
      obtain ⟨e, he⟩ := Option.isSome_iff_exists.1 hchk.2
      rw [arr_of_list e1, arr_of_list e2] at ho
      exact snd_len ho (slT_eq he) hchk.1 h
    · cases hchk
  · rename_i args ts x' ho
    split at hchk
    · rename_i x t e1 e2
      simp only [Bool.and_eq_true] at hchk
      rw [arr_of_list e1, arr_of_list e2] at ho
      exact snd_sln ho (strT_eq hchk.2) hchk.1 h
    · cases hchk
  · rename_i args ts x' y' ho
    split at hchk
    · rename_i x y e1
      simp only [Bool.and_eq_true] at hchk
      rw [arr_of_list e1] at ho
      exact snd_mx ho hchk.1 hchk.2 h
    · cases hchk
  · rename_i args ts x' y' ho
    split at hchk
    · rename_i x y e1
      simp only [Bool.and_eq_true] at hchk
      rw [arr_of_list e1] at ho
      exact snd_mn ho hchk.1 hchk.2 h
    · cases hchk
  · rename_i t x i x' i' ho
    simp only [Bool.and_eq_true] at hchk
    exact snd_idx ho (strT_eq hchk.2) hchk.1.1 hchk.1.2 h
  · rename_i t x lo hi x' lo' hi' ho
    simp only [Bool.and_eq_true] at hchk
    exact snd_ssl ho (strT_eq hchk.2) hchk.1.1.1 hchk.1.1.2 hchk.1.2 h
  · rename_i t x lo hi z x' lo' hi' ho
    simp only [Bool.and_eq_true] at hchk
    obtain ⟨⟨⟨h1, h2⟩, h3⟩, h4⟩ := hchk
    split at h4
    · rename_i e he; exact snd_vsl ho (slT_eq he) h4 h1 h2 h3 h
    · cases h4
  · rename_i t x i z x' i' ho
    simp only [Bool.and_eq_true] at hchk
    obtain ⟨⟨h1, h2⟩, h4⟩ := hchk
    split at h4
    · rename_i e he; exact snd_ixa ho (slT_eq he) h4 h1 h2 h
    · cases h4
  · rename_i s x f off x' ho
    simp only [Bool.and_eq_true] at hchk
    obtain ⟨h1, h4⟩ := hchk
    split at h4
    · rename_i fs hfs
      split at h4
      · rename_i fd hfd
        simp only [Bool.and_eq_true, beq_iff_eq, decide_eq_true_eq] at h4
        have hsz : ∃ n, sizeB P fd.type (n + 1) = true := by
          have := h4.2
          unfold Program.cellsOf at this
          cases hi : P.info? fd.type with
          | none => rw [hi] at this; simp at this
          | some i => rw [hi] at this; simp at this; exact ⟨i.size - 1, by simp [sizeB, hi]; omega⟩
        obtain ⟨n, hn⟩ := hsz
        exact snd_fla (sz := n) ho (by unfold fieldB; rw [hfs]; simp only [hfd, h4.1, hn]; simp) h1 h
      · cases h4
    · cases h4
  · rename_i s x f off sz ag x' ho
    simp only [Bool.and_eq_true] at hchk
    obtain ⟨h1, h4⟩ := hchk
    split at h4
    · rename_i fs hfs
      split at h4
      · rename_i fd hfd
        simp only [Bool.and_eq_true, beq_iff_eq, Bool.or_eq_true] at h4
        obtain ⟨⟨⟨k1, k2⟩, k3⟩, k4⟩ := h4
        exact snd_fld ho fs fd hfs hfd k1 k2 k3 (fun e => by rcases k4 with k4 | k4; rw [e] at k4; cases k4; exact k4) h1 h
      · cases h4
    · cases h4
  · rename_i t x sz ag x' ho
    simp only [Bool.and_eq_true, Bool.or_eq_true, beq_iff_eq] at hchk
    obtain ⟨⟨⟨k1, k2⟩, k3⟩, k4⟩ := hchk
    exact snd_ld ho k2 k3 (fun e => by rcases k4 with k4 | k4; rw [e] at k4; cases k4; exact k4) k1 h
  · rename_i x i i' x' ho
    simp only [Bool.and_eq_true, beq_iff_eq] at hchk
    obtain ⟨h1, rfl⟩ := hchk
    exact snd_ext ho h1 h
  · rename_i t parts zero parts' ho
    simp only [Bool.and_eq_true] at hchk
    obtain ⟨h1, h2⟩ := hchk
    split at h2
    · rename_i fs hfs
      simp only [Bool.and_eq_true] at h2
      exact snd_bld ho hfs h1 (by simp only [placesB, Bool.and_eq_true, beq_iff_eq]; exact ⟨by simp, h2.2⟩) h2.1 h
    · cases h2
  · rename_i s d x k x' ho
    simp only [Bool.and_eq_true, beq_iff_eq] at hchk
    exact snd_cvi ho hchk.1.2 (intT_eq hchk.2) hchk.1.1 h
  · rename_i s d x x' ho
    simp only [Bool.and_eq_true] at hchk
    obtain ⟨k, hk⟩ := Option.isSome_iff_exists.1 hchk.1.2
    exact snd_cvs ho (intT_eq hk) (strT_eq hchk.2) hchk.1.1 h
  · rename_i s d x x' ho
    simp only [Bool.and_eq_true] at hchk
    obtain ⟨⟨h1, h2⟩, h3⟩ := hchk
    split at h3
    · rename_i e he
      simp only [beq_iff_eq] at h3
      exact snd_b2s ho (slT_eq he) (intT_eq h3) (strT_eq h2) h1 h
    · cases h3
  · simp [Ze] at h
  · rename_i t n parts z parts' ho
    simp only [Bool.and_eq_true, beq_iff_eq, decide_eq_true_eq] at hchk
    obtain ⟨⟨⟨h1, h2⟩, h3⟩, h4⟩ := hchk
    split at h1
    · rename_i e he
      simp only [Bool.and_eq_true] at h1
      exact snd_bsl ho (slT_eq he) h1.1 h1.2 h2 h3 h4 h
    · cases h1
  · simp [Ze] at h
  · rename_i x x' ho; exact snd_nck ho hchk h
  · rename_i f first caps f' caps' ho
    simp only [Bool.and_eq_true, beq_iff_eq, List.isEmpty_iff] at hchk
    obtain ⟨⟨rfl, h1⟩, h2⟩ := hchk
    rw [arr_of_list h1] at ho
    exact snd_mkf ho h2 h
  · simp [Ze] at h
  · simp [Ze] at h
  · simp [Ze] at h
  · simp [Ze] at h
  · simp [Ze] at h
  · simp [Ze] at h
  · simp [Ze] at h
  · simp [Ze] at h
  · rename_i args ts x' ho
    split at hchk
    · rename_i x t e1 e2
      simp only [Bool.and_eq_true] at hchk
      obtain ⟨e, he⟩ := Option.isSome_iff_exists.1 hchk.2
      rw [arr_of_list e1, arr_of_list e2] at ho
      exact snd_cap0 ho (slT_eq he) hchk.1 h
    · cases hchk
  · rename_i t x hi x' hi' ho
    simp only [Bool.and_eq_true] at hchk
    obtain ⟨⟨h1, h2⟩, h3⟩ := hchk
    split at h3
    · rename_i e he; exact snd_vsn ho (slT_eq he) h3 h1 h2 h
    · cases h3
  · simp [Ze] at h
  · simp [Ze] at h
  · simp [Ze] at h
  · simp [Ze] at h
  · simp [Ze] at h
  · rename_i t m k ok ok' zero m' k' ho
    simp only [Bool.and_eq_true, beq_iff_eq] at hchk
    obtain ⟨⟨⟨rfl, h1⟩, h2⟩, h3⟩ := hchk
    split at h3
    · rename_i kt et ht
      simp only [Bool.and_eq_true] at h3
      exact snd_mpl ho ht (strT_eq h3.1) h3.2 h1 h2 h
    · cases h3
  · rename_i args ts x' ho
    split at hchk
    · rename_i x t e1 e2
      simp only [Bool.and_eq_true] at hchk
      obtain ⟨h1, h2⟩ := hchk
      split at h2
      · rename_i kt et ht
        rw [arr_of_list e1, arr_of_list e2] at ho
        exact snd_mpn ho ht h1 h
      · cases h2
    · cases hchk
  · cases hchk

theorem step_eff {i : IOp} {d : Option Nat} (hchk : chkOp P o.op i = true) (hd : o.dst = d) {c : Prop} {fr' : List AV} {L' : Objs} (h : (Ze fr L i).map (fun q => (q.1, Zf fr d q.2, L)) = some (c, fr', L')) : Eff1 P o fr L c fr' L' := by
  obtain ⟨⟨c1, r⟩, e1, e2⟩ := Option.map_eq_some_iff.1 h
  simp only [Prod.mk.injEq] at e2
  obtain ⟨rfl, rfl, rfl⟩ := e2
  have hv := step_sound hchk e1
  cases d with
  | none => exact hv.eff0 hd
  | some d => exact hv.eff hd

theorem estep_sound {i : IOp} {d : Option Nat} (hchk : chkOp P o.op i = true) (hd : o.dst = d) (hst : isSt i = true → d = none) {c : Prop} {fr' : List AV} {L' : Objs} (h : Zd d fr L i = some (c, fr', L')) : Eff1 P o fr L c fr' L' := by
  have hchk0 := hchk
  unfold chkOp at hchk
  split at hchk
  · exact step_eff hchk0 hd h
  · exact step_eff hchk0 hd h
  · rename_i x e z ho
    simp only [Zd] at h
    split at h
    · simp only [Option.some.injEq, Prod.mk.injEq] at h; obtain ⟨rfl, rfl, rfl⟩ := h
      exact eff_nilr (.inl ho) hchk hd
    · cases h
  · rename_i x e z ho
    simp only [Zd] at h
    split at h
    · simp only [Option.some.injEq, Prod.mk.injEq] at h; obtain ⟨rfl, rfl, rfl⟩ := h
      exact eff_nilr (.inr ho) hchk hd
    · cases h
  · exact step_eff hchk0 hd h
  · exact step_eff hchk0 hd h
  · exact step_eff hchk0 hd h
  · exact step_eff hchk0 hd h
  · exact step_eff hchk0 hd h
  · exact step_eff hchk0 hd h
  · exact step_eff hchk0 hd h
  · exact step_eff hchk0 hd h
  · exact step_eff hchk0 hd h
  · exact step_eff hchk0 hd h
  · exact step_eff hchk0 hd h
  · exact step_eff hchk0 hd h
  · exact step_eff hchk0 hd h
  · exact step_eff hchk0 hd h
  · exact step_eff hchk0 hd h
  · exact step_eff hchk0 hd h
  · exact step_eff hchk0 hd h
  · exact step_eff hchk0 hd h
  · exact step_eff hchk0 hd h
  · exact step_eff hchk0 hd h
  · exact step_eff hchk0 hd h
  · exact step_eff hchk0 hd h
  · rename_i s dT x e x' ho
    simp only [Bool.and_eq_true, beq_iff_eq] at hchk
    obtain ⟨⟨⟨h1, h2⟩, h3⟩, h4⟩ := hchk
    obtain ⟨u0, hu0⟩ := Option.isSome_iff_exists.1 h2
    simp only [Zd] at h
    split at h
    · rename_i d' c' l ex
      simp only [Option.some.injEq, Prod.mk.injEq] at h; obtain ⟨rfl, rfl, rfl⟩ := h
      exact eff_s2b ho hd hu0 (slT_eq h3) (intT_eq h4) h1 ex
    · cases h
  · exact step_eff hchk0 hd h
  · rename_i t n parts e z parts' ho
    simp only [Bool.and_eq_true, beq_iff_eq, decide_eq_true_eq] at hchk
    obtain ⟨⟨⟨⟨⟨⟨h1, h2⟩, h3⟩, h4⟩, h5⟩, h6⟩, h7⟩ := hchk
    simp only [Zd] at h
    split at h
    · rename_i d' c' es eb
      simp only [Option.some.injEq, Prod.mk.injEq] at h; obtain ⟨rfl, rfl, rfl⟩ := h
      exact eff_bsr ho hd (slT_eq h1) h2 h3 h4 h5 h6 h7 eb
    · cases h
  · exact step_eff hchk0 hd h
  · exact step_eff hchk0 hd h
  · rename_i t t' zero ho
    simp only [Bool.and_eq_true, beq_iff_eq] at hchk
    obtain ⟨rfl, h1⟩ := hchk
    simp only [Zd] at h
    split at h
    · simp only [Option.some.injEq, Prod.mk.injEq] at h; obtain ⟨rfl, rfl, rfl⟩ := h
      exact eff_alc ho h1 hd
    · cases h
  · rename_i t x t' x' ho
    simp only [Bool.and_eq_true, beq_iff_eq] at hchk
    obtain ⟨rfl, h1⟩ := hchk
    simp only [Zd] at h
    split at h
    · rename_i d' c' v ex
      split at h
      · rename_i hfl
        simp only [Option.some.injEq, Prod.mk.injEq] at h; obtain ⟨rfl, rfl, rfl⟩ := h
        exact eff_boxp ho h1 hd ex hfl
      · cases h
    · rename_i d' c' k ex
      simp only [Option.some.injEq, Prod.mk.injEq] at h; obtain ⟨rfl, rfl, rfl⟩ := h
      exact eff_boxr ho h1 hd ex
    · cases h
  · rename_i t p x sz p' x' ho
    simp only [Bool.and_eq_true] at hchk
    obtain ⟨⟨h1, h2⟩, h3⟩ := hchk
    have hdn := hst rfl
    rw [hdn] at hd
    simp only [Zd] at h
    split at h
    · rename_i cp k of cx v ep ex
      split at h
      · rename_i cs bt hl
        split at h
        · rename_i hc
          simp only [Option.some.injEq, Prod.mk.injEq] at h; obtain ⟨rfl, rfl, rfl⟩ := h
          intro E B w ι a hs ⟨k1, k2⟩
          have hp := rdP hs.2.1 h1 ep k1
          have hv : PRep w _ v (a.eval x) := rdP hs.2.1 h2 ex k2
          have hcl := hv.cells (flatL_notTup hc.2.2)
          exact eff_stb ho hd h3 hl hc.1 hs hp ((Zy v).map .p) (by rw [hcl.length, hc.2.1]) (by simpa using hc.2.1) (hcl.oneCells hc.2.2) (fun j y hy => by
            rw [List.getElem?_map, Option.map_eq_some_iff] at hy
            obtain ⟨q, hq, rfl⟩ := hy
            exact hcl.get hq)
        · cases h
      · cases h
    · rename_i cp k of cx k' ep ex
      split at h
      · rename_i cs bt hl
        split at h
        · rename_i hc
          obtain ⟨hc1, rfl⟩ := hc
          simp only [Option.some.injEq, Prod.mk.injEq] at h; obtain ⟨rfl, rfl, rfl⟩ := h
          intro E B w ι a hs ⟨k1, k2⟩
          have hp := rdP hs.2.1 h1 ep k1
          have hv := rdP hs.2.1 h2 ex k2
          obtain ⟨A, n, cc, ev⟩ := hv.2
          have hcell : (a.eval x).cells.toList = [a.eval x] := by rw [ev]; rfl
          exact eff_stb ho hd h3 hl hc1 hs hp [.row k'] (by rw [hcell]; rfl) rfl (by rw [hcell]; simp [ev, Value.oneCell']) (fun j y hy => by
            cases j with
            | zero => simp at hy; subst hy; exact ⟨_, by rw [hcell]; rfl, hv⟩
            | succ j => simp at hy)
        · cases h
      · cases h
    · rename_i cp k z i of cx v ep ex
      split at h
      · rename_i es e z' ap hl
        split at h
        · rename_i hc
          obtain ⟨rfl, hc1, hc2, hc3⟩ := hc
          simp only [Option.some.injEq, Prod.mk.injEq] at h; obtain ⟨rfl, rfl, rfl⟩ := h
          intro E B w ι a hs ⟨k1, k2, k3⟩
          have hp := rdP hs.2.1 h1 ep k1
          have hv : PRep w _ v (a.eval x) := rdP hs.2.1 h2 ex k2
          have hcl := hv.cells (flatL_notTup hc3)
          exact eff_str ho hd h3 hl hc1 k3 hs hp ((Zy v).map wk1) (by simpa using hc2) (hcl.oneCells hc3) hcl.wk1
        · cases h
      · cases h
    · cases h
  · rename_i args ts e z by_ x' y' ho
    split at hchk
    · rename_i x y t t' e1 e2
      simp only [Bool.and_eq_true, beq_iff_eq] at hchk
      obtain ⟨⟨⟨⟨rfl, h1⟩, h2⟩, h3⟩, h4⟩ := hchk
      rw [arr_of_list e1, arr_of_list e2] at ho
      simp only [Zd] at h
      split at h
      · rename_i d' cx i z2 es2 ex ey
        split at h
        · rename_i es e' z' hl
          split at h
          · rename_i hc
            obtain ⟨rfl, rfl, rfl⟩ := hc
            simp only [Option.some.injEq, Prod.mk.injEq] at h; obtain ⟨rfl, rfl, rfl⟩ := h
            exact eff_app ho hd (slT_eq h3) h4 h1 h2 ex rfl hl ey
          · cases h
        · cases h
      · rename_i d' cx z0 z2 es2 ex ey
        split at h
        · rename_i hc
          subst hc
          simp only [Option.some.injEq, Prod.mk.injEq] at h; obtain ⟨rfl, rfl, rfl⟩ := h
          exact eff_appn ho hd (slT_eq h3) h4 h1 h2 ex rfl ey
        · cases h
      · cases h
    · cases hchk
  · rename_i t x y e z by_ zero x' y' ho
    simp only [Bool.and_eq_true, beq_iff_eq] at hchk
    obtain ⟨⟨⟨⟨h1, h2⟩, h3⟩, h4⟩, h5⟩ := hchk
    simp only [Zd] at h
    split at h
    · rename_i d' cx kx n cy ky c' ex ey
      simp only [Option.some.injEq, Prod.mk.injEq] at h; obtain ⟨rfl, rfl, rfl⟩ := h
      exact eff_mks ho hd (slT_eq h3) h4 h5 h1 h2 ex ey
    · cases h
  · exact step_eff hchk0 hd h
  · exact step_eff hchk0 hd h
  · exact step_eff hchk0 hd h
  · exact step_eff hchk0 hd h
  · exact step_eff hchk0 hd h
  · rename_i t x hi z x' hi' ho
    simp only [Bool.and_eq_true] at hchk
    obtain ⟨⟨h1, h2⟩, h3⟩ := hchk
    split at h3
    · rename_i e he
      simp only [Zd] at h
      split at h
      · rename_i d' cx i ch k n ex eh
        split at h
        · rename_i es et z' ap hl
          split at h
          · rename_i hc
            obtain ⟨rfl, rfl⟩ := hc
            simp only [Option.some.injEq, Prod.mk.injEq] at h; obtain ⟨rfl, rfl, rfl⟩ := h
            exact eff_trn ho hd (slT_eq he) h3 h1 h2 ex eh hl
          · cases h
        · cases h
      · cases h
    · cases h3
  · rename_i args ts e z by_ zero x' y' ho
    split at hchk
    · rename_i x y t t' e1 e2
      simp only [Bool.and_eq_true, beq_iff_eq] at hchk
      obtain ⟨⟨⟨⟨⟨h1, h2⟩, h3⟩, h4⟩, h5⟩, h6⟩ := hchk
      obtain ⟨kn, hkn⟩ := Option.isSome_iff_exists.1 h4
      rw [arr_of_list e1, arr_of_list e2] at ho
      simp only [Zd] at h
      split at h
      · rename_i d' cx z0 cy ky n ex ey
        simp only [Option.some.injEq, Prod.mk.injEq] at h; obtain ⟨rfl, rfl, rfl⟩ := h
        exact eff_apz ho hd (slT_eq h3) (intT_eq hkn) h5 h6 h1 h2 ex ey
      · cases h
    · cases hchk
  · rename_i t kt et ho
    simp only [Zd] at h
    split at h
    · simp only [Option.some.injEq, Prod.mk.injEq] at h; obtain ⟨rfl, rfl, rfl⟩ := h
      exact eff_mkm ho hd
    · cases h
  · rename_i t m k x m' k' x' ho
    simp only [Bool.and_eq_true] at hchk
    obtain ⟨⟨⟨h1, h2⟩, h3⟩, h4⟩ := hchk
    split at h4
    · rename_i kt et ht
      simp only [Zd] at h
      split at h
      · rename_i cm q ck s cv y em ex ev
        split at h
        · rename_i kv kt0 et0 hl
          simp only [Option.some.injEq, Prod.mk.injEq] at h; obtain ⟨rfl, rfl, rfl⟩ := h
          exact eff_mpu (.inl ho) hd ht (strT_eq h4) h1 h2 h3 em ex ev hl
        · cases h
      · cases h
    · cases h4
  · rename_i t m k x m' k' x' ho
    simp only [Bool.and_eq_true] at hchk
    obtain ⟨⟨⟨h1, h2⟩, h3⟩, h4⟩ := hchk
    split at h4
    · rename_i kt et ht
      simp only [Zd] at h
      split at h
      · rename_i cm q ck s cv y em ex ev
        split at h
        · rename_i kv kt0 et0 hl
          simp only [Option.some.injEq, Prod.mk.injEq] at h; obtain ⟨rfl, rfl, rfl⟩ := h
          exact eff_mpu (.inr ho) hd ht (strT_eq h4) h1 h2 h3 em ex ev hl
        · cases h
      · cases h
    · cases h4
  · exact step_eff hchk0 hd h
  · exact step_eff hchk0 hd h
  · cases hchk
end
end Go.Proofs.YtpddiepfolfnoaaDoor

/- Plain regions, calls, and whole bodies: what awp says of a body holds of its run. -/
namespace Go.Proofs.YtpddiepfolfnoaaDoor
set_option linter.unusedVariables false
set_option linter.unusedSimpArgs false
set_option linter.defProp false

section
variable {P : Program} {E : Envt} {B : Base} {w w' : World} {L L' : Objs} {ι ι' : Key → Value} {fr : List AV} {a : Act} {o : Oper} {X : Nat → Prop}

theorem St.x_own (h : St E B w L ι) {b : Nat} (hb : B.X b) : b < w.heap.size ∧ ¬ Own L ι b := by
  refine ⟨h.x_lt hb, fun ho => ?_⟩
  rcases h.own b ho with h' | h'
  · exact h.xdis b hb h'
  · have := h.xlt b hb; omega
theorem St.e_own (h : St E B w L ι) {b : Nat} (hb : E.bl b) : b < w.heap.size ∧ ¬ Own L ι b := by
  refine ⟨Nat.lt_of_lt_of_le (h.envb b hb).1 h.grow.size, fun ho => ?_⟩
  rcases h.own b ho with h' | h'
  · exact (h.envb b hb).2 h'
  · have := (h.envb b hb).1; omega

theorem ARep.clean {U : Nat → Prop} (hk : ∀ k, (Zah L k).isSome = true → (Zah L' k).isSome = true → ι' k = ι k) : ∀ {x : AV} {u : Value}, ARep w U ι x u → ARep w U ι' (x.clean L L') u
  | .p x, u, h => h
  | .row k, u, h => by
    simp only [AV.clean]; split
    · rename_i e; simpa [ARep, hk k e.1 e.2] using h
    · trivial
  | .adr k o, u, h => by
    simp only [AV.clean]; split
    · rename_i e; simpa [ARep, hk k e.1 e.2] using h
    · trivial
  | .rad k z i o, u, h => by
    simp only [AV.clean]; split
    · rename_i e; simpa [ARep, hk k e.1 e.2] using h
    · trivial
  | .ipt z es i o, u, h => h
  | .mp k, u, h => by
    simp only [AV.clean]; split
    · rename_i e; simpa [ARep, hk k e.1 e.2] using h
    · trivial
  | .fn f ks, u, h => by
    simp only [AV.clean]; split
    · rename_i e
      simp only [ARep] at h ⊢
      rw [h]
      congr 2
      exact List.map_congr_left fun j hj => (hk j (e j hj).1 (e j hj).2).symm
    · trivial
  | .g c a, u, h => ⟨fun hc => ARep.clean hk (x := a) (h.1 hc), h.2⟩
  | .any, u, h => trivial

/-- Behind a call. -/
theorem StF.back (hs : StF E B w L ι fr a) (hb : Back E w B.X L ι w' L' ι') : StF E B w' L' ι' (fr.map (·.clean L L')) a := by
  obtain ⟨h, hf, hd⟩ := hs
  have hk : Keeps w w' (fun b => Own L ι b ∨ B.X b) (fun b => Own L' ι' b ∨ B.X b) := by
    intro b hlt hu
    refine ⟨hb.grow.block b hlt (fun h => hu (.inl h)), ?_⟩
    rintro (h' | h')
    · rcases hb.own b h' with h'' | h''
      · exact hu (.inl h'')
      · omega
    · exact hu (.inr h')
  refine ⟨⟨h.grow.trans hb.grow h.own, hb.sim, fun b hb' => ?_, h.xlt, fun k h0 h1 => ?_, E.mono w w' (fun b hb' => hb.grow.block b (h.e_own hb').1 (h.e_own hb').2) h.env, h.envb, h.loc, h.xdis⟩, ⟨by simpa using hf.1, fun i x hx => ?_⟩, hd⟩
  · rcases hb.own b hb' with h' | h'
    · exact h.own b h'
    · exact .inr (Nat.le_trans h.grow.size h')
  · rcases hb.news k h1 with h2 | ⟨i, rfl⟩
    · rw [hb.keep k h2 h1]; exact h.keep k h0 h2
    · rw [h.loc i] at h0; cases h0
  · rw [List.getElem?_map, Option.map_eq_some_iff] at hx
    obtain ⟨y, hy, rfl⟩ := hx
    obtain ⟨u, hu, hr⟩ := hf.2 i y hy
    exact ⟨u, hu, (hr.mono hk).clean hb.keep⟩

theorem argsRep {U : Nat → Prop} (hf : FRep w U ι fr a) : ∀ {xs : List Operand} {ys : List Opd}, okOpds xs ys = true → Zl fr ys → ARepL w U ι (Zm fr ys) (xs.map a.eval) := by
  intro xs
  induction xs with
  | nil => intro ys h _; cases ys with
    | nil => simp [Zm, ARepL]
    | cons y ys => simp [okOpds] at h
  | cons x xs ih => intro ys h hc; cases ys with
    | nil => simp [okOpds] at h
    | cons y ys =>
      simp only [okOpds, Bool.and_eq_true] at h
      simp only [Zl] at hc
      simp only [Zm, List.map_cons, ARepL]
      exact ⟨_, _, rfl, (rdOk hf h.1).un hc.1, ih h.2 hc.2⟩

theorem ARepL.append {U : Nat → Prop} {as bs : List AV} {vs us : List Value} (h : ARepL w U ι as vs) (k : ARepL w U ι bs us) : ARepL w U ι (as ++ bs) (vs ++ us) := by
  induction as generalizing vs with
  | nil => simp only [ARepL] at h; subst h; simpa using k
  | cons a as ih => simp only [ARepL] at h; obtain ⟨v, r, rfl, h1, h2⟩ := h; simp only [List.cons_append, ARepL]; exact ⟨v, _, rfl, h1, ih h2⟩

theorem FRep.setD {U : Nat → Prop} (hf : FRep w U ι fr a) (d : Option Nat) {r : AV} {v : Value} (hr : ARep w U ι r v) : FRep w U ι (Zf fr d r) (a.put d v) := by
  cases d with
  | none => exact hf
  | some d => exact hf.put d hr

/-- A call of a function of the program, entered. -/
theorem run_enter {f : FuncId} (hf : fnB P f = true) (args : Array Value) (w : World) : (callFunc f args).run P w = .ok (.enter f args) w := by
  unfold fnB at hf
  split at hf
  · rename_i fn hfn
    simp only [Bool.and_eq_true, bne_iff_ne, ne_eq] at hf
    have hb : fn.body.isNone = false := by cases hq : fn.body <;> simp_all
    simp only [callFunc, Sem.run_bind, run_program, Result.andThen_ok, hfn]
    rw [show (fn.name == "runtime.NumGoroutine") = false from by simpa using hf.2]
    simp [hb]
  · cases hf

/-- What a call does to the rest. -/
theorem call_ok {f : FuncId} {as : List AV} {vs : List Value} {d : Option Nat} {K : List AV → Objs → Prop} {R : Ending → World → Prop} (hs : StF E B w L ι fr a) (hA : ARepL w (fun b => Own L ι b ∨ B.X b) ι as vs) (h : CallOp P E f as L d fr K)
    (hR : ∀ v w' fr' L' ι', K fr' L' → StF E B w' L' ι' fr' (a.put d v) → R (.returned v) w') : Calls P f vs.toArray w R := by
  rcases h with ⟨φ, hp, hk⟩ | ⟨bk, post, hgc, hh, hsep, hk⟩ | hg
  · refine (hp w B.X ι vs hs.1.sim (fun b hb => hs.1.x_own hb) hs.1.env (fun b hb => hs.1.e_own hb) hA).mono ?_
    rintro e w' ⟨v, x, rfl, hx, hr, hG⟩
    have h1 := hs.grown hG
    exact hR v w' _ _ ι (hk x hx) ⟨h1.1, h1.2.1.setD d (r := .p x) hr, by rw [Act.put_defers']; exact h1.2.2⟩
  · refine (hgc w B.X ι vs hs.1.sim (fun b hb => hs.1.x_own hb) hs.1.env (fun b hb => hs.1.e_own hb) hA).mono ?_
    rintro e w' ⟨v, r, os', rfl, hp, hr, hb⟩
    have hk := hk r os' hp
    -- the state behind the call, the result not yet laid down
    have h1 : StF E B w' (putB L bk os') ι fr a ∧ (∀ b, Own (putB L bk os') ι b ↔ Own L ι b) := by
      cases bk with
      | none => exact ⟨hs.grown hb, fun b => Iff.rfl⟩
      | some q =>
        obtain ⟨k, os⟩ := q
        obtain ⟨hG, hat⟩ := hb
        have hO : ∀ b, Own (Zai L k os'.ao) ι b ↔ Own L ι b := by
          intro b
          constructor
          · rintro ⟨j, q, e1, e2⟩
            rw [look_putO] at e1
            by_cases e : j = k
            · exact ⟨k, _, hh, by rw [← e]; exact e2⟩
            · rw [if_neg e] at e1; exact ⟨j, q, e1, e2⟩
          · rintro ⟨j, q, e1, e2⟩
            by_cases e : j = k
            · exact ⟨k, _, by rw [look_putO, if_pos rfl], by rw [← e]; exact e2⟩
            · exact ⟨j, q, by rw [look_putO, if_neg e]; exact e1, e2⟩
        exact ⟨hs.wr k _ os'.ao hh hG (hat.mono (fun b hlt hu => ⟨rfl, fun h => hu (.inl (h.imp (hO b).1 id))⟩) (fun _ _ => rfl)).ok, hO⟩
    obtain ⟨h1, hO⟩ := h1
    have hkU : Keeps w' w' (fun b => Own L ι b ∨ B.X b) (fun b => Own (putB L bk os') ι b ∨ B.X b) := fun b _ hu => ⟨rfl, fun h => hu (h.imp (hO b).1 id)⟩
    cases r with
    | p x => exact hR v w' _ _ ι hk ⟨h1.1, h1.2.1.setD d (r := .p x) (PRep.mono hkU _ _ hr), by rw [Act.put_defers']; exact h1.2.2⟩
    | fr es e z =>
      cases d with
      | none => exact hR v w' _ _ ι hk h1
      | some d =>
        obtain ⟨vs', r1, r2, r3, r4, r5⟩ := hr
        have hsl : ∃ A n c, v = .slice A n c := by
          rcases r1.2 with ⟨q1, _⟩ | ⟨g, cap, cur, fz, q1, _⟩
          · exact ⟨none, 0, 0, q1⟩
          · exact ⟨_, _, _, q1⟩
        have fin : StF E B w' (Zak (putB L bk os') (.l d) (.row es e z true)) (updI ι (.l d) v) (fr.map (·.kill (.l d))) a := by
          cases bk with
          | none =>
            have hG : Grow w w' (Old L ι (.l d)) := grow_any hb
            have hbv : ∀ b, blk v = some b → w.heap.size ≤ b ∨ Old L ι (.l d) b := fun b hb' => .inl (r5 b hb')
            refine hs.upd d v (.row es e z true) hG hbv ⟨vs', by simpa [updI] using r1, r2, ?_, r4⟩
            refine PRepL.mono (fun b hlt hu => ⟨rfl, ?_⟩) _ _ r3
            rintro (h' | h')
            · rcases own_updL h' with h'' | ⟨j, q, _, h2, h3⟩
              · exact hu (.inr h'')
              · exact hu (.inl (.inl ⟨j, q, h2, h3⟩))
            · exact hu (.inl (.inr h'))
          | some q =>
            obtain ⟨k, os⟩ := q
            obtain ⟨hG, hat⟩ := hb
            have hU : ∀ b, Own (Zak (Zai L k os'.ao) (.l d) (.row es e z true)) (updI ι (.l d) v) b → blk v = some b ∨ Own L ι b := by
              intro b hb'
              rcases own_updL hb' with h'' | ⟨j, q, _, h2, h3⟩
              · exact .inl h''
              · exact .inr ((hO b).1 ⟨j, q, h2, h3⟩)
            have hki : k ≠ .l d := hsep
            have hik : updI ι (.l d) v k = ι k := by simp [updI, hki]
            have hkill : os'.ao.kill (.l d) = os'.ao := by cases os' <;> simp [OS.ao, AO.kill, AV.kill, Function.comp_def]
            refine hs.wrupd d k hki _ os'.ao (.row es e z true) hh v hG r5 ?_ ⟨vs', by simpa [updI] using r1, r2, ?_, r4⟩
            · rw [hkill]
              refine ObjAt.ok ?_
              rw [hik]
              refine hat.mono (fun b hlt hu => ⟨rfl, ?_⟩) (fun _ _ => rfl)
              rintro (h' | h')
              · rcases hU b h' with h'' | h''
                · exact hu (.inr h'')
                · exact hu (.inl (.inl h''))
              · exact hu (.inl (.inr h'))
            · refine PRepL.mono (fun b hlt hu => ⟨rfl, ?_⟩) _ _ r3
              rintro (h' | h')
              · rcases hU b h' with h'' | h''
                · exact hu (.inr h'')
                · exact hu (.inl (.inl h''))
              · exact hu (.inl (.inr h'))
        exact hR v w' _ _ _ hk ⟨fin.1, fin.2.1.put d ⟨by simp [updI], hsl⟩, by rw [Act.put_defers']; exact fin.2.2⟩
  · refine (hg w B.X ι vs hs.1.sim (fun b hb => hs.1.x_own hb) hs.1.env (fun b hb => hs.1.e_own hb) hA).mono ?_
    rintro e w' ⟨v, r, L', ι', rfl, hk, hr, hB⟩
    have h1 := hs.back hB
    exact hR v w' _ _ ι' hk ⟨h1.1, h1.2.1.setD d hr, by rw [Act.put_defers']; exact h1.2.2⟩

def yieldV : Option Value → Option Bool
  | some (.bool b) => some b
  | _ => none
theorem gvalA_ok {U : Nat → Prop} {want : Bool} : ∀ {x : AV} {v : Value} {c0 : Bool}, ARep w U ι x v → Zh want x = some c0 → (yieldV (some v) == some want) = c0 := by
  intro x
  induction x with
  | p y =>
    intro v c0 hr h
    cases y <;> simp only [Zh, reduceCtorEq, Option.some.injEq] at h
    rename_i b
    have := PRep.bool_eq hr
    subst this
    subst h
    cases b <;> cases want <;> rfl
  | g c a ih =>
    intro v c0 hr h
    simp only [Zh, Option.map_eq_some_iff] at h
    obtain ⟨q, h1, h2⟩ := h
    cases c with
    | true => rw [ih (hr.1 rfl) h1, ← h2]; simp
    | false =>
      have := hr.2 rfl
      subst this
      simp at h2
      subst h2
      simp [yieldV]
  | _ => intro v c0 hr h; simp [Zh] at h
theorem gval_ok {U : Nat → Prop} (hf : FRep w U ι fr a) {ops : Array Oper} {j s : Nat} {want c0 : Bool} (hj : (ops[j]?).bind (·.dst) = some s) (h : Zg fr s want = some c0) : (yielded ops a.tmps j == some want) = c0 := by
  have hy : yielded ops a.tmps j = yieldV (a.tmps[s]?) := by
    unfold yielded yieldV
    rw [hj]
    simp only [Option.bind_some]
    cases a.tmps[s]? with
    | none => rfl
    | some v => cases v <;> rfl
  rw [hy]
  unfold Zg at h
  cases hq : fr[s]? with
  | none => rw [List.getD, hq] at h; simp [Zh] at h
  | some y =>
    rw [List.getD, hq] at h
    obtain ⟨v, hv, hr⟩ := hf.2 s y hq
    rw [hv]
    exact gvalA_ok hr h

theorem fz_ok (hs : StF E B w L ι fr a) {x : Opd} {k : Key} {z : Nat} {es : List (List PV)} (h : Zaf fr L x = some (k, z, es)) : StF E B w (Zal k z es L) ι (fr.map (·.thaw k z es)) a := by
  unfold Zaf at h
  split at h
  · split at h
    · rename_i hl
      simp only [Option.some.injEq, Prod.mk.injEq] at h
      obtain ⟨rfl, rfl, rfl⟩ := h
      exact hs.thaw hl
    · cases h
  · cases h

theorem adr_keys {U : Nat → Prop} {f : FuncId} {ks : List Key} (hk : ∀ k ∈ ks, ∃ b, ι k = .pointer (some ⟨b, 0, none⟩)) : ARepL w U ι (ks.map fun k => .adr k 0) (ks.map ι) := by
  induction ks with
  | nil => simp [ARepL]
  | cons k ks ih =>
    simp only [List.map_cons, ARepL]
    obtain ⟨b, hb⟩ := hk k (by simp)
    exact ⟨_, _, rfl, ⟨b, hb, hb⟩, ih (fun j hj => hk j (by simp [hj]))⟩

theorem chk_call {op : Op} {f : FuncId} {args : List Opd} (h : chkOp P op (.call f args) = true) : ∃ args0 ts, op = .call { callee := .value (.func f), args := args0, argTypes := ts } ∧ fnB P f = true ∧ okOpds args0.toList args = true := by
  cases op with
  | call c =>
    obtain ⟨callee, as, ts⟩ := c
    cases callee with
    | value x => cases x with
      | func g =>
        simp only [chkOp, Bool.and_eq_true, beq_iff_eq] at h
        obtain ⟨⟨rfl, h1⟩, h2⟩ := h
        exact ⟨as, ts, rfl, h1, h2⟩
      | _ => simp [chkOp] at h
    | invoke r m => simp [chkOp] at h
    | builtin b => cases b <;> simp [chkOp] at h
  | _ => simp [chkOp] at h
theorem chk_pcall {op : Op} {n : Nat} {f : FuncId} {args : List Opd} (h : chkOp P op (.pcall n f args) = true) : chkOp P op (.call f args) = true := by
  cases op with
  | call c =>
    obtain ⟨callee, as, ts⟩ := c
    cases callee with
    | value x => cases x with
      | func g => simpa only [chkOp] using h
      | _ => simp [chkOp] at h
    | invoke r m => simp [chkOp] at h
    | builtin b => cases b <;> simp [chkOp] at h
  | _ => simp [chkOp] at h
theorem chk_callv {op : Op} {g : Opd} {args : List Opd} (h : chkOp P op (.callv g args) = true) : ∃ t args0 ts, op = .call { callee := .value (.tmp t), args := args0, argTypes := ts } ∧ g = .t t ∧ okOpds args0.toList args = true := by
  cases op with
  | call c =>
    obtain ⟨callee, as, ts⟩ := c
    cases callee with
    | value x => cases x with
      | tmp t =>
        cases g with
        | t t' =>
          simp only [chkOp, Bool.and_eq_true, beq_iff_eq] at h
          obtain ⟨rfl, h2⟩ := h
          exact ⟨_, as, ts, rfl, rfl, h2⟩
        | _ => simp [chkOp] at h
      | _ => simp [chkOp] at h
    | invoke r m => simp [chkOp] at h
    | builtin b => cases b <;> simp [chkOp] at h
  | _ => simp [chkOp] at h
theorem chk_fz {op : Op} {x : Opd} (h : chkOp P op (.fz x) = true) : False := by
  cases op with
  | call c =>
    obtain ⟨callee, as, ts⟩ := c
    cases callee with
    | value x => cases x <;> simp [chkOp] at h
    | invoke r m => simp [chkOp] at h
    | builtin b => cases b <;> simp [chkOp] at h
  | _ => simp [chkOp] at h

theorem eff_wp {c : Prop} {fr' : List AV} {L' : Objs} (h : Eff1 P o fr L c fr' L') (hc : c) (hs : StF E B w L ι fr a) {next : Act → World → Prop} {Q : Exit → Act → World → Prop} (hn : ∀ ι' a' w', StF E B w' L' ι' fr' a' → next a' w') : o.wp P a w next Q := by
  obtain ⟨v, nx, w', ι', hr, hx, hs'⟩ := h E B w ι a hs hc
  unfold Oper.wp
  rw [hr]
  rcases hx with rfl | ⟨rfl, rfl⟩
  · exact hn ι' _ w' hs'
  · exact hn ι' _ w' hs'

theorem boxK_ok (h : Sim w X L ι) {ks : List Key} (hk : Zk L (ks.map fun k => .adr k 0) = true) : ∀ k ∈ ks, ∃ b, ι k = .pointer (some ⟨b, 0, none⟩) := by
  induction ks with
  | nil => simp
  | cons k ks ih =>
    simp only [List.map_cons, Zk, Bool.and_eq_true] at hk
    intro j hj
    simp only [List.mem_cons] at hj
    rcases hj with rfl | hj
    · have := hk.1
      split at this
      · rename_i cs t hl
        obtain ⟨b, vs, e1, _⟩ := h.obj j _ hl
        exact ⟨b, e1⟩
      · cases this
    · exact ih hk.2 j hj
theorem arepL_p {w : World} {U : Nat → Prop} {ι : Key → Value} {ps : List PV} {vs : List Value} (h : PRepL w U ps vs) : ARepL w U ι (ps.map .p) vs := by
  induction ps generalizing vs with
  | nil => exact h
  | cons x r ih =>
    simp only [PRepL] at h
    obtain ⟨v, s, rfl, h1, h2⟩ := h
    exact ⟨v, s, rfl, h1, ih h2⟩
/-- A function's value: what it is, and what it brings along. -/
theorem fn_rep (h : Sim w X L ι) {U : Nat → Prop} {fr : List AV} {g : Opd} {f : FuncId} {as : List AV} (hf : Zag fr g = some (f, as)) (hk : Zk L as = true) {v : Value} (hv : ARep w U ι (rd fr g).un.2 v) : ∃ us : List Value, v = .func (.func f) #[] us.toArray ∧ ARepL w U ι as us := by
  unfold Zag at hf
  split at hf
  · rename_i c f' ks e
    simp only [Option.some.injEq, Prod.mk.injEq] at hf
    obtain ⟨rfl, rfl⟩ := hf
    rw [e] at hv
    exact ⟨ks.map ι, hv, adr_keys (f := f') (boxK_ok h hk)⟩
  · rename_i c f' ps e
    simp only [Option.some.injEq, Prod.mk.injEq] at hf
    obtain ⟨rfl, rfl⟩ := hf
    rw [e] at hv
    obtain ⟨vs, e2, h2⟩ := hv
    exact ⟨vs, e2, arepL_p h2⟩
  · cases hf

/-- One operation in front of others. -/
theorem oper_sound0 {Y : List PV} {ops : Array Oper} {i : IOper} {is : List IOper} {K : List AV → Objs → Prop} (hchk : chkOper0 P ops o i = true) (hfz : isFz i = false) (h : awpOps P E Y (i :: is) fr L K) (hs : StF E B w L ι fr a)
    {next : Act → World → Prop} {Q : Exit → Act → World → Prop} (hn : ∀ fr' L' ι' a' w', awpOps P E Y is fr' L' K → StF E B w' L' ι' fr' a' → next a' w') :
    if Region.wanted o (yielded ops a.tmps) then o.wp P a w next Q else next (a.put o.dst undef) w := by
  obtain ⟨d, op, gd⟩ := i
  simp only [chkOper0, Bool.and_eq_true, beq_iff_eq, Bool.or_eq_true, Bool.not_eq_true'] at hchk
  obtain ⟨⟨⟨hd, hop⟩, hst⟩, hgd⟩ := hchk
  have hst' : isSt op = true → d = none := fun e => by rcases hst with h | h; rw [e] at h; cases h; exact h
  have callCase : ∀ (f : FuncId) (args : List Opd), chkOp P o.op (.call f args) = true → Zl fr args → CallOp P E f (Zm fr args) L d fr (fun fr L => awpOps P E Y is fr L K) → o.wp P a w next Q := by
    intro f args hop hc h
    obtain ⟨args0, ts, ho, h1, h2⟩ := chk_call hop
    have hrun : (execOp a.eval o).run P w = .ok (.enter f (args0.map a.eval)) w := by
      simp only [execOp, ho, resolve, Act.eval, Deferred.ofValue, Sem.run_bind, Sem.run_pure, Result.andThen_ok, invoke, run_enter h1]
      simp
    unfold Oper.wp
    rw [hrun, Oper.upon_enter]
    have hA := argsRep hs.2.1 h2 hc
    have e3 : args0.map a.eval = (args0.toList.map a.eval).toArray := by apply Array.ext'; simp
    rw [e3]
    exact call_ok hs hA h (fun v w' fr' L' ι' hk hs' => hn fr' L' ι' _ w' hk (by rw [hd]; exact hs'))
  have pureCase : ∀ (f : FuncId) (args : List Opd) (x : PV) (r : AV), chkOp P o.op (.call f args) = true → Zl fr args → PureC P E f (Zm fr args) L (· = x) → (∀ w' v, StF E B w' L ι fr a → PRep w' (fun b => Own L ι b ∨ B.X b) x v → ARep w' (fun b => Own L ι b ∨ B.X b) ι r v) → awpOps P E Y is (Zf fr d r) L K → o.wp P a w next Q := by
    intro f args x r hop hc hp hrr hk
    obtain ⟨args0, ts, ho, h1, h2⟩ := chk_call hop
    have hrun : (execOp a.eval o).run P w = .ok (.enter f (args0.map a.eval)) w := by
      simp only [execOp, ho, resolve, Act.eval, Deferred.ofValue, Sem.run_bind, Sem.run_pure, Result.andThen_ok, invoke, run_enter h1]
      simp
    unfold Oper.wp
    rw [hrun, Oper.upon_enter]
    have hA := argsRep hs.2.1 h2 hc
    have e3 : args0.map a.eval = (args0.toList.map a.eval).toArray := by apply Array.ext'; simp
    rw [e3]
    refine (hp w B.X ι _ hs.1.sim (fun b hb => hs.1.x_own hb) hs.1.env (fun b hb => hs.1.e_own hb) hA).mono ?_
    rintro e w' ⟨v, y, rfl, rfl, hr, hG⟩
    have h1 := hs.grown hG
    exact hn _ _ ι _ w' hk ⟨h1.1, by rw [hd]; exact h1.2.1.setD d (hrr w' v h1 hr), by rw [Act.put_defers']; exact h1.2.2⟩
  cases gd with
  | none =>
    have hgn : o.guard = none := by cases hq : o.guard <;> simp_all
    have hw : Region.wanted o (yielded ops a.tmps) = true := by simp [Region.wanted, hgn]
    rw [if_pos hw]
    cases op with
    | call f args =>
      simp only [awpOps] at h
      exact callCase f args hop h.1 h.2
    | pcall n f args =>
      simp only [awpOps] at h
      exact pureCase f args _ (.p _) (chk_pcall hop) h.1.1 h.1.2 (fun w' v _ hr => hr) h.2
    | callv g args =>
      simp only [awpOps] at h
      split at h
      · rename_i f ks hfn
        obtain ⟨t, args0, ts, ho, rfl, h2⟩ := chk_callv hop
        obtain ⟨h0, hfb, hbk, hc, h⟩ := h
        obtain ⟨us, hg', hus⟩ := fn_rep hs.1.sim hfn hbk ((rdOk hs.2.1 (show okOpd (.tmp t) (.t t) = true by simp [okOpd])).un h0)
        have hrun : (execOp a.eval o).run P w = .ok (.enter f (args0.map a.eval ++ us.toArray)) w := by
          simp only [execOp, ho, resolve, hg', Deferred.ofValue, Sem.run_bind, Sem.run_pure, Result.andThen_ok, invoke]
          simp [run_enter hfb]
        unfold Oper.wp
        rw [hrun, Oper.upon_enter]
        have hA := (argsRep hs.2.1 h2 hc).append hus
        have e3 : args0.map a.eval ++ us.toArray = (args0.toList.map a.eval ++ us).toArray := by apply Array.ext'; simp
        rw [e3]
        exact call_ok hs hA h (fun v w' fr' L' ι' hk hs' => hn fr' L' ι' _ w' hk (by rw [hd]; exact hs'))
      · exact h.elim
    | fz x => exact (chk_fz hop).elim
    | dcall b f args => exact absurd hop (by unfold chkOp; split <;> simp_all)
    | _ =>
      simp only [awpOps] at h
      split at h
      · rename_i c fr' L' he
        exact eff_wp (estep_sound hop hd hst' he) h.1 hs (fun ι' a' w' hs' => hn _ _ ι' a' w' h.2 hs')
      · exact h.elim
  | some sw =>
    obtain ⟨s, want⟩ := sw
    obtain ⟨j, hj, hjs⟩ : ∃ j, o.guard = some (j, want) ∧ (ops[j]?).bind (·.dst) = some s := by
      cases hq : o.guard with
      | none => rw [hq] at hgd; simp at hgd
      | some q => obtain ⟨j, w1⟩ := q; rw [hq] at hgd; simp only [Bool.and_eq_true, beq_iff_eq] at hgd; exact ⟨j, by rw [hgd.1], hgd.2⟩
    have hskip : ∀ c0 x, c0 = false → StF E B w L ι (Zf fr d (.g c0 x)) (a.put o.dst undef) := by
      intro c0 x e
      subst e
      exact ⟨hs.1, by rw [hd]; exact hs.2.1.setD d ⟨(fun h => by cases h), fun _ => rfl⟩, by rw [Act.put_defers']; exact hs.2.2⟩
    simp only [awpOps] at h
    split at h
    · rename_i c0 hc0
      have hy := gval_ok hs.2.1 hjs hc0
      have hw : Region.wanted o (yielded ops a.tmps) = c0 := by simp only [Region.wanted, hj]; exact hy
      rw [hw]
      cases op with
      | call f args =>
        simp only at h
        rcases h with ⟨hc, ⟨x, hx, hk⟩ | ⟨ht, hf⟩⟩
        · cases c0 with
          | true =>
            rw [if_pos rfl]
            exact pureCase f args x (.g true (.p x)) hop (hc rfl) (hx rfl) (fun w' v _ hr => ⟨fun _ => hr, fun h => by cases h⟩) hk
          | false =>
            rw [if_neg (by simp)]
            exact hn _ _ ι _ w hk (hskip _ _ rfl)
        · cases c0 with
          | true =>
            rw [if_pos rfl]
            exact callCase f args hop (hc rfl) (ht rfl)
          | false =>
            rw [if_neg (by simp)]
            exact hn _ _ ι _ w (hf rfl) (hskip _ _ rfl)
      | pcall n f args =>
        simp only at h
        cases c0 with
        | true =>
          rw [if_pos rfl]
          exact pureCase f args _ (.g true (.p _)) (chk_pcall hop) (h.1 rfl).1 (h.1 rfl).2 (fun w' v _ hr => ⟨fun _ => hr, fun h => by cases h⟩) h.2
        | false =>
          rw [if_neg (by simp)]
          exact hn _ _ ι _ w h.2 (hskip _ _ rfl)
      | _ =>
        simp only at h
        split at h
        · rename_i c r he
          cases c0 with
          | true =>
            rw [if_pos rfl]
            have hv := step_sound hop he
            obtain ⟨v, w', e, hG, hr⟩ := hv E B w ι a hs (h.1 rfl)
            have h1 := hs.grown hG
            unfold Oper.wp
            rw [e, Oper.upon_value]
            exact hn _ _ ι _ w' h.2 ⟨h1.1, by rw [hd]; exact h1.2.1.setD d (r := .g true r) ⟨fun _ => hr, fun h => by cases h⟩, by rw [Act.put_defers']; exact h1.2.2⟩
          | false =>
            rw [if_neg (by simp)]
            exact hn _ _ ι _ w h.2 (hskip _ _ rfl)
        · obtain ⟨_, rfl, h⟩ := h
          rw [if_neg (by simp)]
          exact hn _ _ ι _ w h (hskip _ _ rfl)
    · exact h.elim

theorem ldl_ld {sz : Nat} {ag : Bool} {x : Opd} {q : Prop × AV} (h : Ze fr L (.ldl sz ag x) = some q) : Ze fr L (.ld sz ag x) = some q := by
  simp only [Ze] at h ⊢
  split at h
  · rename_i e; rw [e]; exact h
  · rename_i e; rw [e]; exact h
  · cases h

theorem DCallOp.call {b : Bool} {f : FuncId} {as : List AV} {d : Option Nat} {K : List AV → Objs → Prop} (h : DCallOp b P E f as L d fr K) : CallOp P E f as L d fr K := by
  obtain ⟨k, t, cs, post, h1, h2, h3, h4, h5, h6⟩ := h
  refine .inr (.inl ⟨some (k, .box t cs), _, h1, h2, ?_, ?_⟩)
  · cases d with
    | none => trivial
    | some e => exact h3 e rfl
  · rintro r os' ⟨x, cs', rfl, rfl, hp⟩
    exact h6 x cs' hp

theorem awpOps_norm {Y : List PV} {i : IOper} {is : List IOper} {K : List AV → Objs → Prop} (h : awpOps P E Y (i :: is) fr L K) : awpOps P E Y ({ i with op := i.op.norm } :: is) fr L K := by
  obtain ⟨d, op, gd⟩ := i
  cases op
  case ldl sz ag x =>
    simp only [IOp.norm]
    cases gd with
    | none =>
      simp only [awpOps, Zd] at h ⊢
      split at h
      · rename_i c fr' L' e
        obtain ⟨q, e1, e2⟩ := Option.map_eq_some_iff.1 e
        rw [ldl_ld e1]
        simp only [Option.map_some, e2]
        exact h
      · exact h.elim
    | some sw =>
      obtain ⟨s, want⟩ := sw
      simp only [awpOps] at h ⊢
      split at h
      · split at h
        · rename_i c r e
          rw [ldl_ld e]
          exact h
        · simp [plainOp] at h
      · exact h.elim
  case dcall b f args =>
    simp only [IOp.norm]
    cases gd with
    | none =>
      simp only [awpOps] at h ⊢
      exact ⟨h.1, h.2.call⟩
    | some sw =>
      obtain ⟨s, want⟩ := sw
      simp only [awpOps, Ze] at h
      split at h
      · simp [plainOp] at h
      · exact h.elim
  all_goals exact h

theorem oper_sound {Y : List PV} {ops : Array Oper} {i : IOper} {is : List IOper} {K : List AV → Objs → Prop} (hchk : chkOper P ops o i = true) (hfz : isFz i = false) (h : awpOps P E Y (i :: is) fr L K) (hs : StF E B w L ι fr a)
    {next : Act → World → Prop} {Q : Exit → Act → World → Prop} (hn : ∀ fr' L' ι' a' w', awpOps P E Y is fr' L' K → StF E B w' L' ι' fr' a' → next a' w') :
    if Region.wanted o (yielded ops a.tmps) then o.wp P a w next Q else next (a.put o.dst undef) w := by
  simp only [chkOper, Bool.or_eq_true] at hchk
  rcases hchk with hd | hchk
  · obtain ⟨d, op, gd⟩ := i
    cases op <;> simp only [isDead, Bool.false_eq_true] at hd
    cases gd with
    | none => simp only [awpOps, Zd, Ze, Option.map_none] at h
    | some sw =>
      obtain ⟨s, want⟩ := sw
      simp only [awpOps, Ze] at h
      split at h
      · simp [plainOp] at h
      · exact h.elim
  · refine oper_sound0 hchk ?_ (awpOps_norm h) hs hn
    obtain ⟨d, op, gd⟩ := i
    cases op <;> first | exact hfz | (simp only [IOp.norm]; cases d <;> cases gd <;> rfl)


theorem Zc.look {L L' : Objs} (h : Zc L' L) : ∀ (k : Key) (a : AO), Zah L' k = some a → Zah L k = some a := by
  induction L' with
  | nil => intro k a h; simp [Go.Proofs.YtpddiepfolfnoaaDoor.Zah] at h
  | cons q r ih =>
    intro k a hk
    obtain ⟨k', a'⟩ := q
    simp only [Zc] at h
    simp only [Go.Proofs.YtpddiepfolfnoaaDoor.Zah] at hk
    split at hk
    · rename_i e; cases hk; rw [← e]; exact h.1
    · exact ih h.2 k a hk
theorem Za.get : ∀ {as bs : List AV}, Za as bs → as.length = bs.length ∧ ∀ (i : Nat) (b : AV), bs[i]? = some b → ∃ a, as[i]? = some a ∧ Zb a b := by
  intro as
  induction as with
  | nil => intro bs h; cases bs with
    | nil => simp
    | cons b bs => exact h.elim
  | cons a as ih => intro bs h; cases bs with
    | nil => exact h.elim
    | cons b bs =>
      simp only [Za] at h
      obtain ⟨h1, h2⟩ := ih h.2
      refine ⟨by simp [h1], fun i x hx => ?_⟩
      cases i with
      | zero => simp at hx; subst hx; exact ⟨a, rfl, h.1⟩
      | succ i => simp at hx; simpa using h2 i x hx
theorem Zb.rep {U : Nat → Prop} {x y : AV} {v : Value} (h : Zb x y) (hr : ARep w U ι x v) : ARep w U ι y v := by
  unfold Zb at h
  split at h
  · trivial
  · subst h; exact hr

theorem StF.weak {fr' : List AV} (hs : StF E B w L ι fr a) (h1 : Za fr fr') (h2 : Zc L' L) : StF E B w L' ι fr' a := by
  obtain ⟨h, hf, hd⟩ := hs
  have hl := Zc.look h2
  have hO : ∀ b, Own L' ι b → Own L ι b := fun b ⟨k, q, e1, e2⟩ => ⟨k, q, hl k q e1, e2⟩
  have hk : Keeps w w (fun b => Own L ι b ∨ B.X b) (fun b => Own L' ι b ∨ B.X b) := fun b _ hu => ⟨rfl, fun h => hu (h.imp (hO b) id)⟩
  obtain ⟨g1, g2⟩ := h1.get
  refine ⟨⟨h.grow, ⟨fun j q hj => ?_, fun j j' q q' b hj hj' => h.sim.inj j j' q q' b (hl j q hj) (hl j' q' hj')⟩, fun b hb => h.own b (hO b hb), h.xlt, fun k h0 h1 => ?_, h.env, h.envb, h.loc, h.xdis⟩, ⟨by rw [hf.1, g1], fun i y hy => ?_⟩, hd⟩
  · have ho := h.sim.obj j q (hl j q hj)
    cases q with
    | box cs t =>
      obtain ⟨b, vs, e1, e2, e3, e4, e5⟩ := ho
      refine ⟨b, vs, e1, e2, e3, e4, fun i x hx => ?_⟩
      obtain ⟨u, hu, hr⟩ := e5 i x hx
      exact ⟨u, hu, hr.mono hk⟩
    | row es e z ap =>
      obtain ⟨vs, hown', e4, e5, e6⟩ := ho
      exact ⟨vs, hown', e4, PRepL.mono hk _ _ e5, e6⟩
    | map kv x y =>
      obtain ⟨r, ents, cl, e1, e2, e3⟩ := ho
      exact ⟨r, ents, cl, e1, e2, e3.1, PRepL.mono hk _ _ e3.2⟩
  · obtain ⟨q, hq⟩ := Option.isSome_iff_exists.1 h1
    exact h.keep k h0 (by rw [hl k q hq]; rfl)
  · obtain ⟨x, hx, hxy⟩ := g2 i y hy
    obtain ⟨v, hv, hr⟩ := hf.2 i x hx
    exact ⟨v, hv, (hxy.rep hr).mono hk⟩
end
end Go.Proofs.YtpddiepfolfnoaaDoor

/- Whole bodies: what awp says of a body holds of its run; contracts out of bodies. -/
namespace Go.Proofs.YtpddiepfolfnoaaDoor
set_option linter.unusedVariables false
set_option linter.unusedSimpArgs false
set_option linter.defProp false

section
variable {P : Program} {E : Envt} {B : Base} {w w' : World} {L L' : Objs} {ι ι' : Key → Value} {fr : List AV} {a : Act} {o : Oper} {X : Nat → Prop}

theorem isFz_eq {i : IOper} (h : isFz i = true) : ∃ x, i = ⟨none, .fz x, none⟩ := by
  unfold isFz at h
  split at h
  · exact ⟨_, rfl⟩
  · cases h

theorem awpOps_fz {Y : List PV} {x : Opd} {is : List IOper} {K : List AV → Objs → Prop} (h : awpOps P E Y (⟨none, .fz x, none⟩ :: is) fr L K) (hs : StF E B w L ι fr a) : ∃ fr' L', awpOps P E Y is fr' L' K ∧ StF E B w L' ι fr' a := by
  simp only [awpOps] at h
  split at h
  · rename_i k z es hk; exact ⟨_, _, h, fz_ok hs hk⟩
  · exact ⟨_, _, h, hs⟩

theorem awpOps_sound {Y : List PV} {ops : Array Oper} {K : List AV → Objs → Prop} {Q : Exit → Act → World → Prop} (hK : ∀ fr L ι a w, K fr L → StF E B w L ι fr a → Q .normal a w) : ∀ (is : List IOper) (os : List Oper) (fr : List AV) (L : Objs) (ι : Key → Value) (a : Act) (w : World),
    chkOps P ops os is = true → awpOps P E Y is fr L K → StF E B w L ι fr a → wpList P ops Q os a w := by
  intro is
  induction is with
  | nil =>
    intro os fr L ι a w hchk h hs
    simp only [chkOps, List.isEmpty_iff] at hchk
    subst hchk
    exact wpList_nil (hK fr L ι a w h hs)
  | cons i is ih =>
    intro os fr L ι a w hchk h hs
    simp only [chkOps] at hchk
    by_cases hf : isFz i = true
    · rw [if_pos hf] at hchk
      obtain ⟨x, rfl⟩ := isFz_eq hf
      obtain ⟨fr', L', h', hs'⟩ := awpOps_fz h hs
      exact ih os fr' L' ι a w hchk h' hs'
    · rw [if_neg hf] at hchk
      split at hchk
      · rename_i o os'
        simp only [Bool.and_eq_true] at hchk
        refine wpList_step fun Kc hKc => ?_
        exact oper_sound hchk.1 (by simpa using hf) h hs (fun fr' L' ι' a' w' h' hs' => hKc a' w' (ih os' fr' L' ι' a' w' hchk.2 h' hs'))
      · cases hchk

/-- What a check of regions that draw their order must give. -/
def DrawOk (P : Program) (D : Array Oper → List IOper → Bool) : Prop :=
  ∀ (E : Envt) (B : Base) (Y : List PV) (ops : Array Oper) (is : List IOper) (id : Nat) (fr : List AV) (L : Objs) (ι : Key → Value) (a : Act) (w : World) (K : List AV → Objs → Prop) (Q : Exit → Act → World → Prop),
    (∀ fr L ι a w, K fr L → StF E B w L ι fr a → Q .normal a w) → chkOps P ops ops.toList is = true → D ops is = true → awpOps P E Y is fr L K → StF E B w L ι fr a → (Code.region id ops true).wp P Q a w

theorem awp_sound {D : Array Oper → List IOper → Bool} (hD : DrawOk P D) : ∀ (ic : IC) (c : Code) (fr : List AV) (L : Objs) (Q : AQ), chkC P D ic c = true → awp P E ic fr L Q → AWp P E c fr L Q := by
  intro ic
  induction ic with
  | skip => intro c fr L Q hc h; cases c <;> simp [chkC] at hc; exact AWp.skip h
  | reg ops =>
    intro c fr L Q hc h
    cases c with
    | region id os draw =>
      cases draw with
      | true => simp [chkC] at hc
      | false =>
        simp only [chkC] at hc
        intro B w ι a hs
        refine wp_region_list ?_
        exact awpOps_sound (Q := Q.conc E B) (fun fr L ι a w hk hs => ⟨fr, L, ι, hk, hs⟩) ops os.toList fr L ι a w hc h hs
    | _ => simp [chkC] at hc
  | drg ops =>
    intro c fr L Q hc h
    cases c with
    | region id os draw =>
      cases draw with
      | false => simp [chkC] at hc
      | true =>
        simp only [chkC, Bool.and_eq_true] at hc
        intro B w ι a hs
        obtain ⟨Y, h⟩ := h
        exact hD E B Y os ops id fr L ι a w _ (Q.conc E B) (fun fr L ι a w hk hs => ⟨fr, L, ι, hk, hs⟩) hc.1 hc.2 h hs
    | _ => simp [chkC] at hc
  | seq x y ihx ihy =>
    intro c fr L Q hc h
    cases c with
    | seq a b =>
      simp only [chkC, Bool.and_eq_true] at hc
      refine AWp.seq ((ihx a fr L _ hc.1 h).mono ?_)
      intro e fr L hq
      cases e <;> first | exact ihy b fr L Q hc.2 hq | exact hq
    | _ => simp [chkC] at hc
  | cond d x y ihx ihy =>
    intro c fr L Q hc h
    cases c with
    | cond c a b =>
      simp only [chkC, Bool.and_eq_true] at hc
      simp only [awp] at h
      split at h
      · rename_i t ht
        refine AWp.cond (b := t) (fun B w ι ac hs => ?_) (fun e => ihx a fr L Q hc.1.2 (h.1 e)) (fun e => ihy b fr L Q hc.2 (h.2 e))
        have := rdOk hs.2.1 hc.1.1
        rw [ht] at this
        exact PRep.bool_eq this
      · exact h.elim
    | _ => simp [chkC] at hc
  | block id x ih =>
    intro c fr L Q hc h
    cases c with
    | block j a =>
      simp only [chkC, Bool.and_eq_true, beq_iff_eq] at hc
      obtain ⟨rfl, hc⟩ := hc
      exact AWp.block (ih a fr L _ hc h)
    | _ => simp [chkC] at hc
  | loop x ih =>
    intro c fr L Q hc h
    cases c with
    | loop a =>
      simp only [chkC] at hc
      obtain ⟨I, ⟨n, fr0, L0, e1, e2, h0⟩, hr⟩ := h
      intro B w ι ac hs
      refine AWp.loop (Q := Q) I (fun n fr L hi => ?_) n h0 B w ι ac (hs.weak e1 e2)
      intro B w ι ac hs
      refine wp_mono (ih a fr L _ hc (hr n fr L hi) B w ι ac hs) ?_
      rintro e a' w' ⟨fr', L', ι', q, s⟩
      cases e with
      | normal => obtain ⟨m, fr2, L2, hm, e1, e2, hi⟩ := q; exact ⟨fr2, L2, ι', ⟨m, hm, hi⟩, s.weak e1 e2⟩
      | _ => exact ⟨fr', L', ι', q, s⟩
    | _ => simp [chkC] at hc
  | exit id =>
    intro c fr L Q hc h
    cases c with
    | exit j => simp only [chkC, beq_iff_eq] at hc; subst hc; exact AWp.exit h
    | _ => simp [chkC] at hc
  | ret =>
    intro c fr L Q hc h
    cases c with
    | ret => exact AWp.ret h
    | _ => simp [chkC] at hc
  | dead => intro c fr L Q hc h; exact h.elim
  | cut x ih =>
    intro c fr L Q hc h
    simp only [chkC] at hc
    obtain ⟨fr', L', e1, e2, h⟩ := h
    intro B w ι ac hs
    exact ih c fr' L' Q hc h B w ι ac (hs.weak e1 e2)
end
end Go.Proofs.YtpddiepfolfnoaaDoor

/- Contracts of functions out of their bodies. -/
namespace Go.Proofs.YtpddiepfolfnoaaDoor
set_option linter.unusedVariables false
set_option linter.unusedSimpArgs false
set_option linter.defProp false

inductive IRes where
  | t (i : Nat)
  | c (i sz : Nat) (ag : Bool)

/-- A slot's value as a plain one, rows given up. -/
def Zao (L : Objs) : AV → Option PV
  | .p x => some (wk1 x)
  | .row (.l i) => match Zah L (.l i) with
    | some (.row es _ z _) => some (.sl z es)
    | _ => none
  | _ => none
def Zap (L : Objs) : List AV → Option (List PV)
  | [] => some []
  | x :: r => match Zao L x, Zap L r with
    | some y, some l => some (y :: l)
    | _, _ => none
def Zan (fr : List AV) (L : Objs) : IRes → Option PV
  | .t i => match fr.getD i .any with
    | .p x => some (wk x)
    | a => Zao L a
  | .c i sz ag => match fr.getD i .any with
    | .adr k o => match Zah L k with
      | some (.box cs _) => if o + sz ≤ cs.length then (if ag then (Zap L ((cs.drop o).take sz)).map .agg else Zao L (cs.getD o .any)) else none
      | _ => none
    | _ => none
def Zam (fr : List AV) (L : Objs) : List IRes → Option (List PV)
  | [] => some []
  | r :: rs => match Zan fr L r, Zam fr L rs with
    | some y, some l => some (y :: l)
    | _, _ => none
def mkRes : List PV → PV
  | [x] => x
  | l => .tup l

def okRes (P : Program) : ResultVar → IRes → Bool
  | .tmp t, .t i => t == i
  | .cell t ty, .c i sz ag => t == i && sizeB P ty sz && aggB P ty ag && (ag || sz == 1)
  | _, _ => false
def okResL (P : Program) : List ResultVar → List IRes → Bool
  | [], [] => true
  | x :: xs, y :: ys => okRes P x y && okResL P xs ys
  | _, _ => false

def RetK (q : Option (List PV)) (φ : PV → Objs → Prop) (L : Objs) : Prop :=
  match q with
  | some l => φ (mkRes l) L
  | none => False
theorem RetK_some {l : List PV} {φ : PV → Objs → Prop} {L : Objs} : RetK (some l) φ L = φ (mkRes l) L := rfl
theorem RetK_ex {q : Option (List PV)} {φ : PV → Objs → Prop} {L : Objs} (h : RetK q φ L) : ∃ l, q = some l ∧ φ (mkRes l) L := by
  cases q with
  | none => exact h.elim
  | some l => exact ⟨l, rfl, h⟩
theorem mkRes1 (x : PV) : mkRes [x] = x := rfl
theorem mkRes2 (x y : PV) : mkRes [x, y] = .tup [x, y] := rfl
theorem mkRes3 (x y z : PV) : mkRes [x, y, z] = .tup [x, y, z] := rfl

def retQ (rs : List IRes) (φ : PV → Objs → Prop) : AQ
  | .normal, fr, L => RetK (Zam fr L rs) φ L
  | .ret, fr, L => RetK (Zam fr L rs) φ L
  | _, _, _ => False

section
variable {P : Program} {E : Envt} {B : Base} {w w' : World} {L L' : Objs} {ι ι' : Key → Value} {fr : List AV} {a : Act} {o : Oper} {X : Nat → Prop}

/-- The blocks of borrowed objects. -/
def ZB (L : Objs) (ι : Key → Value) (X : Nat → Prop) (c : Nat) : Prop := X c ∨ ∃ i q, Zah L (.b i) = some q ∧ blk (ι (.b i)) = some c
theorem keeps_z (w : World) (L : Objs) (ι : Key → Value) (X : Nat → Prop) : Keeps w w (fun b => Own L ι b ∨ X b) (ZB L ι X) := fun b _ h => ⟨rfl, fun hx => by
  rcases hx with hx | ⟨i, q, h1, h2⟩
  · exact h (.inr hx)
  · exact h (.inl ⟨_, q, h1, h2⟩)⟩
theorem keeps_x (w : World) (L : Objs) (ι : Key → Value) (X : Nat → Prop) : Keeps w w (fun b => Own L ι b ∨ X b) X := fun b _ h => ⟨rfl, fun hx => h (.inr hx)⟩

theorem pvOf_ok (h : St E B w L ι) {x : AV} {y : PV} {v : Value} (e : Zao L x = some y) (hr : ARep w (fun b => Own L ι b ∨ B.X b) ι x v) : PRep w (ZB L ι B.X) y v ∧ v.oneCell' = true ∨ (∃ z, x = .p z ∧ y = wk1 z) ∧ PRep w (ZB L ι B.X) y v := by
  unfold Zao at e
  split at e
  · cases e; exact .inr ⟨⟨_, rfl, rfl⟩, (PRep.mono (keeps_z w L ι B.X) _ _ hr).wk1⟩
  · rename_i k0
    generalize hkk : Key.l k0 = k at e hr
    split at e
    · rename_i es e' z ap hl
      cases e
      left
      obtain ⟨vs, hrow, e4, e5, e6⟩ := h.sim.obj k _ hl
      rcases hrow.2 with ⟨g1, g2⟩ | ⟨g, cap, cur, fz, g1, _, g3, _⟩
      · rw [hr.1, g1]
        exact ⟨⟨none, 0, by rw [g2], by omega, fun hne => absurd (List.eq_nil_of_length_eq_zero g2) hne⟩, rfl⟩
      · rw [hr.1, g1]
        have hE := row_cells h.sim hl g1
        have hO : Own L ι g := ⟨k, _, hl, by rw [g1]; rfl⟩
        refine ⟨⟨_, cap, rfl, g3, fun _ => ⟨g, 0, rfl, sim_own_lt h.sim hO, (fun hx => by
          rcases hx with hx | ⟨i, q, h1, h2⟩
          · exact (h.x_own hx).2 hO
          · have := h.sim.inj _ _ _ _ g h1 hl h2 (by rw [g1]; rfl)
            rw [← hkk] at this
            cases this), ?_⟩⟩, rfl⟩
        have key : ∀ (es' : List (List PV)) (off : Nat), PRepE w (fun b => Own L ι b ∨ B.X b) g z off es' → PRepE w (ZB L ι B.X) g z off es' := by
          intro es'
          induction es' with
          | nil => intro off _; simp [PRepE]
          | cons x r ih =>
            intro off hh
            simp only [PRepE] at hh ⊢
            refine ⟨hh.1, ?_, ih _ hh.2.2⟩
            obtain ⟨us, a1, a2, a3⟩ := hh.2.1.vals
            exact PRepC.of (PRepL.mono (keeps_z w L ι B.X) _ _ a1) a2 a3
        exact key es 0 hE
    · cases e
  · cases e
theorem pvOf_rep (h : St E B w L ι) {x : AV} {y : PV} {v : Value} (e : Zao L x = some y) (hr : ARep w (fun b => Own L ι b ∨ B.X b) ι x v) : PRep w (ZB L ι B.X) y v := by
  rcases pvOf_ok h e hr with h | h
  · exact h.1
  · exact h.2

theorem pvsOf_rep (h : St E B w L ι) : ∀ {xs : List AV} {ys : List PV} {vs : List Value}, Zap L xs = some ys → vs.length = xs.length → (∀ (j : Nat) (x : AV), xs[j]? = some x → ∃ v, vs[j]? = some v ∧ ARep w (fun b => Own L ι b ∨ B.X b) ι x v) → PRepL w (ZB L ι B.X) ys vs := by
  intro xs
  induction xs with
  | nil => intro ys vs e hl _; simp only [Zap, Option.some.injEq] at e; subst e; simp only [PRepL]; exact List.eq_nil_of_length_eq_zero hl
  | cons x xs ih =>
    intro ys vs e hl hr
    simp only [Zap] at e
    split at e
    · rename_i y l e1 e2
      cases e
      cases vs with
      | nil => simp at hl
      | cons v vs =>
        obtain ⟨v0, h0, r0⟩ := hr 0 x rfl
        simp at h0
        subst h0
        simp only [PRepL]
        exact ⟨v, vs, rfl, pvOf_rep h e1 r0, ih e2 (by simpa using hl) (fun j q hq => by simpa using hr (j + 1) q (by simpa using hq))⟩
    · cases e

theorem PRep.wk {U : Nat → Prop} {x : PV} {v : Value} (h : PRep w U x v) : PRep w U (wk x) v := by
  cases x with
  | agg cs => simp only [PRep, Go.Proofs.YtpddiepfolfnoaaDoor.wk] at h ⊢; obtain ⟨vs, e, hl⟩ := h; exact ⟨vs, e, hl.wk1⟩
  | tup cs => simp only [PRep, Go.Proofs.YtpddiepfolfnoaaDoor.wk] at h ⊢; obtain ⟨vs, e, hl⟩ := h; exact ⟨vs, e, hl.wk1⟩
  | _ => exact h.wk1

def res1 (tmps : Array Value) : ResultVar → Sem Value
  | .tmp t => pure (tmps.getD t undef)
  | .cell a t => do loadVar t (← asAddr (tmps.getD a undef))

theorem FRep.getD {U : Nat → Prop} (hf : FRep w U ι fr a) (i : Nat) : ARep w U ι (fr.getD i .any) (a.tmps.getD i undef) := by
  cases hx : fr[i]? with
  | none => simp only [List.getD, hx]; trivial
  | some y =>
    obtain ⟨v, hv, hr⟩ := hf.2 i y hx
    simpa [List.getD, hx, hv] using hr

theorem res1_ok (hs : StF E B w L ι fr a) {rv : ResultVar} {r : IRes} (hok : okRes P rv r = true) {x : PV} (h : Zan fr L r = some x) : ∃ v, (res1 a.tmps rv).run P w = .ok v w ∧ PRep w (ZB L ι B.X) x v := by
  cases r with
  | t i =>
    cases rv with
    | cell t ty => simp [okRes] at hok
    | tmp t =>
      simp only [okRes, beq_iff_eq] at hok
      subst hok
      have hr := hs.2.1.getD t
      refine ⟨_, rfl, ?_⟩
      simp only [Zan] at h
      split at h
      · rename_i y hy; cases h; rw [hy] at hr; exact (PRep.mono (keeps_z w L ι B.X) _ _ hr).wk
      · exact pvOf_rep hs.1 h hr
  | c i sz ag =>
    cases rv with
    | tmp t => simp [okRes] at hok
    | cell t ty =>
      simp only [okRes, Bool.and_eq_true, beq_iff_eq, Bool.or_eq_true] at hok
      obtain ⟨⟨⟨rfl, hsz⟩, hag⟩, h1⟩ := hok
      have hr := hs.2.1.getD t
      simp only [Zan] at h
      split at h
      · rename_i k of hk
        rw [hk] at hr
        obtain ⟨b, e1, e2⟩ := hr
        split at h
        · rename_i cs bt hl
          obtain ⟨b', vs, e4, hb, hlen, h1c, hcs⟩ := hs.1.sim.obj k _ hl
          rw [e1] at e4
          cases e4
          split at h
          · rename_i hle
            have hcell : ∀ (j : Nat) (v : Value), vs[j]? = some v → w.cell? ⟨b, j, none⟩ = some v := fun j v hv => by rw [cell_of_row w b j _ _ _ hb]; simpa using hv
            cases ag with
            | true =>
              simp only [if_true] at h
              obtain ⟨l, hl', rfl⟩ := Option.map_eq_some_iff.1 h
              have hrep := pvsOf_rep hs.1 (vs := (vs.drop of).take sz) hl' (by simp; omega) (fun j x hx => by
                rw [List.getElem?_take] at hx ⊢
                split at hx
                · rename_i hj; rw [if_pos hj]; rw [List.getElem?_drop] at hx ⊢; exact hcs _ x hx
                · cases hx)
              refine ⟨.agg ((vs.drop of).take sz).toArray, ?_, _, rfl, hrep⟩
              have hld := run_loadCells_list (P := P) (w := w) ⟨b, of, none⟩ ((vs.drop of).take sz) (fun j v hj => by
                rw [addr_addA]
                rw [List.getElem?_take] at hj
                split at hj
                · rw [List.getElem?_drop] at hj; exact hcell _ v hj
                · cases hj)
              have hln : ((vs.drop of).take sz).length = sz := by simp; omega
              rw [hln] at hld
              simp [res1, e2, asAddr, loadVar, run_agg hag, run_size hsz, hld]
            | false =>
              have : sz = 1 := by rcases h1 with h1 | h1; cases h1; exact h1
              subst this
              simp only [Bool.false_eq_true, if_false] at h
              obtain ⟨u, hu, hr⟩ := hcs of (cs.getD of .any) (by rw [List.getD, List.getElem?_eq_getElem (by omega)]; rfl)
              refine ⟨u, ?_, pvOf_rep hs.1 h hr⟩
              simp [res1, e2, asAddr, loadVar, run_agg hag, hcell of u hu]
          · cases h
        · cases h
      · cases h

theorem resL_ok (hs : StF E B w L ι fr a) : ∀ {rvs : List ResultVar} {rs : List IRes} {l : List PV}, okResL P rvs rs = true → Zam fr L rs = some l → ∃ vs, (rvs.mapM (res1 a.tmps)).run P w = .ok vs w ∧ PRepL w (ZB L ι B.X) l vs := by
  intro rvs
  induction rvs with
  | nil => intro rs l h1 h2; cases rs with
    | nil => simp only [Zam, Option.some.injEq] at h2; subst h2; exact ⟨[], rfl, by simp [PRepL]⟩
    | cons _ _ => simp [okResL] at h1
  | cons rv rvs ih => intro rs l h1 h2; cases rs with
    | nil => simp [okResL] at h1
    | cons r rs =>
      simp only [okResL, Bool.and_eq_true] at h1
      simp only [Zam] at h2
      split at h2
      · rename_i y l' e1 e2
        cases h2
        obtain ⟨v, hv, hr⟩ := res1_ok hs h1.1 e1
        obtain ⟨vs, hvs, hrs⟩ := ih h1.2 e2
        refine ⟨v :: vs, ?_, by simp only [PRepL]; exact ⟨v, vs, rfl, hr, hrs⟩⟩
        simp only [List.mapM_cons, Sem.run_bind, hv, Result.andThen_ok, hvs]
        rfl
      · cases h2

theorem results_ok (hs : StF E B w L ι fr a) {fn : Func} {rs : List IRes} {l : List PV} (h1 : okResL P fn.results.toList rs = true) (h2 : Zam fr L rs = some l) : ∃ v, (results fn a.tmps).run P w = .ok v w ∧ PRep w (ZB L ι B.X) (mkRes l) v := by
  obtain ⟨vs, hvs, hrs⟩ := resL_ok hs h1 h2
  have e : (results fn a.tmps).run P w = .ok (if h : vs.toArray.size = 1 then vs.toArray[0] else .tuple vs.toArray) w := by
    have e0 : results fn a.tmps = (do let vs ← fn.results.mapM (res1 a.tmps); pure (if h : vs.size = 1 then vs[0] else .tuple vs)) := by
      unfold results
      congr 1
    rw [e0]
    rw [Array.mapM_eq_mapM_toList]
    simp only [← bind_pure_comp, Sem.run_bind, bind_assoc]
    rw [hvs]
    rfl
  rw [e]
  refine ⟨_, rfl, ?_⟩
  have hlen := hrs.length
  cases l with
  | nil => have : vs = [] := List.eq_nil_of_length_eq_zero hlen; subst this; simp [mkRes, PRep, PRepL]
  | cons x l =>
    cases l with
    | nil =>
      simp only [PRepL] at hrs
      obtain ⟨v, r, rfl, hv, rfl⟩ := hrs
      simpa [mkRes] using hv
    | cons y l =>
      rw [dif_neg (by simp at hlen ⊢; omega)]
      exact ⟨vs, rfl, hrs⟩

/-- A contract out of a body: plain arguments, no borrowed objects. -/
theorem pcall_of_awp {D : Array Oper → List IOper → Bool} (hD : DrawOk P D) {f : FuncId} {fn : Func} {c : Code} {ic : IC} {rs : List IRes} {args : List PV} {n : Nat} {φ : PV → Prop} (hf : P.funcs[f]? = some fn) (hb : fn.body = some c) (hn : fn.ntmps = n) (hchk : chkC P D ic c = true) (hr : okResL P fn.results.toList rs = true)
    (h : awp P E ic (args.map .p ++ List.replicate (n - args.length) .any) [] (retQ rs fun x _ => φ x)) : PCall P E f args φ := by
  intro w U vs hU hE hEb hA
  refine calls_of_wp hf hb ?_
  let B : Base := { w0 := w, X := U, L0 := [], i0 := fun _ => undef }
  have hO : ∀ b, ¬ Own [] (fun _ => undef) b := by rintro b ⟨k, q, h, _⟩; simp [Zah] at h
  have hst : St E B w [] (fun _ => undef) := ⟨Grow.refl _ _, ⟨fun k q h => by simp [Zah] at h, fun k k' q q' b h => by simp [Zah] at h⟩, fun b hb => .inl hb, hU, fun k h => by simp [B, Zah] at h, hE, fun b hb => ⟨hEb b hb, hO b⟩, fun i => rfl, fun b _ => hO b⟩
  have hkeep : Keeps w w U (fun b => Own [] (fun _ => undef) b ∨ B.X b) := fun b _ hu => ⟨rfl, fun h => hu (h.resolve_left (hO b))⟩
  have hlen := hA.length
  have hfr : StF E B w [] (fun _ => undef) (args.map .p ++ List.replicate (n - args.length) .any) { tmps := vs.toArray ++ Array.replicate (fn.ntmps - vs.toArray.size) undef, defers := [] } := by
    refine ⟨hst, ⟨by simp [hlen, hn], fun i x hx => ?_⟩, rfl⟩
    rw [List.getElem?_append] at hx
    split at hx
    · rename_i hi
      rw [List.getElem?_map, Option.map_eq_some_iff] at hx
      obtain ⟨y, hy, rfl⟩ := hx
      obtain ⟨v, hv, hrep⟩ := (PRepL.mono hkeep _ _ hA).get hy
      refine ⟨v, ?_, hrep⟩
      simp only [List.length_map] at hi
      rw [Array.getElem?_append_left (by simp; omega)]
      simpa using hv
    · rename_i hi
      rw [List.getElem?_replicate] at hx
      split at hx
      · rename_i hlt
        cases hx
        simp only [List.length_map] at hi hlt
        refine ⟨undef, ?_, trivial⟩
        rw [Array.getElem?_append_right (by simp; omega)]
        simp only [List.size_toArray]
        rw [Array.getElem?_replicate, if_pos (by rw [hlen]; omega)]
      · cases hx
  refine wp_mono (awp_sound hD ic c _ _ _ hchk h B w _ _ hfr) ?_
  rintro e a' w' ⟨fr', L', ι', q, hs'⟩
  have fin : (∃ l, Zam fr' L' rs = some l ∧ φ (mkRes l)) → a'.defers = [] ∧ ∃ v, (results fn a'.tmps).run P w' = .ok v w' ∧ ∃ v_1 x, Ending.returned v = .returned v_1 ∧ φ x ∧ PRep w' U x v_1 ∧ Grow w w' (fun _ => False) := by
    rintro ⟨l, h1, h2⟩
    obtain ⟨v, hv, hrv⟩ := results_ok hs' hr h1
    refine ⟨hs'.2.2, v, hv, v, _, rfl, h2, PRep.mono (fun b _ h => ⟨rfl, fun hx => h (.inl hx)⟩) _ _ hrv, ?_⟩
    have hg := hs'.1.grow
    exact ⟨hg.os, hg.tape, hg.output, hg.size, fun b hb _ => hg.block b hb (hO b)⟩
  cases e with
  | normal => exact fin (RetK_ex (φ := fun x _ => φ x) (L := L') q)
  | ret => exact fin (RetK_ex (φ := fun x _ => φ x) (L := L') q)
  | exit id => exact q.elim
  | goto l => exact q.elim
  | panic ch => exact q.elim
  | outgrown => exact q.elim
end
end Go.Proofs.YtpddiepfolfnoaaDoor

/- Regions that draw their order: what the text's order gives, every order gives. -/
namespace Go.Proofs.YtpddiepfolfnoaaDoor
set_option linter.unusedVariables false
set_option linter.unusedSimpArgs false
set_option linter.defProp false

def slots : Opd → List Nat
  | .t i => [i]
  | _ => []
def optS : Option Opd → List Nat
  | none => []
  | some x => slots x
def slotsL : List Opd → List Nat
  | [] => []
  | x :: r => slots x ++ slotsL r
def slotsP : List (Nat × Nat × Opd) → List Nat
  | [] => []
  | (_, _, x) :: r => slots x ++ slotsP r

/-- The slots that an operation without effects reads; none: it has effects. -/
def readsA : IOp → Option (List Nat)
  | .mov x | .not x | .neg x | .len x | .sln x | .fla _ x | .fld _ _ _ x | .ld _ _ x | .ldl _ _ x | .ext _ x | .cvi _ x | .cvs x | .b2s x | .nck x | .mpn x => some (slots x)
  | .pick c a b => some (slots c ++ slots a ++ slots b)
  | .bin _ x y | .bnb _ x y | .eqa _ _ x y | .mx x y | .mn x y | .idx x y | .ixa _ x y | .mpl _ _ x y => some (slots x ++ slots y)
  | .ssl x lo hi | .vsl _ x lo hi => some (slots x ++ optS lo ++ optS hi)
  | .bld _ parts => some (slotsP parts)
  | .bsl _ parts => some (slotsL parts)
  | .pcall _ _ args => some (slotsL args)
  | _ => none
def readsI (i : IOper) : Option (List Nat) :=
  (readsA i.op).map fun l => l ++ (match i.guard with | some (s, _) => [s] | none => [])

/-- A call that turns one variable: the slots that it reads. -/
def isD : IOper → Option (Bool × List Nat)
  | ⟨_, .dcall b _ args, none⟩ => some (b, slotsL args)
  | _ => none
/-- What an operation without effects does is the same before and behind such a call. -/
def lfree (b : Bool) : IOp → Bool
  | .ld .. => false
  | .pcall .. => false
  | .mpl .. => false
  | .mpn .. => false
  | .ldl .. => b
  | _ => true
def sepI (x i : IOper) (rx ri : List Nat) : Bool :=
  (match x.dst with | some d => !ri.contains d | none => true) && (match i.dst with | some d => !rx.contains d | none => true) && (match x.dst, i.dst with | some d, some e => d != e | _, _ => true)
def apartI (x i : IOper) : Bool :=
  match readsI x, readsI i with
  | some rx, some ri => sepI x i rx ri
  | some rx, none => match isD i with
    | some (b, ri) => lfree b x.op && sepI x i rx ri
    | none => false
  | none, some ri => match isD x with
    | some (b, rx) => lfree b i.op && sepI x i rx ri
    | none => false
  | none, none => false

section
variable {P : Program} {E : Envt} {Y : List PV} {fr : List AV} {L : Objs}

theorem rd_set {d : Nat} {r : AV} {x : Opd} (h : d ∉ slots x) : rd (fr.set d r) x = rd fr x := by
  cases x with
  | t i =>
    simp only [slots, List.mem_singleton] at h
    simp only [rd, List.getD]
    rw [List.getElem?_set_ne h]
  | _ => rfl
theorem rdo_set {d : Nat} {r : AV} {x : Option Opd} (h : d ∉ optS x) : x.map (rd (fr.set d r)) = x.map (rd fr) := by
  cases x with
  | none => rfl
  | some y => simp only [Option.map_some]; rw [rd_set h]
theorem bldP_set {d : Nat} {r : AV} : ∀ {ps : List (Nat × Nat × Opd)} {cs : List PV}, d ∉ slotsP ps → Zac (fr.set d r) cs ps = Zac fr cs ps := by
  intro ps
  induction ps with
  | nil => intros; rfl
  | cons p ps ih =>
    intro cs h
    obtain ⟨o, s, x⟩ := p
    simp only [slotsP, List.mem_append, not_or] at h
    simp only [Zac]
    rw [rd_set h.1]
    split
    · rw [ih h.2]
    · rfl
theorem bslP_set {d z : Nat} {r : AV} : ∀ {ps : List Opd}, d ∉ slotsL ps → Zad (fr.set d r) z ps = Zad fr z ps := by
  intro ps
  induction ps with
  | nil => intros; rfl
  | cons x ps ih =>
    intro h
    simp only [slotsL, List.mem_append, not_or] at h
    simp only [Zad]
    rw [rd_set h.1]
    split
    · rw [ih h.2]
    · rfl
theorem argC_set {d : Nat} {r : AV} : ∀ {ps : List Opd}, d ∉ slotsL ps → Zl (fr.set d r) ps = Zl fr ps := by
  intro ps
  induction ps with
  | nil => intros; rfl
  | cons x ps ih =>
    intro h
    simp only [slotsL, List.mem_append, not_or] at h
    simp only [Zl]
    rw [rd_set h.1, ih h.2]
theorem argV_set {d : Nat} {r : AV} : ∀ {ps : List Opd}, d ∉ slotsL ps → Zm (fr.set d r) ps = Zm fr ps := by
  intro ps
  induction ps with
  | nil => intros; rfl
  | cons x ps ih =>
    intro h
    simp only [slotsL, List.mem_append, not_or] at h
    have := ih h.2
    simp only [Zm, List.map_cons] at this ⊢
    rw [rd_set h.1, this]

/-- What an operation without effects does: its condition, its result. -/
def core (P : Program) (E : Envt) (Y : List PV) (fr : List AV) (L : Objs) : IOp → Option (Prop × AV)
  | .pcall n f args => some (Zl fr args ∧ PureC P E f (Zm fr args) L (· = Y.getD n (.bool false)), .p (Y.getD n (.bool false)))
  | op => Ze fr L op

theorem core_set {d : Nat} {r : AV} {op : IOp} {l : List Nat} (h : readsA op = some l) (hd : d ∉ l) : core P E Y (fr.set d r) L op = core P E Y fr L op := by
  cases op <;> simp only [readsA, Option.some.injEq, reduceCtorEq] at h <;> subst h <;> (try simp only [List.mem_append, not_or] at hd)
  case mov x => simp only [core, Ze, rd_set hd]
  case pick c a b => simp only [core, Ze, rd_set hd.1.1, rd_set hd.1.2, rd_set hd.2]
  case bin op x y => simp only [core, Ze, rd_set hd.1, rd_set hd.2]
  case bnb op x y => simp only [core, Ze, rd_set hd.1, rd_set hd.2]
  case eqa n k x y => simp only [core, Ze, rd_set hd.1, rd_set hd.2]
  case not x => simp only [core, Ze, rd_set hd]
  case neg x => simp only [core, Ze, rd_set hd]
  case len x => simp only [core, Ze, rd_set hd]
  case sln x => simp only [core, Ze, rd_set hd]
  case mx x y => simp only [core, Ze, rd_set hd.1, rd_set hd.2]
  case mn x y => simp only [core, Ze, rd_set hd.1, rd_set hd.2]
  case idx x y => simp only [core, Ze, rd_set hd.1, rd_set hd.2]
  case ssl x lo hi => simp only [core, Ze, rd_set hd.1.1, rdo_set hd.1.2, rdo_set hd.2]
  case vsl z x lo hi => simp only [core, Ze, rd_set hd.1.1, rdo_set hd.1.2, rdo_set hd.2]
  case ixa z x y => simp only [core, Ze, rd_set hd.1, rd_set hd.2]
  case fla o x => simp only [core, Ze, rd_set hd]
  case fld o s a x => simp only [core, Ze, rd_set hd]
  case ld s a x => simp only [core, Ze, rd_set hd]
  case ldl s a x => simp only [core, Ze, rd_set hd]
  case ext i x => simp only [core, Ze, rd_set hd]
  case bld z ps => simp only [core, Ze, bldP_set hd]
  case cvi k x => simp only [core, Ze, rd_set hd]
  case cvs x => simp only [core, Ze, rd_set hd]
  case b2s x => simp only [core, Ze, rd_set hd]
  case bsl z ps => simp only [core, Ze, bslP_set hd]
  case nck x => simp only [core, Ze, rd_set hd]
  case mpn x => simp only [core, Ze, rd_set hd]
  case mpl o z x y => simp only [core, Ze, rd_set hd.1, rd_set hd.2]
  case pcall n f args => simp only [core, argC_set hd, argV_set hd]

def sx (P : Program) (E : Envt) (Y : List PV) (fr : List AV) (L : Objs) (i : IOper) : Option (Prop × AV) :=
  match i.guard with
  | none => core P E Y fr L i.op
  | some (s, w) => match Zg fr s w with
    | some c0 => (match core P E Y fr L i.op with | some q => some (c0 = true → q.1, .g c0 q.2) | none => if plainOp i.op = true then some (c0 = false, .g c0 .any) else none)
    | none => none

theorem sx_setD {d : Option Nat} {r : AV} {i : IOper} {l : List Nat} (h : readsI i = some l) (hd : ∀ e, d = some e → e ∉ l) : sx P E Y (Zf fr d r) L i = sx P E Y fr L i := by
  cases d with
  | none => rfl
  | some d =>
    have hd := hd d rfl
    obtain ⟨l0, h1, rfl⟩ := Option.map_eq_some_iff.1 h
    simp only [List.mem_append, not_or] at hd
    unfold sx
    simp only [Zf]
    cases hg : i.guard with
    | none => simp only; exact core_set h1 hd.1
    | some q =>
      obtain ⟨s, w⟩ := q
      rw [hg] at hd
      simp only
      have : Zg (fr.set d r) s w = Zg fr s w := by
        unfold Zg
        rw [show (fr.set d r).getD s .any = fr.getD s .any from by simp only [List.getD]; rw [List.getElem?_set_ne (by simpa using hd.2)]]
      rw [this, core_set h1 hd.1]

theorem awpOps_sx {i : IOper} {is : List IOper} {K : List AV → Objs → Prop} (hr : (readsI i).isSome = true) : awpOps P E Y (i :: is) fr L K ↔ ∃ c r, sx P E Y fr L i = some (c, r) ∧ c ∧ awpOps P E Y is (Zf fr i.dst r) L K := by
  obtain ⟨d, op, gd⟩ := i
  have hA : (readsA op).isSome = true := by simpa [readsI] using hr
  cases gd with
  | none =>
    have key : ∀ q : Option (Prop × AV), (∃ c r, q = some (c, r) ∧ c ∧ awpOps P E Y is (Zf fr d r) L K) ↔ (match q with | some (c, r) => c ∧ awpOps P E Y is (Zf fr d r) L K | none => False) := by
      intro q
      cases q with
      | none => simp
      | some q =>
        obtain ⟨c, r⟩ := q
        simp only [Option.some.injEq, Prod.mk.injEq]
        exact ⟨fun ⟨_, _, ⟨rfl, rfl⟩, h1, h2⟩ => ⟨h1, h2⟩, fun ⟨h1, h2⟩ => ⟨_, _, ⟨rfl, rfl⟩, h1, h2⟩⟩
    have gen : ∀ op : IOp, awpOps P E Y (⟨d, op, none⟩ :: is) fr L K = (match Zd d fr L op with | some (c, fr', L') => c ∧ awpOps P E Y is fr' L' K | none => False) → Zd d fr L op = (Ze fr L op).map (fun q => (q.1, Zf fr d q.2, L)) → core P E Y fr L op = Ze fr L op → (awpOps P E Y (⟨d, op, none⟩ :: is) fr L K ↔ ∃ c r, sx P E Y fr L ⟨d, op, none⟩ = some (c, r) ∧ c ∧ awpOps P E Y is (Zf fr d r) L K) := by
      intro op h1 h2 h3
      rw [h1, h2]
      simp only [sx, h3]
      rw [key]
      cases Ze fr L op with
      | none => rfl
      | some q => rfl
    cases op <;> simp only [readsA, Option.isSome_some, Option.isSome_none, Bool.false_eq_true] at hA
    case pcall n f args =>
      simp only [awpOps, sx, core]
      rw [key]
    all_goals exact gen _ rfl rfl rfl
  | some sw =>
    obtain ⟨s, want⟩ := sw
    have gen : ∀ op : IOp, awpOps P E Y (⟨d, op, some (s, want)⟩ :: is) fr L K = (match Zg fr s want with | some c0 => (match Ze fr L op with | some (c, r) => (c0 = true → c) ∧ awpOps P E Y is (Zf fr d (.g c0 r)) L K | none => plainOp op = true ∧ c0 = false ∧ awpOps P E Y is (Zf fr d (.g c0 .any)) L K) | none => False) → core P E Y fr L op = Ze fr L op → (awpOps P E Y (⟨d, op, some (s, want)⟩ :: is) fr L K ↔ ∃ c r, sx P E Y fr L ⟨d, op, some (s, want)⟩ = some (c, r) ∧ c ∧ awpOps P E Y is (Zf fr d r) L K) := by
      intro op h1 h3
      rw [h1]
      simp only [sx, h3]
      cases Zg fr s want with
      | none => simp
      | some c0 =>
        cases Ze fr L op with
        | none =>
          cases hp : plainOp op with
          | false => simp
          | true =>
            simp only [if_true, Option.some.injEq, Prod.mk.injEq, true_and]
            exact ⟨fun ⟨h1, h2⟩ => ⟨_, _, ⟨rfl, rfl⟩, h1, h2⟩, fun ⟨_, _, ⟨rfl, rfl⟩, h1, h2⟩ => ⟨h1, h2⟩⟩
        | some q =>
          obtain ⟨c, r⟩ := q
          simp only [Option.some.injEq, Prod.mk.injEq]
          exact ⟨fun ⟨h1, h2⟩ => ⟨_, _, ⟨rfl, rfl⟩, h1, h2⟩, fun ⟨_, _, ⟨rfl, rfl⟩, h1, h2⟩ => ⟨h1, h2⟩⟩
    cases op <;> simp only [readsA, Option.isSome_some, Option.isSome_none, Bool.false_eq_true] at hA
    case pcall n f args =>
      simp only [awpOps, sx, core]
      cases Zg fr s want with
      | none => simp
      | some c0 =>
        simp only [Option.map_some, Option.some.injEq, Prod.mk.injEq]
        exact ⟨fun ⟨h1, h2⟩ => ⟨_, _, ⟨rfl, rfl⟩, h1, h2⟩, fun ⟨_, _, ⟨rfl, rfl⟩, h1, h2⟩ => ⟨h1, h2⟩⟩
    all_goals exact gen _ rfl rfl

theorem sepI_spec {x i : IOper} {rx ri : List Nat} (h : sepI x i rx ri = true) : (∀ d, x.dst = some d → d ∉ ri) ∧ (∀ d, i.dst = some d → d ∉ rx) ∧ (∀ d e, x.dst = some d → i.dst = some e → d ≠ e) := by
  simp only [sepI, Bool.and_eq_true] at h
  refine ⟨fun d hd => ?_, fun d hd => ?_, fun d e hd he => ?_⟩
  · have := h.1.1; rw [hd] at this; simpa using this
  · have := h.1.2; rw [hd] at this; simpa using this
  · have := h.2; rw [hd, he] at this; simpa using this
theorem isD_eq {i : IOper} {b : Bool} {l : List Nat} (h : isD i = some (b, l)) : ∃ d f args, i = ⟨d, .dcall b f args, none⟩ ∧ l = slotsL args := by
  unfold isD at h
  split at h
  · simp only [Option.some.injEq, Prod.mk.injEq] at h
    obtain ⟨rfl, rfl⟩ := h
    exact ⟨_, _, _, rfl, rfl⟩
  · cases h
theorem apartI_spec {x i : IOper} (h : apartI x i = true) :
    (∃ rx ri, readsI x = some rx ∧ readsI i = some ri ∧ sepI x i rx ri = true) ∨
    (∃ rx b d f args, readsI x = some rx ∧ i = ⟨d, .dcall b f args, none⟩ ∧ lfree b x.op = true ∧ sepI x i rx (slotsL args) = true) ∨
    (∃ ri b d f args, readsI i = some ri ∧ x = ⟨d, .dcall b f args, none⟩ ∧ lfree b i.op = true ∧ sepI x i (slotsL args) ri = true) := by
  unfold apartI at h
  split at h
  · rename_i rx ri h1 h2; exact .inl ⟨rx, ri, h1, h2, h⟩
  · rename_i rx h1 h2
    split at h
    · rename_i b l e
      obtain ⟨d, f, args, rfl, rfl⟩ := isD_eq e
      simp only [Bool.and_eq_true] at h
      exact .inr (.inl ⟨rx, b, d, f, args, h1, rfl, h.1, h.2⟩)
    · cases h
  · rename_i ri h1 h2
    split at h
    · rename_i b l e
      obtain ⟨d, f, args, rfl, rfl⟩ := isD_eq e
      simp only [Bool.and_eq_true] at h
      exact .inr (.inr ⟨ri, b, d, f, args, h2, rfl, h.1, h.2⟩)
    · cases h
  · cases h

theorem slOf_put {k : Key} {cs cs' : List AV} {t : TypeId} (hl : Zah L k = some (.box cs t)) (v : AV) : Zv (Zai L k (.box cs' t)) v = Zv L v := by
  cases v with
  | row k' =>
    simp only [Zv, look_putO]
    by_cases h : k' = k
    · subst h; simp [hl]
    · simp [h]
  | p x => cases x <;> rfl
  | _ => rfl
theorem core_put {b : Bool} {op : IOp} {k : Key} {cs cs' : List AV} {t : TypeId} (hf : lfree b op = true) (hr : (readsA op).isSome = true) (hl : Zah L k = some (.box cs t)) (hb : b = true → ∃ j, k = .b j) : core P E Y fr (Zai L k (.box cs' t)) op = core P E Y fr L op := by
  cases op <;> simp only [readsA, Option.isSome_some, Option.isSome_none, Bool.false_eq_true] at hr
  case ld => simp [lfree] at hf
  case pcall => simp [lfree] at hf
  case mpl => simp [lfree] at hf
  case mpn => simp [lfree] at hf
  case len x => simp only [core, Ze, slOf_put hl]
  case b2s x => simp only [core, Ze, slOf_put hl]
  case ixa z x y =>
    simp only [core, Ze]
    split
    · rfl
    · rename_i k' _ _ _ _ _
      rw [look_putO]
      by_cases h : k' = k
      · subst h; simp [hl]
      · simp [h]
    · rfl
  case ldl s a x =>
    simp only [lfree] at hf
    obtain ⟨j, rfl⟩ := hb hf
    simp only [core, Ze]
    split
    · rfl
    · rw [look_putO, if_neg (by simp)]
    · rfl
  all_goals rfl
theorem sx_put {b : Bool} {i : IOper} {k : Key} {cs cs' : List AV} {t : TypeId} (hf : lfree b i.op = true) (hr : (readsI i).isSome = true) (hl : Zah L k = some (.box cs t)) (hb : b = true → ∃ j, k = .b j) : sx P E Y fr (Zai L k (.box cs' t)) i = sx P E Y fr L i := by
  have hA : (readsA i.op).isSome = true := by simpa [readsI] using hr
  unfold sx
  split
  · exact core_put hf hA hl hb
  · rw [core_put hf hA hl hb]
theorem argC_setD {d : Option Nat} {r : AV} {ps : List Opd} (h : ∀ e, d = some e → e ∉ slotsL ps) : Zl (Zf fr d r) ps = Zl fr ps := by
  cases d with
  | none => rfl
  | some e => exact argC_set (h e rfl)
theorem argV_setD {d : Option Nat} {r : AV} {ps : List Opd} (h : ∀ e, d = some e → e ∉ slotsL ps) : Zm (Zf fr d r) ps = Zm fr ps := by
  cases d with
  | none => rfl
  | some e => exact argV_set (h e rfl)

theorem setD_comm {d e : Option Nat} {r q : AV} (h : ∀ a b, d = some a → e = some b → a ≠ b) : Zf (Zf fr d r) e q = Zf (Zf fr e q) d r := by
  cases d with
  | none => rfl
  | some d => cases e with
    | none => rfl
    | some e => simp only [Zf]; rw [List.set_comm _ _ (h d e rfl rfl)]

theorem commute1 {x i : IOper} {is : List IOper} {K : List AV → Objs → Prop} (ha : apartI x i = true) (h : awpOps P E Y (x :: i :: is) fr L K) : awpOps P E Y (i :: x :: is) fr L K := by
  rcases apartI_spec ha with ⟨rx, ri, h1, h2, hs⟩ | ⟨rx, b, d, f, args, h1, rfl, hf, hs⟩ | ⟨ri, b, d, f, args, h2, rfl, hf, hs⟩
  · obtain ⟨h3, h4, h5⟩ := sepI_spec hs
    rw [awpOps_sx (by rw [h1]; rfl)] at h
    obtain ⟨c, r, e1, hc, h⟩ := h
    rw [awpOps_sx (by rw [h2]; rfl)] at h
    obtain ⟨c2, r2, e2, hc2, h⟩ := h
    rw [sx_setD h2 h3] at e2
    rw [awpOps_sx (by rw [h2]; rfl)]
    refine ⟨c2, r2, e2, hc2, ?_⟩
    rw [awpOps_sx (by rw [h1]; rfl)]
    refine ⟨c, r, by rw [sx_setD h1 h4]; exact e1, hc, ?_⟩
    rwa [setD_comm (fun a b ha hb => Ne.symm (h5 b a hb ha))]
  · obtain ⟨h3, h4, h5⟩ := sepI_spec hs
    rw [awpOps_sx (by rw [h1]; rfl)] at h
    obtain ⟨c, r, e1, hc, h⟩ := h
    simp only [awpOps] at h
    obtain ⟨hA, k, t, cs, post, g1, g2, g3, g4, g5, g6⟩ := h
    rw [argC_setD h3] at hA
    rw [argV_setD h3] at g1
    simp only [awpOps]
    refine ⟨hA, k, t, cs, post, g1, g2, g3, g4, g5, fun y cs' hp => ?_⟩
    show awpOps P E Y (x :: is) _ _ K
    rw [awpOps_sx (by rw [h1]; rfl)]
    refine ⟨c, r, ?_, hc, ?_⟩
    · rw [sx_put hf (by rw [h1]; rfl) g2 g4, sx_setD h1 h4]; exact e1
    · rw [setD_comm (fun a b ha hb => Ne.symm (h5 b a hb ha))]
      exact g6 y cs' hp
  · obtain ⟨h3, h4, h5⟩ := sepI_spec hs
    simp only [awpOps] at h
    obtain ⟨hA, k, t, cs, post, g1, g2, g3, g4, ⟨y0, cs0, hp0⟩, g6⟩ := h
    have hn := g6 y0 cs0 hp0
    change awpOps P E Y (i :: is) _ _ K at hn
    rw [awpOps_sx (by rw [h2]; rfl)] at hn
    obtain ⟨c, r, e1, hc, _⟩ := hn
    rw [sx_put hf (by rw [h2]; rfl) g2 g4, sx_setD h2 h3] at e1
    rw [awpOps_sx (by rw [h2]; rfl)]
    refine ⟨c, r, e1, hc, ?_⟩
    simp only [awpOps]
    refine ⟨by rw [argC_setD h4]; exact hA, k, t, cs, post, by rw [argV_setD h4]; exact g1, g2, g3, g4, ⟨y0, cs0, hp0⟩, fun y cs' hp => ?_⟩
    have hn := g6 y cs' hp
    change awpOps P E Y (i :: is) _ _ K at hn
    rw [awpOps_sx (by rw [h2]; rfl)] at hn
    obtain ⟨c', r', e', _, hk⟩ := hn
    rw [sx_put hf (by rw [h2]; rfl) g2 g4, sx_setD h2 h3, e1] at e'
    cases e'
    rw [setD_comm (fun a b ha hb => Ne.symm (h5 b a hb ha))]
    exact hk

theorem awpOps_cons {i : IOper} {is js : List IOper} {K : List AV → Objs → Prop} (hr : (readsI i).isSome = true ∨ ∃ b d f args, i = ⟨d, .dcall b f args, none⟩) (h : awpOps P E Y (i :: is) fr L K) (hk : ∀ fr L, awpOps P E Y is fr L K → awpOps P E Y js fr L K) : awpOps P E Y (i :: js) fr L K := by
  rcases hr with hr | ⟨b, d, f, args, rfl⟩
  · rw [awpOps_sx hr] at h ⊢
    obtain ⟨c, r, e1, hc, h⟩ := h
    exact ⟨c, r, e1, hc, hk _ _ h⟩
  · simp only [awpOps] at h ⊢
    obtain ⟨hA, k, t, cs, post, g1, g2, g3, g4, g5, g6⟩ := h
    exact ⟨hA, k, t, cs, post, g1, g2, g3, g4, g5, fun y cs' hp => hk _ _ (g6 y cs' hp)⟩

theorem moveFront {i : IOper} {post : List IOper} {K : List AV → Objs → Prop} : ∀ (pre : List IOper) (fr : List AV) (L : Objs), (∀ x ∈ pre, apartI x i = true) → awpOps P E Y (pre ++ i :: post) fr L K → awpOps P E Y (i :: (pre ++ post)) fr L K := by
  intro pre
  induction pre with
  | nil => intro fr L _ h; exact h
  | cons x pre ih =>
    intro fr L ha h
    have hx := ha x (by simp)
    have hr : (readsI x).isSome = true ∨ ∃ b d f args, x = ⟨d, .dcall b f args, none⟩ := by
      rcases apartI_spec hx with ⟨rx, ri, h1, _⟩ | ⟨rx, b, d, f, args, h1, _⟩ | ⟨ri, b, d, f, args, _, h1, _⟩
      · exact .inl (by rw [h1]; rfl)
      · exact .inl (by rw [h1]; rfl)
      · exact .inr ⟨b, d, f, args, h1⟩
    have h' : awpOps P E Y (x :: i :: (pre ++ post)) fr L K := awpOps_cons hr h (fun fr L h => ih fr L (fun y hy => ha y (by simp [hy])) h)
    exact commute1 hx h'

/-- The edges that bind in any order. -/
def edgesB (o : Oper) : List Nat := (o.after.toList.filter fun e => Region.binds .any e).map (·.on)

/-- j must come before i: by edges. -/
def ancB (ops : Array Oper) : Nat → Nat → Nat → Bool
  | 0, _, _ => false
  | n + 1, i, j => match ops[i]? with
    | some o => (edgesB o).any fun e => e == j || ancB ops n e j
    | none => false

def pairsOk (ops : Array Oper) (n : Nat) (i : Nat) (ii : IOper) : List (Nat × IOper) → Bool
  | [] => true
  | (j, jj) :: r => (apartI jj ii || ancB ops n i j) && pairsOk ops n i ii r

def allOk (ops : Array Oper) (n : Nat) : List (Nat × IOper) → List (Nat × IOper) → Bool
  | _, [] => true
  | seen, (i, ii) :: r => pairsOk ops n i ii seen && allOk ops n (seen ++ [(i, ii)]) r

def dropFz : List IOper → List IOper
  | [] => []
  | i :: is => if isFz i then dropFz is else i :: is

/-- The check for a region that draws its order. -/
def okDraw (ops : Array Oper) (is : List IOper) : Bool :=
  let js := dropFz is
  js.all (fun i => !isFz i) && js.length == ops.size && allOk ops ops.size [] ((List.range js.length).zip js) &&
  (List.range ops.size).all fun i => match ops[i]? with | some o => (edgesB o).all fun e => decide (e < i) | none => true
end
end Go.Proofs.YtpddiepfolfnoaaDoor

/- Regions that draw their order: the theorem. -/
namespace Go.Proofs.YtpddiepfolfnoaaDoor
set_option linter.unusedVariables false
set_option linter.unusedSimpArgs false
set_option linter.defProp false

section
variable {P : Program} {E : Envt} {Y : List PV} {B : Base}

theorem chkOps_get {ops : Array Oper} : ∀ {js : List IOper} {os : List Oper}, chkOps P ops os js = true → (∀ i ∈ js, isFz i = false) → js.length = os.length ∧ ∀ (k : Nat) (i : IOper), js[k]? = some i → ∃ o, os[k]? = some o ∧ chkOper P ops o i = true := by
  intro js
  induction js with
  | nil => intro os h _; simp only [chkOps, List.isEmpty_iff] at h; subst h; simp
  | cons i js ih =>
    intro os h hf
    simp only [chkOps] at h
    rw [if_neg (by simp [hf i (by simp)])] at h
    split at h
    · rename_i o os'
      simp only [Bool.and_eq_true] at h
      obtain ⟨h1, h2⟩ := ih h.2 (fun j hj => hf j (by simp [hj]))
      refine ⟨by simp [h1], fun k x hx => ?_⟩
      cases k with
      | zero => simp at hx; subst hx; exact ⟨o, rfl, h.1⟩
      | succ k => simp at hx; simpa using h2 k x hx
    · cases h

theorem pairsOk_mem {ops : Array Oper} {n i : Nat} {ii : IOper} : ∀ {l : List (Nat × IOper)}, pairsOk ops n i ii l = true → ∀ y ∈ l, apartI y.2 ii = true ∨ ancB ops n i y.1 = true := by
  intro l
  induction l with
  | nil => intro _ y hy; cases hy
  | cons q l ih =>
    intro h y hy
    obtain ⟨j, jj⟩ := q
    simp only [pairsOk, Bool.and_eq_true, Bool.or_eq_true] at h
    simp only [List.mem_cons] at hy
    rcases hy with rfl | hy
    · exact h.1
    · exact ih h.2 y hy
theorem allOk_get {ops : Array Oper} {n : Nat} : ∀ {l seen : List (Nat × IOper)}, allOk ops n seen l = true → ∀ (pre : List (Nat × IOper)) (x : Nat × IOper) (post : List (Nat × IOper)), l = pre ++ x :: post → ∀ y ∈ seen ++ pre, apartI y.2 x.2 = true ∨ ancB ops n x.1 y.1 = true := by
  intro l
  induction l with
  | nil => intro seen _ pre x post h; cases pre <;> cases h
  | cons q l ih =>
    intro seen h pre x post e y hy
    obtain ⟨i, ii⟩ := q
    simp only [allOk, Bool.and_eq_true] at h
    cases pre with
    | nil =>
      simp only [List.nil_append, List.cons.injEq] at e
      obtain ⟨rfl, rfl⟩ := e
      exact pairsOk_mem h.1 y (by simpa using hy)
    | cons p pre =>
      simp only [List.cons_append, List.cons.injEq] at e
      obtain ⟨rfl, rfl⟩ := e
      exact ih h.2 pre x post rfl y (by simpa using hy)

/-- What has been done is closed under what had to be done before. -/
def ClosedL (ops : Array Oper) (listed : Array Bool) : Prop := ∀ (i : Nat) (o : Oper), ops[i]? = some o → listed.getD i false = true → ∀ e ∈ edgesB o, listed.getD e false = true

theorem anc_listed {ops : Array Oper} {listed : Array Bool} (hc : ClosedL ops listed) : ∀ (n i j : Nat) (o : Oper), ops[i]? = some o → (∀ e ∈ edgesB o, listed.getD e false = true) → ancB ops n i j = true → listed.getD j false = true := by
  intro n
  induction n with
  | zero => intro i j o _ _ h; simp [ancB] at h
  | succ n ih =>
    intro i j o ho he h
    simp only [ancB, ho, List.any_eq_true, Bool.or_eq_true, beq_iff_eq] at h
    obtain ⟨e, h1, h2⟩ := h
    rcases h2 with rfl | h2
    · exact he e h1
    · cases hoe : ops[e]? with
      | none => cases n <;> simp [ancB, hoe] at h2
      | some oe => exact ih e j oe hoe (hc e oe hoe (he e h1)) h2

theorem mem_ready {ops : Array Oper} {listed : Array Bool} {i : Nat} : i ∈ Region.ready .any ops listed ↔ ∃ o, ops[i]? = some o ∧ listed.getD i true = false ∧ ∀ e ∈ edgesB o, listed.getD e false = true := by
  simp only [Region.ready, List.mem_filter, List.mem_range, Bool.and_eq_true, Bool.not_eq_true']
  constructor
  · rintro ⟨h1, h2, h3⟩
    obtain ⟨o, ho⟩ : ∃ o, ops[i]? = some o := ⟨_, Array.getElem?_eq_getElem h1⟩
    refine ⟨o, ho, h2, fun e he => ?_⟩
    rw [ho] at h3
    simp only [Option.map_some, Option.getD_some, Array.all_eq_true'] at h3
    simp only [edgesB, List.mem_map, List.mem_filter] at he
    obtain ⟨ed, ⟨h4, h5⟩, rfl⟩ := he
    have := h3 ed (by simpa using h4)
    simpa [h5] using this
  · rintro ⟨o, ho, h2, h3⟩
    refine ⟨(Array.getElem?_eq_some_iff.1 ho).1, h2, ?_⟩
    rw [ho]
    simp only [Option.map_some, Option.getD_some, Array.all_eq_true']
    intro ed hed
    cases hb : Region.binds .any ed with
    | false => simp
    | true => simp only [Bool.not_true, Bool.false_or]; exact h3 _ (by simp only [edgesB, List.mem_map, List.mem_filter]; exact ⟨ed, ⟨by simpa using hed, hb⟩, rfl⟩)

def unl (listed : Array Bool) (p : Nat × IOper) : Bool := !listed.getD p.1 true

theorem any_ok {ops : Array Oper} {js : List IOper} {K : List AV → Objs → Prop} {Q : Exit → Act → World → Prop} (hK : ∀ fr L ι a w, K fr L → StF E B w L ι fr a → Q .normal a w) (hjs : js.length = ops.size)
    (hget : ∀ (k : Nat) (i : IOper), js[k]? = some i → ∃ o, ops[k]? = some o ∧ chkOper P ops o i = true) (hfz : ∀ i ∈ js, isFz i = false) (hall : allOk ops ops.size [] ((List.range js.length).zip js) = true)
    (hedge : ∀ (i : Nat) (o : Oper), ops[i]? = some o → ∀ e ∈ edgesB o, e < i) :
    ∀ (fuel : Nat) (listed : Array Bool) (fr : List AV) (L : Objs) (ι : Key → Value) (a : Act) (w : World), listed.size = ops.size → ClosedL ops listed → fuel = (((List.range js.length).zip js).filter (unl listed)).length →
      awpOps P E Y ((((List.range js.length).zip js).filter (unl listed)).map (·.2)) fr L K → StF E B w L ι fr a → wpAny P .any ops Q fuel listed a w := by
  intro fuel
  have zget : ∀ (k : Nat) (x : IOper), js[k]? = some x → ((List.range js.length).zip js)[k]? = some (k, x) := by
    intro k x hk
    rw [List.getElem?_zip_eq_some]
    exact ⟨by rw [List.getElem?_range (List.getElem?_eq_some_iff.1 hk).1], hk⟩
  have zmem : ∀ (p : Nat × IOper), p ∈ (List.range js.length).zip js → p.1 < js.length ∧ js[p.1]? = some p.2 := by
    intro p hp
    obtain ⟨k, hk⟩ := List.getElem?_of_mem hp
    rw [List.getElem?_zip_eq_some] at hk
    obtain ⟨h1, h2⟩ := hk
    rw [List.getElem?_range (by have := (List.getElem?_eq_some_iff.1 h2).1; exact this)] at h1
    cases h1
    exact ⟨(List.getElem?_eq_some_iff.1 h2).1, h2⟩
  induction fuel with
  | zero =>
    intro listed fr L ι a w hsz hcl hf h hs
    have hnil : ((List.range js.length).zip js).filter (unl listed) = [] := List.eq_nil_of_length_eq_zero hf.symm
    rw [hnil] at h
    refine ⟨?_, hK fr L ι a w h hs⟩
    refine List.eq_nil_iff_forall_not_mem.2 fun i hi => ?_
    obtain ⟨o, ho, h2, _⟩ := mem_ready.1 hi
    have hlt : i < js.length := by rw [hjs]; exact (Array.getElem?_eq_some_iff.1 ho).1
    have : (i, js[i]) ∈ ((List.range js.length).zip js).filter (unl listed) := by
      simp only [List.mem_filter]
      exact ⟨List.mem_of_getElem? (zget i _ (List.getElem?_eq_getElem hlt)), by simp [unl, h2]⟩
    rw [hnil] at this
    cases this
  | succ fuel ih =>
    intro listed fr L ι a w hsz hcl hf h hs
    have hready : Region.ready .any ops listed ≠ [] := by
      intro hnil
      cases hrem : ((List.range js.length).zip js).filter (unl listed) with
      | nil => rw [hrem] at hf; simp at hf
      | cons p rest =>
        have hp : p ∈ ((List.range js.length).zip js).filter (unl listed) := by rw [hrem]; simp
        -- the least one that is not listed
        have hex : ∃ i, i < js.length ∧ listed.getD i true = false ∧ ∀ j, j < i → listed.getD j true = true := by
          obtain ⟨h1, h2⟩ := List.mem_filter.1 hp
          have hp1 := (zmem p h1).1
          have hpu : listed.getD p.1 true = false := by simpa [unl] using h2
          have : ∀ m i, i ≤ m → i < js.length → listed.getD i true = false → ∃ i, i < js.length ∧ listed.getD i true = false ∧ ∀ j, j < i → listed.getD j true = true := by
            intro m
            induction m with
            | zero => intro i hi h1 h2; exact ⟨i, h1, h2, fun j hj => by omega⟩
            | succ m ihm =>
              intro i hi h1 h2
              by_cases hex : ∃ j, j < i ∧ listed.getD j true = false
              · obtain ⟨j, hj1, hj2⟩ := hex
                exact ihm j (by omega) (by omega) hj2
              · refine ⟨i, h1, h2, fun j hj => ?_⟩
                cases hq : listed.getD j true with
                | true => rfl
                | false => exact absurd ⟨j, hj, hq⟩ hex
          exact this p.1 p.1 (Nat.le_refl _) hp1 hpu
        obtain ⟨i, hi1, hi2, hi3⟩ := hex
        obtain ⟨o, ho, _⟩ := hget i _ (List.getElem?_eq_getElem hi1)
        have : i ∈ Region.ready .any ops listed := mem_ready.2 ⟨o, ho, hi2, fun e he => by
          have hlt := hedge i o ho e he
          have := hi3 e hlt
          have hes : e < listed.size := by rw [hsz, ← hjs]; omega
          simp only [Array.getD, hes, dite_true] at this ⊢
          exact this⟩
        rw [hnil] at this
        cases this
    refine ⟨fun hn => absurd hn hready, fun i hi => ?_⟩
    obtain ⟨o, ho, hun, hed⟩ := mem_ready.1 hi
    have hlt : i < js.length := by rw [hjs]; exact (Array.getElem?_eq_some_iff.1 ho).1
    have hil : i < listed.size := by rw [hsz, ← hjs]; exact hlt
    obtain ⟨ii, hii⟩ : ∃ ii, js[i]? = some ii := ⟨_, List.getElem?_eq_getElem hlt⟩
    have hsplit : (List.range js.length).zip js = ((List.range js.length).zip js).take i ++ (i, ii) :: ((List.range js.length).zip js).drop (i + 1) := by
      have hzl : ((List.range js.length).zip js).length = js.length := by simp
      have e : ((List.range js.length).zip js)[i]? = some (i, ii) := by
        rw [List.getElem?_zip_eq_some]
        exact ⟨by rw [List.getElem?_range hlt], hii⟩
      rw [List.getElem?_eq_some_iff] at e
      obtain ⟨h1, h2⟩ := e
      rw [← h2, ← List.drop_eq_getElem_cons h1, List.take_append_drop]
    have hpre : ∀ p ∈ ((List.range js.length).zip js).take i, p.1 < i := by
      intro p hp
      obtain ⟨k, hk⟩ := List.getElem?_of_mem hp
      rw [List.getElem?_take] at hk
      split at hk
      · rename_i hki
        rw [List.getElem?_zip_eq_some] at hk
        rw [List.getElem?_range (by omega)] at hk
        cases hk.1
        exact hki
      · cases hk
    have hpost : ∀ p ∈ ((List.range js.length).zip js).drop (i + 1), i < p.1 := by
      intro p hp
      obtain ⟨k, hk⟩ := List.getElem?_of_mem hp
      rw [List.getElem?_drop, List.getElem?_zip_eq_some] at hk
      have hkl := (List.getElem?_eq_some_iff.1 hk.2).1
      rw [List.getElem?_range hkl] at hk
      have := Option.some.inj hk.1
      omega
    have hunl : unl listed (i, ii) = true := by simp [unl, hun]
    have hfil : ((List.range js.length).zip js).filter (unl listed) = (((List.range js.length).zip js).take i).filter (unl listed) ++ (i, ii) :: (((List.range js.length).zip js).drop (i + 1)).filter (unl listed) := by
      conv => lhs; rw [hsplit]
      rw [List.filter_append, List.filter_cons_of_pos hunl]
    have hgd : ∀ j, j ≠ i → (listed.setIfInBounds i true).getD j true = listed.getD j true := by
      intro j hj
      rw [Array.getD_eq_getD_getElem?, Array.getD_eq_getD_getElem?, Array.getElem?_setIfInBounds_ne (Ne.symm hj)]
    have hself : ∀ b, (listed.setIfInBounds i true).getD i b = true := by
      intro b
      rw [Array.getD_eq_getD_getElem?, Array.getElem?_setIfInBounds_self_of_lt hil]
      rfl
    have hfil' : ((List.range js.length).zip js).filter (unl (listed.setIfInBounds i true)) = (((List.range js.length).zip js).take i).filter (unl listed) ++ (((List.range js.length).zip js).drop (i + 1)).filter (unl listed) := by
      conv => lhs; rw [hsplit]
      rw [List.filter_append, List.filter_cons_of_neg (by simp [unl, hself])]
      congr 1
      · refine List.filter_congr fun p hp => ?_
        have := hpre p hp
        simp only [unl, hgd p.1 (by omega)]
      · refine List.filter_congr fun p hp => ?_
        have := hpost p hp
        simp only [unl, hgd p.1 (by omega)]
    have hap : ∀ x ∈ ((((List.range js.length).zip js).take i).filter (unl listed)).map (·.2), apartI x ii = true := by
      intro x hx
      obtain ⟨p, hp, rfl⟩ := List.mem_map.1 hx
      obtain ⟨hp1, hp2⟩ := List.mem_filter.1 hp
      rcases allOk_get hall _ _ _ hsplit p (by simpa using hp1) with h' | h'
      · exact h'
      · have := anc_listed hcl _ i p.1 o ho hed h'
        have hpl : p.1 < listed.size := by have := hpre p hp1; omega
        simp only [unl, Array.getD, hpl, dite_true] at hp2 this
        rw [this] at hp2
        cases hp2
    rw [hfil] at h hf
    simp only [List.map_append, List.map_cons] at h
    have hfront := moveFront _ fr L hap h
    have hfi : isFz ii = false := hfz ii (List.mem_of_getElem? hii)
    obtain ⟨o', ho', hchk⟩ := hget i ii hii
    rw [ho] at ho'
    cases ho'
    have hstep := oper_sound (next := wpAny P .any ops Q fuel (listed.setIfInBounds i true)) (Q := Q) hchk hfi hfront hs (fun fr' L' ι' a' w' h' hs' => by
      refine ih (listed.setIfInBounds i true) fr' L' ι' a' w' (by simpa using hsz) ?_ ?_ ?_ hs'
      · intro k q hq hk e he
        by_cases hki : k = i
        · subst hki
          rw [ho] at hq
          cases hq
          by_cases hei : e = k
          · subst hei; exact hself _
          · have := hed e he
            rw [Array.getD_eq_getD_getElem?, Array.getElem?_setIfInBounds_ne (Ne.symm hei), ← Array.getD_eq_getD_getElem?]
            exact this
        · rw [Array.getD_eq_getD_getElem?, Array.getElem?_setIfInBounds_ne (Ne.symm hki), ← Array.getD_eq_getD_getElem?] at hk
          have := hcl k q hq hk e he
          by_cases hei : e = i
          · subst hei; exact hself _
          · rw [Array.getD_eq_getD_getElem?, Array.getElem?_setIfInBounds_ne (Ne.symm hei), ← Array.getD_eq_getD_getElem?]
            exact this
      · rw [hfil']
        simp only [List.length_append, List.length_cons] at hf ⊢
        omega
      · rw [hfil', List.map_append]
        exact h')
    unfold wpOp
    rw [ho]
    simp only
    by_cases hw : Region.wanted o (yielded ops a.tmps) = true
    · rw [if_pos hw] at hstep ⊢
      exact .inl hstep
    · rw [if_neg hw] at hstep ⊢
      exact hstep

theorem awpOps_drop {ops : Array Oper} {K : List AV → Objs → Prop} : ∀ (is : List IOper) (fr : List AV) (L : Objs) (ι : Key → Value) (a : Act) (w : World) (os : List Oper), chkOps P ops os is = true → awpOps P E Y is fr L K → StF E B w L ι fr a → chkOps P ops os (dropFz is) = true ∧ ∃ fr' L', awpOps P E Y (dropFz is) fr' L' K ∧ StF E B w L' ι fr' a := by
  intro is
  induction is with
  | nil => intro fr L ι a w os hc h hs; exact ⟨hc, fr, L, h, hs⟩
  | cons i is ih =>
    intro fr L ι a w os hc h hs
    simp only [dropFz]
    by_cases hf : isFz i = true
    · rw [if_pos hf]
      simp only [chkOps] at hc
      rw [if_pos hf] at hc
      obtain ⟨x, rfl⟩ := isFz_eq hf
      obtain ⟨fr', L', h', hs'⟩ := awpOps_fz h hs
      exact ih fr' L' ι a w os hc h' hs'
    · rw [if_neg hf]
      exact ⟨hc, fr, L, h, hs⟩

theorem drawOk (hm : P.follows .mixedOrders = true) : DrawOk P okDraw := by
  intro E B Y ops is id fr L ι a w K Q hK hc hD h hs
  obtain ⟨hc', fr', L', h', hs'⟩ := awpOps_drop is fr L ι a w ops.toList hc h hs
  simp only [okDraw, Bool.and_eq_true, beq_iff_eq, List.all_eq_true, Bool.not_eq_true'] at hD
  obtain ⟨⟨⟨h1, h2⟩, h3⟩, h4⟩ := hD
  generalize dropFz is = js at *
  obtain ⟨g1, g2⟩ := chkOps_get hc' (fun i hi => h1 i hi)
  refine wp_region_any hm ?_
  have hs'' : StF E B { w with drawn := w.drawn + 1 } L' ι fr' a := hs'.grown ⟨rfl, rfl, rfl, Nat.le_refl _, fun _ _ _ => rfl⟩
  have hrep : ∀ j, (Array.replicate ops.size false).getD j true = false ↔ j < ops.size := by
    intro j
    by_cases hj : j < ops.size <;> simp [Array.getD, hj]
  have hfil : ((List.range js.length).zip js).filter (unl (Array.replicate ops.size false)) = (List.range js.length).zip js := by
    refine List.filter_eq_self.2 fun p hp => ?_
    obtain ⟨k, hk⟩ := List.getElem?_of_mem hp
    rw [List.getElem?_zip_eq_some] at hk
    have hkl := (List.getElem?_eq_some_iff.1 hk.2).1
    rw [List.getElem?_range hkl] at hk
    cases hk.1
    simp only [unl, (hrep p.1).2 (by rw [← h2]; exact hkl), Bool.not_false]
  refine any_ok (Y := Y) (js := js) hK h2 (fun k i hk => ?_) (fun i hi => h1 i hi) h3 (fun i o ho e he => ?_) ops.size (Array.replicate ops.size false) fr' L' ι a _ (by simp) ?_ ?_ ?_ hs''
  · obtain ⟨o, ho, hh⟩ := g2 k i hk
    exact ⟨o, by simpa using ho, hh⟩
  · have hlt : i < ops.size := (Array.getElem?_eq_some_iff.1 ho).1
    have := h4 i (by simpa using hlt)
    rw [ho] at this
    simp only [List.all_eq_true, decide_eq_true_eq] at this
    exact this e he
  · intro k q hq hk
    by_cases hj : k < ops.size <;> simp [Array.getD, hj] at hk
  · rw [hfil]; simp [h2]
  · rw [hfil]
    have : ((List.range js.length).zip js).map (·.2) = js := by
      rw [← List.unzip_snd, List.unzip_zip (by simp)]
    rw [this]
    exact h'
end
end Go.Proofs.YtpddiepfolfnoaaDoor

/- Rules for reckoning with awp, and contracts used at calls. -/
namespace Go.Proofs.YtpddiepfolfnoaaDoor
set_option linter.unusedVariables false
set_option linter.unusedSimpArgs false
set_option linter.defProp false

def chkF (P : Program) (fn : Func) (ic : IC) (rs : List IRes) (n : Nat) : Bool :=
  match fn.body with
  | some c => chkC P okDraw ic c && okResL P fn.results.toList rs && fn.ntmps == n
  | none => false

section
variable {P : Program} {E : Envt}

theorem pcallF (hm : P.follows .mixedOrders = true) {f : FuncId} {fn : Func} {ic : IC} {rs : List IRes} {args : List PV} {n : Nat} {φ : PV → Prop} (hf : P.funcs[f]? = some fn) (hc : chkF P fn ic rs n = true)
    (h : awp P E ic (args.map .p ++ List.replicate (n - args.length) .any) [] (retQ rs fun x _ => φ x)) : PCall P E f args φ := by
  unfold chkF at hc
  split at hc
  · rename_i c hb
    simp only [Bool.and_eq_true, beq_iff_eq] at hc
    exact pcall_of_awp (drawOk hm) hf hb hc.2 hc.1.1 hc.1.2 h
  · cases hc

def thenC (P : Program) (E : Envt) (y : IC) (Q : AQ) : AQ := thenQ (fun fr L => awp P E y fr L Q) Q
def BrC (P : Program) (E : Envt) (b : Bool) (x y : IC) (fr : List AV) (L : Objs) (Q : AQ) : Prop := BrQ b (awp P E x fr L Q) (awp P E y fr L Q)
def LoopC (P : Program) (E : Envt) (x : IC) (fr : List AV) (L : Objs) (Q : AQ) : Prop := awp P E (.loop x) fr L Q
def DrgC (P : Program) (E : Envt) (ops : List IOper) (fr : List AV) (L : Objs) (K : List AV → Objs → Prop) : Prop := ∃ X, awpOps P E X ops fr L K
def contO (P : Program) (E : Envt) (X : List PV) (is : List IOper) (K : List AV → Objs → Prop) : List AV → Objs → Prop := fun fr L => awpOps P E X is fr L K
def EndR (I : Nat → List AV → Objs → Prop) (n : Nat) (fr : List AV) (L : Objs) : Prop := ∃ m fr' L', m < n ∧ Za fr fr' ∧ Zc L' L ∧ I m fr' L'
def roundQ (I : Nat → List AV → Objs → Prop) (n : Nat) (Q : AQ) : AQ := thenQ (EndR I n) Q
def CutC (P : Program) (E : Envt) (x : IC) (fr : List AV) (L : Objs) (Q : AQ) : Prop := ∃ fr' L', Za fr fr' ∧ Zc L' L ∧ awp P E x fr' L' Q
def MidK (M : List AV → Objs → Prop) (fr : List AV) (L : Objs) : Prop := ∃ fr' L', Za fr fr' ∧ Zc L' L ∧ M fr' L'
def midQ (M : List AV → Objs → Prop) (Q : AQ) : AQ := thenQ (MidK M) Q

variable {fr : List AV} {L : Objs} {Q : AQ} {X : List PV} {K : List AV → Objs → Prop}
theorem awp_skip : awp P E .skip fr L Q = Q .normal fr L := rfl
theorem awp_exit {i : Nat} : awp P E (.exit i) fr L Q = Q (.exit i) fr L := rfl
theorem awp_ret : awp P E .ret fr L Q = Q .ret fr L := rfl
theorem awp_seq {x y : IC} : awp P E (.seq x y) fr L Q = awp P E x fr L (thenC P E y Q) := rfl
theorem awp_block {i : Nat} {x : IC} : awp P E (.block i x) fr L Q = awp P E x fr L (blockQ i Q) := rfl
theorem awp_reg {ops : List IOper} : awp P E (.reg ops) fr L Q = awpOps P E [] ops fr L (Q .normal) := rfl
theorem awp_drg {ops : List IOper} : awp P E (.drg ops) fr L Q = DrgC P E ops fr L (Q .normal) := rfl
theorem awp_loop {x : IC} : awp P E (.loop x) fr L Q = LoopC P E x fr L Q := rfl
theorem awp_cond {c : Opd} {x y : IC} : awp P E (.cond c x y) fr L Q = (match rd fr c with | .p (.bool b) => BrC P E b x y fr L Q | _ => False) := rfl
theorem thenC_n {y : IC} : thenC P E y Q .normal fr L = awp P E y fr L Q := rfl
theorem thenC_r {y : IC} : thenC P E y Q .ret fr L = Q .ret fr L := rfl
theorem thenC_e {y : IC} {i : Nat} : thenC P E y Q (.exit i) fr L = Q (.exit i) fr L := rfl
theorem blockQ_n {i : Nat} : blockQ i Q .normal fr L = Q .normal fr L := rfl
theorem blockQ_r {i : Nat} : blockQ i Q .ret fr L = Q .ret fr L := rfl
theorem blockQ_e {i j : Nat} : blockQ i Q (.exit j) fr L = if j = i then Q .normal fr L else Q (.exit j) fr L := rfl
theorem roundQ_n {I : Nat → List AV → Objs → Prop} {n : Nat} : roundQ I n Q .normal fr L = EndR I n fr L := rfl
theorem awp_cut {x : IC} : awp P E (.cut x) fr L Q = CutC P E x fr L Q := rfl
theorem midQ_n {M : List AV → Objs → Prop} : midQ M Q .normal fr L = MidK M fr L := rfl
theorem midQ_r {M : List AV → Objs → Prop} : midQ M Q .ret fr L = Q .ret fr L := rfl
theorem midQ_e {M : List AV → Objs → Prop} {i : Nat} : midQ M Q (.exit i) fr L = Q (.exit i) fr L := rfl
theorem roundQ_r {I : Nat → List AV → Objs → Prop} {n : Nat} : roundQ I n Q .ret fr L = Q .ret fr L := rfl
theorem roundQ_e {I : Nat → List AV → Objs → Prop} {n i : Nat} : roundQ I n Q (.exit i) fr L = Q (.exit i) fr L := rfl
theorem retQ_r {rs : List IRes} {φ : PV → Objs → Prop} : retQ rs φ .ret fr L = RetK (Zam fr L rs) φ L := rfl
theorem retQ_n {rs : List IRes} {φ : PV → Objs → Prop} : retQ rs φ .normal fr L = RetK (Zam fr L rs) φ L := rfl
theorem BrC_true {x y : IC} : BrC P E true x y fr L Q = awp P E x fr L Q := by simp [BrC, BrQ]
theorem BrC_false {x y : IC} : BrC P E false x y fr L Q = awp P E y fr L Q := by simp [BrC, BrQ]
theorem br {b : Bool} {x y : IC} (h1 : b = true → awp P E x fr L Q) (h2 : b = false → awp P E y fr L Q) : BrC P E b x y fr L Q := ⟨h1, h2⟩
theorem loop_intro {x : IC} (I : Nat → List AV → Objs → Prop) (n : Nat) (fr' : List AV) (L' : Objs) (h1 : Za fr fr') (h2 : Zc L' L) (h0 : I n fr' L') (hr : ∀ n fr L, I n fr L → awp P E x fr L (roundQ I n Q)) : LoopC P E x fr L Q := ⟨I, ⟨n, fr', L', h1, h2, h0⟩, hr⟩
theorem end_round {I : Nat → List AV → Objs → Prop} {n : Nat} (m : Nat) (fr' : List AV) (L' : Objs) (hm : m < n) (h1 : Za fr fr') (h2 : Zc L' L) (h0 : I m fr' L') : EndR I n fr L := ⟨m, fr', L', hm, h1, h2, h0⟩
theorem to_mid {M : List AV → Objs → Prop} (fr' : List AV) (L' : Objs) (h1 : Za fr fr') (h2 : Zc L' L) (h0 : M fr' L') : MidK M fr L := ⟨fr', L', h1, h2, h0⟩
theorem Le_refl : ∀ fr : List AV, Za fr fr
  | [] => trivial
  | a :: as => ⟨by unfold Zb; split <;> trivial, Le_refl as⟩
theorem map_kill_p (k : Key) (cs : List PV) : (cs.map AV.p).map (fun x => AV.kill k x) = cs.map AV.p := by
  rw [List.map_map]; exact List.map_congr_left fun x _ => rfl
theorem map_thaw_p (k : Key) (z : Nat) (es : List (List PV)) (cs : List PV) : (cs.map AV.p).map (fun x => AV.thaw k z es x) = cs.map AV.p := by
  rw [List.map_map]; exact List.map_congr_left fun x _ => rfl
theorem cut_same {x : IC} (h2 : Zc L L) (h : awp P E x fr L Q) : CutC P E x fr L Q := ⟨fr, L, Le_refl fr, h2, h⟩

theorem awpOps_mono {K' : List AV → Objs → Prop} (hk : ∀ fr L, K fr L → K' fr L) : ∀ (is : List IOper) (fr : List AV) (L : Objs), awpOps P E X is fr L K → awpOps P E X is fr L K' := by
  intro is
  induction is with
  | nil => intro fr L h; exact hk fr L h
  | cons i is ih =>
    obtain ⟨d, op, gd⟩ := i
    intro fr L h
    have hcall : ∀ f as d fr, CallOp P E f as L d fr (fun fr L => awpOps P E X is fr L K) → CallOp P E f as L d fr (fun fr L => awpOps P E X is fr L K') := by
      intro f as d fr h
      rcases h with ⟨φ, h1, h2⟩ | ⟨bk, post, h1, h2, h3, h4⟩ | h
      · exact .inl ⟨φ, h1, fun x hx => ih _ _ (h2 x hx)⟩
      · refine .inr (.inl ⟨bk, post, h1, h2, h3, fun r os' hp => ?_⟩)
        have := h4 r os' hp
        cases r with
        | p x => exact ih _ _ this
        | fr es e z => cases d with
          | none => exact ih _ _ this
          | some d => exact ih _ _ this
      · refine .inr (.inr fun w X' ι vs a1 a2 a3 a4 a5 => (h w X' ι vs a1 a2 a3 a4 a5).mono ?_)
        rintro e w' ⟨v, r, L', ι', b1, b2, b3⟩
        exact ⟨v, r, L', ι', b1, ih _ _ b2, b3⟩
    cases gd with
    | none =>
      cases op with
      | call f args => exact ⟨h.1, hcall _ _ _ _ h.2⟩
      | pcall n f args => exact ⟨h.1, ih _ _ h.2⟩
      | dcall b f args =>
        obtain ⟨h0, k, t, cs, post, h1, h2, h3, h4, h5, h6⟩ := h
        exact ⟨h0, k, t, cs, post, h1, h2, h3, h4, h5, fun x cs' hp => ih _ _ (h6 x cs' hp)⟩
      | callv g args =>
        simp only [awpOps] at h ⊢
        split at h
        · exact ⟨h.1, h.2.1, h.2.2.1, h.2.2.2.1, hcall _ _ _ _ h.2.2.2.2⟩
        · exact h.elim
      | fz x =>
        simp only [awpOps] at h ⊢
        split at h
        · exact ih _ _ h
        · exact ih _ _ h
      | _ =>
        simp only [awpOps] at h ⊢
        split at h
        · exact ⟨h.1, ih _ _ h.2⟩
        · exact h.elim
    | some q =>
      obtain ⟨s, want⟩ := q
      simp only [awpOps] at h ⊢
      split at h
      · cases op with
        | call f args =>
          simp only at h ⊢
          rcases h with ⟨h1, ⟨x, h2, h3⟩ | ⟨h2, h3⟩⟩
          · exact ⟨h1, .inl ⟨x, h2, ih _ _ h3⟩⟩
          · exact ⟨h1, .inr ⟨fun e => hcall _ _ _ _ (h2 e), fun e => ih _ _ (h3 e)⟩⟩
        | pcall n f args => simp only at h ⊢; exact ⟨h.1, ih _ _ h.2⟩
        | _ =>
          simp only at h ⊢
          split at h
          · exact ⟨h.1, ih _ _ h.2⟩
          · exact ⟨h.1, h.2.1, ih _ _ h.2.2⟩
      · exact h.elim

theorem awp_mono : ∀ (x : IC) (fr : List AV) (L : Objs) (Q Q' : AQ), (∀ e fr L, Q e fr L → Q' e fr L) → awp P E x fr L Q → awp P E x fr L Q' := by
  intro x
  induction x with
  | skip => intro fr L Q Q' hq h; exact hq _ _ _ h
  | reg ops => intro fr L Q Q' hq h; exact awpOps_mono (hq .normal) ops fr L h
  | drg ops => intro fr L Q Q' hq h; obtain ⟨Y, h⟩ := h; exact ⟨Y, awpOps_mono (hq .normal) ops fr L h⟩
  | seq x y ihx ihy =>
    intro fr L Q Q' hq h
    refine ihx fr L _ _ (fun e fr L h => ?_) h
    cases e <;> first | exact ihy fr L Q Q' hq h | exact hq _ _ _ h
  | cond c x y ihx ihy =>
    intro fr L Q Q' hq h
    simp only [awp] at h ⊢
    split at h
    · exact ⟨fun e => ihx fr L Q Q' hq (h.1 e), fun e => ihy fr L Q Q' hq (h.2 e)⟩
    · exact h.elim
  | block i x ih =>
    intro fr L Q Q' hq h
    refine ih fr L _ _ (fun e fr L h => ?_) h
    cases e with
    | exit j =>
      simp only [blockQ] at h ⊢
      split at h
      · rename_i hj; rw [if_pos hj]; exact hq _ _ _ h
      · rename_i hj; rw [if_neg hj]; exact hq _ _ _ h
    | _ => exact hq _ _ _ h
  | loop x ih =>
    intro fr L Q Q' hq h
    obtain ⟨I, h0, hr⟩ := h
    refine ⟨I, h0, fun n fr L hi => ih fr L _ _ (fun e fr L h => ?_) (hr n fr L hi)⟩
    cases e with
    | normal => exact h
    | _ => exact hq _ _ _ h
  | exit i => intro fr L Q Q' hq h; exact hq _ _ _ h
  | ret => intro fr L Q Q' hq h; exact hq _ _ _ h
  | dead => intro fr L Q Q' hq h; exact h.elim
  | cut x ih => intro fr L Q Q' hq h; obtain ⟨fr', L', h1, h2, h⟩ := h; exact ⟨fr', L', h1, h2, ih fr' L' Q Q' hq h⟩

/-- Two ways that meet again. -/
theorem br_join {b : Bool} {x y r : IC} (M : List AV → Objs → Prop) (h1 : b = true → awp P E x fr L (midQ M Q)) (h2 : b = false → awp P E y fr L (midQ M Q)) (hM : ∀ fr L, M fr L → awp P E r fr L Q) : BrC P E b x y fr L (thenC P E (.cut r) Q) := by
  have hq : ∀ e fr L, midQ M Q e fr L → thenC P E (.cut r) Q e fr L := by
    intro e fr L h
    cases e with
    | normal => obtain ⟨fr', L', a1, a2, a3⟩ := h; exact ⟨fr', L', a1, a2, hM fr' L' a3⟩
    | _ => exact h
  exact ⟨fun e => awp_mono x fr L _ _ hq (h1 e), fun e => awp_mono y fr L _ _ hq (h2 e)⟩
theorem drg0 {ops : List IOper} (h : awpOps P E [] ops fr L K) : DrgC P E ops fr L K := ⟨_, h⟩
def isOp : IOp → Bool
  | .call .. | .pcall .. | .dcall .. | .callv .. | .fz .. => false
  | _ => true
def OpsK (P : Program) (E : Envt) (X : List PV) (q : Option (Prop × List AV × Objs)) (is : List IOper) (K : List AV → Objs → Prop) : Prop :=
  match q with
  | some (c, fr', L') => c ∧ awpOps P E X is fr' L' K
  | none => False
def GdK (P : Program) (E : Envt) (X : List PV) (pl : Bool) (g : Option Bool) (q : Option (Prop × AV)) (d : Option Nat) (is : List IOper) (fr : List AV) (L : Objs) (K : List AV → Objs → Prop) : Prop :=
  match g with
  | some c0 => match q with
    | some (c, r) => (c0 = true → c) ∧ awpOps P E X is (Zf fr d (.g c0 r)) L K
    | none => pl = true ∧ c0 = false ∧ awpOps P E X is (Zf fr d (.g c0 .any)) L K
  | none => False
theorem OpsK_some {c : Prop} {fr' : List AV} {L' : Objs} {is : List IOper} : OpsK P E X (some (c, fr', L')) is K = (c ∧ awpOps P E X is fr' L' K) := rfl
theorem GdK_none {c0 : Bool} {d : Option Nat} {is : List IOper} : GdK P E X true (some c0) none d is fr L K = (c0 = false ∧ awpOps P E X is (Zf fr d (.g c0 .any)) L K) := by simp [GdK]
theorem GdK_some {pl c0 : Bool} {c : Prop} {r : AV} {d : Option Nat} {is : List IOper} : GdK P E X pl (some c0) (some (c, r)) d is fr L K = ((c0 = true → c) ∧ awpOps P E X is (Zf fr d (.g c0 r)) L K) := rfl
theorem ops_nil : awpOps P E X [] fr L K = K fr L := rfl
theorem ops_op {d : Option Nat} {op : IOp} {is : List IOper} (h : isOp op = true) : awpOps P E X (⟨d, op, none⟩ :: is) fr L K = OpsK P E X (Zd d fr L op) is K := by
  cases op <;> first | rfl | (simp [isOp] at h)
theorem ops_gd {d : Option Nat} {op : IOp} {is : List IOper} {s : Nat} {want : Bool} (h : isOp op = true) : awpOps P E X (⟨d, op, some (s, want)⟩ :: is) fr L K = GdK P E X (plainOp op) (Zg fr s want) (Ze fr L op) d is fr L K := by
  cases op <;> first | rfl | (simp [isOp] at h)
def StepK (P : Program) (E : Envt) (X : List PV) (q : Option (Prop × AV)) (d : Option Nat) (is : List IOper) (fr : List AV) (L : Objs) (K : List AV → Objs → Prop) : Prop :=
  match q with
  | some (c, r) => c ∧ awpOps P E X is (Zf fr d r) L K
  | none => False
theorem StepK_some {c : Prop} {r : AV} {d : Option Nat} {is : List IOper} : StepK P E X (some (c, r)) d is fr L K = (c ∧ awpOps P E X is (Zf fr d r) L K) := rfl
theorem StepK_eq {op : IOp} {d : Option Nat} {is : List IOper} (h : Zd d fr L op = (Ze fr L op).map (fun q => (q.1, Zf fr d q.2, L))) : OpsK P E X (Zd d fr L op) is K = StepK P E X (Ze fr L op) d is fr L K := by
  rw [h]
  cases Ze fr L op <;> rfl
theorem o_mov {d : Option Nat} {is : List IOper} {_x} : awpOps P E X (⟨d, .mov _x, none⟩ :: is) fr L K = StepK P E X (Ze fr L (.mov _x)) d is fr L K := by rw [ops_op rfl]; exact StepK_eq rfl
theorem g_mov {d : Option Nat} {is : List IOper} {s : Nat} {want : Bool} {_x} : awpOps P E X (⟨d, .mov _x, some (s, want)⟩ :: is) fr L K = GdK P E X true (Zg fr s want) (Ze fr L (.mov _x)) d is fr L K := ops_gd rfl
theorem o_pick {d : Option Nat} {is : List IOper} {_c} {_a} {_b} : awpOps P E X (⟨d, .pick _c _a _b, none⟩ :: is) fr L K = StepK P E X (Ze fr L (.pick _c _a _b)) d is fr L K := by rw [ops_op rfl]; exact StepK_eq rfl
theorem g_pick {d : Option Nat} {is : List IOper} {s : Nat} {want : Bool} {_c} {_a} {_b} : awpOps P E X (⟨d, .pick _c _a _b, some (s, want)⟩ :: is) fr L K = GdK P E X true (Zg fr s want) (Ze fr L (.pick _c _a _b)) d is fr L K := ops_gd rfl
theorem o_bin {d : Option Nat} {is : List IOper} {_b} {_x} {_y} : awpOps P E X (⟨d, .bin _b _x _y, none⟩ :: is) fr L K = StepK P E X (Ze fr L (.bin _b _x _y)) d is fr L K := by rw [ops_op rfl]; exact StepK_eq rfl
theorem g_bin {d : Option Nat} {is : List IOper} {s : Nat} {want : Bool} {_b} {_x} {_y} : awpOps P E X (⟨d, .bin _b _x _y, some (s, want)⟩ :: is) fr L K = GdK P E X true (Zg fr s want) (Ze fr L (.bin _b _x _y)) d is fr L K := ops_gd rfl
theorem o_bnb {d : Option Nat} {is : List IOper} {_b} {_x} {_y} : awpOps P E X (⟨d, .bnb _b _x _y, none⟩ :: is) fr L K = StepK P E X (Ze fr L (.bnb _b _x _y)) d is fr L K := by rw [ops_op rfl]; exact StepK_eq rfl
theorem g_bnb {d : Option Nat} {is : List IOper} {s : Nat} {want : Bool} {_b} {_x} {_y} : awpOps P E X (⟨d, .bnb _b _x _y, some (s, want)⟩ :: is) fr L K = GdK P E X true (Zg fr s want) (Ze fr L (.bnb _b _x _y)) d is fr L K := ops_gd rfl
theorem o_eqa {d : Option Nat} {is : List IOper} {_n} {_k} {_x} {_y} : awpOps P E X (⟨d, .eqa _n _k _x _y, none⟩ :: is) fr L K = StepK P E X (Ze fr L (.eqa _n _k _x _y)) d is fr L K := by rw [ops_op rfl]; exact StepK_eq rfl
theorem g_eqa {d : Option Nat} {is : List IOper} {s : Nat} {want : Bool} {_n} {_k} {_x} {_y} : awpOps P E X (⟨d, .eqa _n _k _x _y, some (s, want)⟩ :: is) fr L K = GdK P E X true (Zg fr s want) (Ze fr L (.eqa _n _k _x _y)) d is fr L K := ops_gd rfl
theorem o_not {d : Option Nat} {is : List IOper} {_x} : awpOps P E X (⟨d, .not _x, none⟩ :: is) fr L K = StepK P E X (Ze fr L (.not _x)) d is fr L K := by rw [ops_op rfl]; exact StepK_eq rfl
theorem g_not {d : Option Nat} {is : List IOper} {s : Nat} {want : Bool} {_x} : awpOps P E X (⟨d, .not _x, some (s, want)⟩ :: is) fr L K = GdK P E X true (Zg fr s want) (Ze fr L (.not _x)) d is fr L K := ops_gd rfl
theorem o_neg {d : Option Nat} {is : List IOper} {_x} : awpOps P E X (⟨d, .neg _x, none⟩ :: is) fr L K = StepK P E X (Ze fr L (.neg _x)) d is fr L K := by rw [ops_op rfl]; exact StepK_eq rfl
theorem g_neg {d : Option Nat} {is : List IOper} {s : Nat} {want : Bool} {_x} : awpOps P E X (⟨d, .neg _x, some (s, want)⟩ :: is) fr L K = GdK P E X true (Zg fr s want) (Ze fr L (.neg _x)) d is fr L K := ops_gd rfl
theorem o_len {d : Option Nat} {is : List IOper} {_x} : awpOps P E X (⟨d, .len _x, none⟩ :: is) fr L K = StepK P E X (Ze fr L (.len _x)) d is fr L K := by rw [ops_op rfl]; exact StepK_eq rfl
theorem g_len {d : Option Nat} {is : List IOper} {s : Nat} {want : Bool} {_x} : awpOps P E X (⟨d, .len _x, some (s, want)⟩ :: is) fr L K = GdK P E X true (Zg fr s want) (Ze fr L (.len _x)) d is fr L K := ops_gd rfl
theorem o_sln {d : Option Nat} {is : List IOper} {_x} : awpOps P E X (⟨d, .sln _x, none⟩ :: is) fr L K = StepK P E X (Ze fr L (.sln _x)) d is fr L K := by rw [ops_op rfl]; exact StepK_eq rfl
theorem g_sln {d : Option Nat} {is : List IOper} {s : Nat} {want : Bool} {_x} : awpOps P E X (⟨d, .sln _x, some (s, want)⟩ :: is) fr L K = GdK P E X true (Zg fr s want) (Ze fr L (.sln _x)) d is fr L K := ops_gd rfl
theorem o_mx {d : Option Nat} {is : List IOper} {_x} {_y} : awpOps P E X (⟨d, .mx _x _y, none⟩ :: is) fr L K = StepK P E X (Ze fr L (.mx _x _y)) d is fr L K := by rw [ops_op rfl]; exact StepK_eq rfl
theorem g_mx {d : Option Nat} {is : List IOper} {s : Nat} {want : Bool} {_x} {_y} : awpOps P E X (⟨d, .mx _x _y, some (s, want)⟩ :: is) fr L K = GdK P E X true (Zg fr s want) (Ze fr L (.mx _x _y)) d is fr L K := ops_gd rfl
theorem o_mn {d : Option Nat} {is : List IOper} {_x} {_y} : awpOps P E X (⟨d, .mn _x _y, none⟩ :: is) fr L K = StepK P E X (Ze fr L (.mn _x _y)) d is fr L K := by rw [ops_op rfl]; exact StepK_eq rfl
theorem g_mn {d : Option Nat} {is : List IOper} {s : Nat} {want : Bool} {_x} {_y} : awpOps P E X (⟨d, .mn _x _y, some (s, want)⟩ :: is) fr L K = GdK P E X true (Zg fr s want) (Ze fr L (.mn _x _y)) d is fr L K := ops_gd rfl
theorem o_idx {d : Option Nat} {is : List IOper} {_x} {_y} : awpOps P E X (⟨d, .idx _x _y, none⟩ :: is) fr L K = StepK P E X (Ze fr L (.idx _x _y)) d is fr L K := by rw [ops_op rfl]; exact StepK_eq rfl
theorem g_idx {d : Option Nat} {is : List IOper} {s : Nat} {want : Bool} {_x} {_y} : awpOps P E X (⟨d, .idx _x _y, some (s, want)⟩ :: is) fr L K = GdK P E X true (Zg fr s want) (Ze fr L (.idx _x _y)) d is fr L K := ops_gd rfl
theorem o_ssl {d : Option Nat} {is : List IOper} {_x} {_l} {_h} : awpOps P E X (⟨d, .ssl _x _l _h, none⟩ :: is) fr L K = StepK P E X (Ze fr L (.ssl _x _l _h)) d is fr L K := by rw [ops_op rfl]; exact StepK_eq rfl
theorem g_ssl {d : Option Nat} {is : List IOper} {s : Nat} {want : Bool} {_x} {_l} {_h} : awpOps P E X (⟨d, .ssl _x _l _h, some (s, want)⟩ :: is) fr L K = GdK P E X true (Zg fr s want) (Ze fr L (.ssl _x _l _h)) d is fr L K := ops_gd rfl
theorem o_vsl {d : Option Nat} {is : List IOper} {_z} {_x} {_l} {_h} : awpOps P E X (⟨d, .vsl _z _x _l _h, none⟩ :: is) fr L K = StepK P E X (Ze fr L (.vsl _z _x _l _h)) d is fr L K := by rw [ops_op rfl]; exact StepK_eq rfl
theorem g_vsl {d : Option Nat} {is : List IOper} {s : Nat} {want : Bool} {_z} {_x} {_l} {_h} : awpOps P E X (⟨d, .vsl _z _x _l _h, some (s, want)⟩ :: is) fr L K = GdK P E X true (Zg fr s want) (Ze fr L (.vsl _z _x _l _h)) d is fr L K := ops_gd rfl
theorem o_ixa {d : Option Nat} {is : List IOper} {_z} {_x} {_y} : awpOps P E X (⟨d, .ixa _z _x _y, none⟩ :: is) fr L K = StepK P E X (Ze fr L (.ixa _z _x _y)) d is fr L K := by rw [ops_op rfl]; exact StepK_eq rfl
theorem g_ixa {d : Option Nat} {is : List IOper} {s : Nat} {want : Bool} {_z} {_x} {_y} : awpOps P E X (⟨d, .ixa _z _x _y, some (s, want)⟩ :: is) fr L K = GdK P E X true (Zg fr s want) (Ze fr L (.ixa _z _x _y)) d is fr L K := ops_gd rfl
theorem o_fla {d : Option Nat} {is : List IOper} {_o} {_x} : awpOps P E X (⟨d, .fla _o _x, none⟩ :: is) fr L K = StepK P E X (Ze fr L (.fla _o _x)) d is fr L K := by rw [ops_op rfl]; exact StepK_eq rfl
theorem g_fla {d : Option Nat} {is : List IOper} {s : Nat} {want : Bool} {_o} {_x} : awpOps P E X (⟨d, .fla _o _x, some (s, want)⟩ :: is) fr L K = GdK P E X true (Zg fr s want) (Ze fr L (.fla _o _x)) d is fr L K := ops_gd rfl
theorem o_fld {d : Option Nat} {is : List IOper} {_o} {_s} {_a} {_x} : awpOps P E X (⟨d, .fld _o _s _a _x, none⟩ :: is) fr L K = StepK P E X (Ze fr L (.fld _o _s _a _x)) d is fr L K := by rw [ops_op rfl]; exact StepK_eq rfl
theorem g_fld {d : Option Nat} {is : List IOper} {s : Nat} {want : Bool} {_o} {_s} {_a} {_x} : awpOps P E X (⟨d, .fld _o _s _a _x, some (s, want)⟩ :: is) fr L K = GdK P E X true (Zg fr s want) (Ze fr L (.fld _o _s _a _x)) d is fr L K := ops_gd rfl
theorem o_ld {d : Option Nat} {is : List IOper} {_s} {_a} {_x} : awpOps P E X (⟨d, .ld _s _a _x, none⟩ :: is) fr L K = StepK P E X (Ze fr L (.ld _s _a _x)) d is fr L K := by rw [ops_op rfl]; exact StepK_eq rfl
theorem g_ld {d : Option Nat} {is : List IOper} {s : Nat} {want : Bool} {_s} {_a} {_x} : awpOps P E X (⟨d, .ld _s _a _x, some (s, want)⟩ :: is) fr L K = GdK P E X true (Zg fr s want) (Ze fr L (.ld _s _a _x)) d is fr L K := ops_gd rfl
theorem o_ldl {d : Option Nat} {is : List IOper} {_s} {_a} {_x} : awpOps P E X (⟨d, .ldl _s _a _x, none⟩ :: is) fr L K = StepK P E X (Ze fr L (.ldl _s _a _x)) d is fr L K := by rw [ops_op rfl]; exact StepK_eq rfl
theorem g_ldl {d : Option Nat} {is : List IOper} {s : Nat} {want : Bool} {_s} {_a} {_x} : awpOps P E X (⟨d, .ldl _s _a _x, some (s, want)⟩ :: is) fr L K = GdK P E X false (Zg fr s want) (Ze fr L (.ldl _s _a _x)) d is fr L K := ops_gd rfl
theorem o_ext {d : Option Nat} {is : List IOper} {_i} {_x} : awpOps P E X (⟨d, .ext _i _x, none⟩ :: is) fr L K = StepK P E X (Ze fr L (.ext _i _x)) d is fr L K := by rw [ops_op rfl]; exact StepK_eq rfl
theorem g_ext {d : Option Nat} {is : List IOper} {s : Nat} {want : Bool} {_i} {_x} : awpOps P E X (⟨d, .ext _i _x, some (s, want)⟩ :: is) fr L K = GdK P E X true (Zg fr s want) (Ze fr L (.ext _i _x)) d is fr L K := ops_gd rfl
theorem o_bld {d : Option Nat} {is : List IOper} {_z} {_p} : awpOps P E X (⟨d, .bld _z _p, none⟩ :: is) fr L K = StepK P E X (Ze fr L (.bld _z _p)) d is fr L K := by rw [ops_op rfl]; exact StepK_eq rfl
theorem g_bld {d : Option Nat} {is : List IOper} {s : Nat} {want : Bool} {_z} {_p} : awpOps P E X (⟨d, .bld _z _p, some (s, want)⟩ :: is) fr L K = GdK P E X true (Zg fr s want) (Ze fr L (.bld _z _p)) d is fr L K := ops_gd rfl
theorem o_cvi {d : Option Nat} {is : List IOper} {_k} {_x} : awpOps P E X (⟨d, .cvi _k _x, none⟩ :: is) fr L K = StepK P E X (Ze fr L (.cvi _k _x)) d is fr L K := by rw [ops_op rfl]; exact StepK_eq rfl
theorem g_cvi {d : Option Nat} {is : List IOper} {s : Nat} {want : Bool} {_k} {_x} : awpOps P E X (⟨d, .cvi _k _x, some (s, want)⟩ :: is) fr L K = GdK P E X true (Zg fr s want) (Ze fr L (.cvi _k _x)) d is fr L K := ops_gd rfl
theorem o_cvs {d : Option Nat} {is : List IOper} {_x} : awpOps P E X (⟨d, .cvs _x, none⟩ :: is) fr L K = StepK P E X (Ze fr L (.cvs _x)) d is fr L K := by rw [ops_op rfl]; exact StepK_eq rfl
theorem g_cvs {d : Option Nat} {is : List IOper} {s : Nat} {want : Bool} {_x} : awpOps P E X (⟨d, .cvs _x, some (s, want)⟩ :: is) fr L K = GdK P E X true (Zg fr s want) (Ze fr L (.cvs _x)) d is fr L K := ops_gd rfl
theorem o_b2s {d : Option Nat} {is : List IOper} {_x} : awpOps P E X (⟨d, .b2s _x, none⟩ :: is) fr L K = StepK P E X (Ze fr L (.b2s _x)) d is fr L K := by rw [ops_op rfl]; exact StepK_eq rfl
theorem g_b2s {d : Option Nat} {is : List IOper} {s : Nat} {want : Bool} {_x} : awpOps P E X (⟨d, .b2s _x, some (s, want)⟩ :: is) fr L K = GdK P E X true (Zg fr s want) (Ze fr L (.b2s _x)) d is fr L K := ops_gd rfl
theorem o_bsl {d : Option Nat} {is : List IOper} {_z} {_p} : awpOps P E X (⟨d, .bsl _z _p, none⟩ :: is) fr L K = StepK P E X (Ze fr L (.bsl _z _p)) d is fr L K := by rw [ops_op rfl]; exact StepK_eq rfl
theorem g_bsl {d : Option Nat} {is : List IOper} {s : Nat} {want : Bool} {_z} {_p} : awpOps P E X (⟨d, .bsl _z _p, some (s, want)⟩ :: is) fr L K = GdK P E X true (Zg fr s want) (Ze fr L (.bsl _z _p)) d is fr L K := ops_gd rfl
theorem o_nck {d : Option Nat} {is : List IOper} {_x} : awpOps P E X (⟨d, .nck _x, none⟩ :: is) fr L K = StepK P E X (Ze fr L (.nck _x)) d is fr L K := by rw [ops_op rfl]; exact StepK_eq rfl
theorem g_nck {d : Option Nat} {is : List IOper} {s : Nat} {want : Bool} {_x} : awpOps P E X (⟨d, .nck _x, some (s, want)⟩ :: is) fr L K = GdK P E X true (Zg fr s want) (Ze fr L (.nck _x)) d is fr L K := ops_gd rfl
theorem o_mkf {d : Option Nat} {is : List IOper} {_f} {_c} : awpOps P E X (⟨d, .mkf _f _c, none⟩ :: is) fr L K = StepK P E X (Ze fr L (.mkf _f _c)) d is fr L K := by rw [ops_op rfl]; exact StepK_eq rfl
theorem g_mkf {d : Option Nat} {is : List IOper} {s : Nat} {want : Bool} {_f} {_c} : awpOps P E X (⟨d, .mkf _f _c, some (s, want)⟩ :: is) fr L K = GdK P E X true (Zg fr s want) (Ze fr L (.mkf _f _c)) d is fr L K := ops_gd rfl
theorem o_cap0 {d : Option Nat} {is : List IOper} {_x} : awpOps P E X (⟨d, .cap0 _x, none⟩ :: is) fr L K = StepK P E X (Ze fr L (.cap0 _x)) d is fr L K := by rw [ops_op rfl]; exact StepK_eq rfl
theorem g_cap0 {d : Option Nat} {is : List IOper} {s : Nat} {want : Bool} {_x} : awpOps P E X (⟨d, .cap0 _x, some (s, want)⟩ :: is) fr L K = GdK P E X true (Zg fr s want) (Ze fr L (.cap0 _x)) d is fr L K := ops_gd rfl
theorem o_vsn {d : Option Nat} {is : List IOper} {_x} {_h} : awpOps P E X (⟨d, .vsn _x _h, none⟩ :: is) fr L K = StepK P E X (Ze fr L (.vsn _x _h)) d is fr L K := by rw [ops_op rfl]; exact StepK_eq rfl
theorem g_vsn {d : Option Nat} {is : List IOper} {s : Nat} {want : Bool} {_x} {_h} : awpOps P E X (⟨d, .vsn _x _h, some (s, want)⟩ :: is) fr L K = GdK P E X true (Zg fr s want) (Ze fr L (.vsn _x _h)) d is fr L K := ops_gd rfl
theorem o_mpl {d : Option Nat} {is : List IOper} {_o} {_z} {_x} {_h} : awpOps P E X (⟨d, .mpl _o _z _x _h, none⟩ :: is) fr L K = StepK P E X (Ze fr L (.mpl _o _z _x _h)) d is fr L K := by rw [ops_op rfl]; exact StepK_eq rfl
theorem g_mpl {d : Option Nat} {is : List IOper} {s : Nat} {want : Bool} {_o} {_z} {_x} {_h} : awpOps P E X (⟨d, .mpl _o _z _x _h, some (s, want)⟩ :: is) fr L K = GdK P E X true (Zg fr s want) (Ze fr L (.mpl _o _z _x _h)) d is fr L K := ops_gd rfl
theorem o_mpn {d : Option Nat} {is : List IOper} {_x} : awpOps P E X (⟨d, .mpn _x, none⟩ :: is) fr L K = StepK P E X (Ze fr L (.mpn _x)) d is fr L K := by rw [ops_op rfl]; exact StepK_eq rfl
theorem g_mpn {d : Option Nat} {is : List IOper} {s : Nat} {want : Bool} {_x} : awpOps P E X (⟨d, .mpn _x, some (s, want)⟩ :: is) fr L K = GdK P E X true (Zg fr s want) (Ze fr L (.mpn _x)) d is fr L K := ops_gd rfl
theorem o_mkm {d : Option Nat} {is : List IOper} {_t} {_z} : awpOps P E X (⟨d, .mkm _t _z, none⟩ :: is) fr L K = OpsK P E X (Zd d fr L (.mkm _t _z)) is K := ops_op rfl
theorem o_mpu {d : Option Nat} {is : List IOper} {_m} {_k} {_v} : awpOps P E X (⟨d, .mpu _m _k _v, none⟩ :: is) fr L K = OpsK P E X (Zd d fr L (.mpu _m _k _v)) is K := ops_op rfl
theorem o_apz {d : Option Nat} {is : List IOper} {_e} {_z} {_b} {_o} {_x} {_y} : awpOps P E X (⟨d, .apz _e _z _b _o _x _y, none⟩ :: is) fr L K = OpsK P E X (Zd d fr L (.apz _e _z _b _o _x _y)) is K := ops_op rfl
theorem o_trn {d : Option Nat} {is : List IOper} {_z} {_x} {_y} : awpOps P E X (⟨d, .trn _z _x _y, none⟩ :: is) fr L K = OpsK P E X (Zd d fr L (.trn _z _x _y)) is K := ops_op rfl
theorem o_mks {d : Option Nat} {is : List IOper} {_e} {_z} {_b} {_o} {_x} {_y} : awpOps P E X (⟨d, .mks _e _z _b _o _x _y, none⟩ :: is) fr L K = OpsK P E X (Zd d fr L (.mks _e _z _b _o _x _y)) is K := ops_op rfl
theorem o_nilr {d : Option Nat} {is : List IOper} {_e} {_z} : awpOps P E X (⟨d, .nilr _e _z, none⟩ :: is) fr L K = OpsK P E X (Zd d fr L (.nilr _e _z)) is K := ops_op rfl
theorem o_alc {d : Option Nat} {is : List IOper} {_t} {_z} : awpOps P E X (⟨d, .alc _t _z, none⟩ :: is) fr L K = OpsK P E X (Zd d fr L (.alc _t _z)) is K := ops_op rfl
theorem o_box {d : Option Nat} {is : List IOper} {_t} {_x} : awpOps P E X (⟨d, .box _t _x, none⟩ :: is) fr L K = OpsK P E X (Zd d fr L (.box _t _x)) is K := ops_op rfl
theorem o_st {d : Option Nat} {is : List IOper} {_s} {_p} {_x} : awpOps P E X (⟨d, .st _s _p _x, none⟩ :: is) fr L K = OpsK P E X (Zd d fr L (.st _s _p _x)) is K := ops_op rfl
theorem o_app {d : Option Nat} {is : List IOper} {_e} {_z} {_b} {_x} {_y} : awpOps P E X (⟨d, .app _e _z _b _x _y, none⟩ :: is) fr L K = OpsK P E X (Zd d fr L (.app _e _z _b _x _y)) is K := ops_op rfl
theorem o_bsr {d : Option Nat} {is : List IOper} {_e} {_z} {_p} : awpOps P E X (⟨d, .bsr _e _z _p, none⟩ :: is) fr L K = OpsK P E X (Zd d fr L (.bsr _e _z _p)) is K := ops_op rfl
theorem o_s2b {d : Option Nat} {is : List IOper} {_e} {_x} : awpOps P E X (⟨d, .s2b _e _x, none⟩ :: is) fr L K = OpsK P E X (Zd d fr L (.s2b _e _x)) is K := ops_op rfl
theorem ops_call {d : Option Nat} {f : FuncId} {args : List Opd} {is : List IOper} : awpOps P E X (⟨d, .call f args, none⟩ :: is) fr L K = (Zl fr args ∧ CallOp P E f (Zm fr args) L d fr (contO P E X is K)) := rfl
def FnK (P : Program) (E : Envt) (X : List PV) (o : Option (FuncId × List AV)) (c : Prop) (d : Option Nat) (args : List Opd) (is : List IOper) (fr : List AV) (L : Objs) (K : List AV → Objs → Prop) : Prop :=
  match o with
  | some (f, ks) => c ∧ fnB P f = true ∧ Zk L ks = true ∧ Zl fr args ∧ CallOp P E f (Zm fr args ++ ks) L d fr (contO P E X is K)
  | none => False
theorem FnK_some {f : FuncId} {ks : List AV} {c : Prop} {d : Option Nat} {args : List Opd} {is : List IOper} : FnK P E X (some (f, ks)) c d args is fr L K = (c ∧ fnB P f = true ∧ Zk L ks = true ∧ Zl fr args ∧ CallOp P E f (Zm fr args ++ ks) L d fr (contO P E X is K)) := rfl
theorem ops_callv {d : Option Nat} {g : Opd} {args : List Opd} {is : List IOper} : awpOps P E X (⟨d, .callv g args, none⟩ :: is) fr L K = FnK P E X (Zag fr g) (rd fr g).un.1 d args is fr L K := by
  cases h : Zag fr g with
  | none => simp only [awpOps, FnK, h]
  | some q => obtain ⟨f, ks⟩ := q; simp only [awpOps, FnK, h]; rfl
theorem ops_dcall {b : Bool} {d : Option Nat} {f : FuncId} {args : List Opd} {is : List IOper} : awpOps P E X (⟨d, .dcall b f args, none⟩ :: is) fr L K = (Zl fr args ∧ DCallOp b P E f (Zm fr args) L d fr (contO P E X is K)) := rfl
def PcK (P : Program) (E : Envt) (f : FuncId) (as : List AV) (L : Objs) (x : PV) : Prop := PureC P E f as L (· = x)
theorem ops_pcall {d : Option Nat} {n : Nat} {f : FuncId} {args : List Opd} {is : List IOper} : awpOps P E X (⟨d, .pcall n f args, none⟩ :: is) fr L K = ((Zl fr args ∧ PcK P E f (Zm fr args) L (X.getD n (.bool false))) ∧ awpOps P E X is (Zf fr d (.p (X.getD n (.bool false)))) L K) := rfl
theorem ops_pcallg {d : Option Nat} {n : Nat} {f : FuncId} {args : List Opd} {is : List IOper} {s : Nat} {want : Bool} : awpOps P E X (⟨d, .pcall n f args, some (s, want)⟩ :: is) fr L K = (match Zg fr s want with | some c0 => (c0 = true → Zl fr args ∧ PcK P E f (Zm fr args) L (X.getD n (.bool false))) ∧ awpOps P E X is (Zf fr d (.g c0 (.p (X.getD n (.bool false))))) L K | none => False) := rfl
theorem ops_callg {d : Option Nat} {f : FuncId} {args : List Opd} {is : List IOper} {s : Nat} {want : Bool} : awpOps P E X (⟨d, .call f args, some (s, want)⟩ :: is) fr L K = (match Zg fr s want with | some c0 => (c0 = true → Zl fr args) ∧ CallG c0 P E f (Zm fr args) L d fr (contO P E X is K) | none => False) := rfl
def FzK (P : Program) (E : Envt) (X : List PV) (q : Option (Key × Nat × List (List PV))) (is : List IOper) (fr : List AV) (L : Objs) (K : List AV → Objs → Prop) : Prop :=
  match q with
  | some (k, z, es) => awpOps P E X is (fr.map (·.thaw k z es)) (Zal k z es L) K
  | none => awpOps P E X is fr L K
theorem FzK_some {k : Key} {z : Nat} {es : List (List PV)} {is : List IOper} : FzK P E X (some (k, z, es)) is fr L K = awpOps P E X is (fr.map (·.thaw k z es)) (Zal k z es L) K := rfl
theorem FzK_none {is : List IOper} : FzK P E X none is fr L K = awpOps P E X is fr L K := rfl
theorem ops_fz {x : Opd} {is : List IOper} : awpOps P E X (⟨none, .fz x, none⟩ :: is) fr L K = FzK P E X (Zaf fr L x) is fr L K := rfl

/-- What a variable holds, if it is plain; what captured variables hold. -/
def Zi (L : Objs) (k : Key) : Option (List PV) :=
  match Zah L k with
  | some (.box cs _) => Zw cs
  | _ => none
def Zj (L : Objs) : List Key → Option (List PV)
  | [] => some []
  | k :: r => match Zi L k, Zj L r with
    | some cs, some l => some (.ptr cs :: l)
    | _, _ => none
/-- What an argument hands over as a plain value. -/
def Zar (L : Objs) : AV → Option PV
  | .p x => some (wk x)
  | .row k => match Zah L k with
    | some (.row es _ z _) => some (.sl z es)
    | _ => none
  | .fn f ks => (Zj L ks).map (.clo f)
  | .adr k o => if o = 0 then (Zi L k).map .ptr else none
  | _ => none
def Zaq (L : Objs) : List AV → Option (List PV)
  | [] => some []
  | x :: r => match Zar L x, Zaq L r with
    | some y, some l => some (y :: l)
    | _, _ => none
def Zas : List AV → Bool
  | [] => true
  | .row _ :: _ => false
  | .adr _ _ :: _ => false
  | .fn _ ks :: r => ks.isEmpty && Zas r
  | _ :: r => Zas r
def Zat : PV → Bool
  | .int .. | .bool .. | .str .. => true
  | .agg cs => cs.all fun | .int .. | .bool .. | .str .. => true | _ => false
  | .tup cs => cs.all fun | .int .. | .bool .. | .str .. => true | _ => false
  | _ => false

theorem bool_beq_true (b : Bool) : (b == true) = b := by cases b <;> rfl
theorem bool_beq_false (b : Bool) : (b == false) = !b := by cases b <;> rfl

theorem PRep.flat {w : World} {U U' : Nat → Prop} {x : PV} {v : Value} (hf : Zat x = true) (h : PRep w U x v) : PRep w U' x v := by
  have one : ∀ (y : PV) (u : Value), (match y with | .int .. | .bool .. | .str .. => true | _ => false) = true → PRep w U y u → PRep w U' y u := by
    intro y u hy hr
    cases y <;> simp_all [PRep]
  have lst : ∀ (cs : List PV) (vs : List Value), (cs.all fun | .int .. | .bool .. | .str .. => true | _ => false) = true → PRepL w U cs vs → PRepL w U' cs vs := by
    intro cs
    induction cs with
    | nil => intro vs _ h; exact h
    | cons c cs ih =>
      intro vs hc hr
      simp only [List.all_cons, Bool.and_eq_true] at hc
      simp only [PRepL] at hr ⊢
      obtain ⟨v, r, rfl, h1, h2⟩ := hr
      exact ⟨v, r, rfl, one c v hc.1 h1, ih r hc.2 h2⟩
  cases x with
  | agg cs => simp only [Zat] at hf; simp only [PRep] at h ⊢; obtain ⟨vs, e, hl⟩ := h; exact ⟨vs, e, lst cs vs hf hl⟩
  | tup cs => simp only [Zat] at hf; simp only [PRep] at h ⊢; obtain ⟨vs, e, hl⟩ := h; exact ⟨vs, e, lst cs vs hf hl⟩
  | int k n => exact h
  | bool b => exact h
  | str s => exact h
  | raw v => simp [Zat] at hf
  | nl z => simp [Zat] at hf
  | sl z es => simp [Zat] at hf
  | ptr cs => simp [Zat] at hf
  | clo f ps => simp [Zat] at hf

theorem fn_raw {w : World} {U U' : Nat → Prop} {ι : Key → Value} {f : FuncId} {v : Value} (h : ARep w U ι (.fn f []) v) : PRep w U' (.clo f []) v := by
  exact ⟨[], by simpa [ARep] using h, by simp [PRepL]⟩
theorem allP_map {as : List AV} {l : List PV} (h : Zw as = some l) : as = l.map .p := by
  induction as generalizing l with
  | nil => simp only [Zw, Option.some.injEq] at h; subst h; rfl
  | cons q as ih =>
    cases q with
    | p x =>
      simp only [Zw, Option.map_eq_some_iff] at h
      obtain ⟨m, h1, rfl⟩ := h
      rw [ih h1]
      rfl
    | _ => simp [Zw] at h
theorem boxP_rep {w : World} {B : Nat → Prop} {ι : Key → Value} (hs : Sim w B L ι) (hX : ∀ b, B b → ¬ Own L ι b) {k : Key} {cs : List PV} (h : Zi L k = some cs) : PRep w B (.ptr cs) (ι k) := by
  have hk := keeps_x w L ι B
  unfold Zi at h
  split at h
  · rename_i as t hl
    have e := allP_map h
    subst e
    obtain ⟨b, vs, e1, e2, e3, e4, e5⟩ := hs.obj k _ hl
    have hO : Own L ι b := ⟨k, _, hl, by rw [e1]; rfl⟩
    have hr : PRepL w (fun b => Own L ι b ∨ B b) cs vs := PRepL.of_get (by simpa using e3) (fun j x u hx hu => by
      obtain ⟨u', hu', hr'⟩ := e5 j (.p x) (by rw [List.getElem?_map, hx]; rfl)
      rw [hu'] at hu
      cases hu
      exact hr')
    refine ⟨b, e1, sim_own_lt hs hO, fun hb => hX b hb hO, PRepC.of (PRepL.mono hk _ _ hr) e4 (fun j v hv => ?_)⟩
    rw [Nat.zero_add, cell_of_row w b j _ t (0, 0) e2]
    simpa using hv
  · cases h
theorem capPs_rep {w : World} {B : Nat → Prop} {ι : Key → Value} (hs : Sim w B L ι) (hX : ∀ b, B b → ¬ Own L ι b) : ∀ {ks : List Key} {ps : List PV}, Zj L ks = some ps → PRepL w B ps (ks.map ι) := by
  intro ks
  induction ks with
  | nil => intro ps h; simp only [Zj, Option.some.injEq] at h; subst h; simp [PRepL]
  | cons k ks ih =>
    intro ps h
    simp only [Zj] at h
    split at h
    · rename_i cs l e1 e2
      cases h
      exact ⟨_, _, rfl, boxP_rep hs hX e1, ih e2⟩
    · cases h

theorem argPs_norow {w : World} {U : Nat → Prop} {ι : Key → Value} : ∀ {as : List AV} {ps : List PV} {vs : List Value}, Zas as = true → Zaq L as = some ps → ARepL w U ι as vs → PRepL w U ps vs := by
  intro as
  induction as with
  | nil => intro ps vs _ h hr; simp only [Zaq, Option.some.injEq] at h; subst h; exact hr
  | cons a as ih =>
    intro ps vs hn h hr
    simp only [Zaq] at h
    split at h
    · rename_i y l e1 e2
      cases h
      simp only [ARepL] at hr
      obtain ⟨v, r, rfl, h1, h2⟩ := hr
      simp only [PRepL]
      cases a with
      | p x => simp only [Zar, Option.some.injEq] at e1; subst e1; exact ⟨v, r, rfl, PRep.wk h1, ih (by simpa [Zas] using hn) e2 h2⟩
      | row k => simp [Zas] at hn
      | adr k o => simp [Zas] at hn
      | fn f ks =>
        cases ks with
        | nil => simp only [Zar, Zj, Option.map_some, Option.some.injEq] at e1; subst e1; exact ⟨v, r, rfl, fn_raw h1, ih (by simpa [Zas] using hn) e2 h2⟩
        | cons k ks => simp [Zas] at hn
      | _ => simp [Zar] at e1
    · cases h

/-- The blocks of rows among the arguments. -/
theorem argPs_rows {w : World} {B : Nat → Prop} {ι : Key → Value} (hs : Sim w B L ι) (hX : ∀ b, B b → ¬ Own L ι b) : ∀ {as : List AV} {ps : List PV} {vs : List Value}, Zaq L as = some ps → ARepL w (fun b => Own L ι b ∨ B b) ι as vs → PRepL w B ps vs := by
  have hk := keeps_x w L ι B
  intro as
  induction as with
  | nil => intro ps vs h hr; simp only [Zaq, Option.some.injEq] at h; subst h; exact hr
  | cons a as ih =>
    intro ps vs h hr
    simp only [Zaq] at h
    split at h
    · rename_i y l e1 e2
      cases h
      simp only [ARepL] at hr
      obtain ⟨v, r, rfl, h1, h2⟩ := hr
      simp only [PRepL]
      refine ⟨v, r, rfl, ?_, ih e2 h2⟩
      cases a with
      | p x => simp only [Zar, Option.some.injEq] at e1; subst e1; exact (PRep.mono hk _ _ h1).wk
      | row k =>
        simp only [Zar] at e1
        split at e1
        · rename_i es e' z ap hl
          cases e1
          obtain ⟨vs', hrow, e4, e5, e6⟩ := hs.obj k _ hl
          rcases hrow.2 with ⟨g1, g2⟩ | ⟨g, cap, cur, fz, g1, _, g3, _⟩
          · rw [h1.1, g1]
            exact ⟨none, 0, by rw [g2], by omega, fun hne => absurd (List.eq_nil_of_length_eq_zero g2) hne⟩
          · rw [h1.1, g1]
            have hE := row_cells hs hl g1
            have hO : Own L ι g := ⟨k, _, hl, by rw [g1]; rfl⟩
            refine ⟨_, cap, rfl, g3, fun _ => ⟨g, 0, rfl, sim_own_lt hs hO, fun hx => hX g hx hO, ?_⟩⟩
            have key : ∀ (es' : List (List PV)) (off : Nat), PRepE w (fun b => Own L ι b ∨ B b) g z off es' → PRepE w B g z off es' := by
              intro es'
              induction es' with
              | nil => intro off _; simp [PRepE]
              | cons x r ih =>
                intro off hh
                simp only [PRepE] at hh ⊢
                refine ⟨hh.1, ?_, ih _ hh.2.2⟩
                obtain ⟨us, a1, a2, a3⟩ := hh.2.1.vals
                exact PRepC.of (PRepL.mono hk _ _ a1) a2 a3
            exact key es 0 hE
        · cases e1
      | fn f ks =>
        simp only [Zar, Option.map_eq_some_iff] at e1
        obtain ⟨ps', h3, rfl⟩ := e1
        exact ⟨ks.map ι, h1, capPs_rep hs hX h3⟩
      | adr k o =>
        simp only [Zar] at e1
        split at e1
        · rename_i ho
          subst ho
          simp only [Option.map_eq_some_iff] at e1
          obtain ⟨cs, h3, rfl⟩ := e1
          obtain ⟨b, e4, e5⟩ := h1
          rw [e5, ← e4]
          exact boxP_rep hs hX h3
        · cases e1
      | _ => simp [Zar] at e1
    · cases h

/-- A contract at a call: no row among the arguments, or a result without memory. -/
theorem pure_of {f : FuncId} {as : List AV} {ps : List PV} {φ : PV → Prop} (h : PCall P E f ps φ) (ha : Zaq L as = some ps) (hn : Zas as = true ∨ ∀ x, φ x → Zat x = true) : PureC P E f as L φ := by
  intro w X ι vs hs hX hE hEb hA
  rcases hn with hn | hn
  · exact h w (fun b => Own L ι b ∨ X b) vs (fun b hb => hb.elim (fun h => sim_own_lt hs h) (fun h => (hX b h).1)) hE (fun b hb => (hEb b hb).1) (argPs_norow hn ha hA)
  · refine (h w X vs (fun b hb => (hX b hb).1) hE (fun b hb => (hEb b hb).1) (argPs_rows hs (fun b hb => (hX b hb).2) ha hA)).mono ?_
    rintro e w' ⟨v, x, rfl, hx, hr, hG⟩
    exact ⟨v, x, rfl, hx, hr.flat (hn x hx), hG⟩

theorem use {f : FuncId} {as : List AV} {ps : List PV} {φ : PV → Prop} {d : Option Nat} {is : List IOper} (h : PCall P E f ps φ) (ha : Zaq L as = some ps) (hn : Zas as = true ∨ ∀ x, φ x → Zat x = true) (hk : ∀ x, φ x → awpOps P E X is (Zf fr d (.p x)) L K) : CallOp P E f as L d fr (contO P E X is K) :=
  .inl ⟨φ, pure_of h ha hn, hk⟩
/-- The same with one result. -/
theorem use1 {f : FuncId} {as : List AV} {ps : List PV} {r : PV} {d : Option Nat} {is : List IOper} (h : PCall P E f ps (· = r)) (ha : Zaq L as = some ps) (hn : Zas as = true ∨ Zat r = true) (hk : awpOps P E X is (Zf fr d (.p r)) L K) : CallOp P E f as L d fr (contO P E X is K) :=
  .inl ⟨(· = r), pure_of h ha (hn.imp id (fun h x e => by rw [e]; exact h)), fun x e => by rw [e]; exact hk⟩
theorem useG {c0 : Bool} {f : FuncId} {as : List AV} {ps : List PV} {r : PV} {d : Option Nat} {is : List IOper} (h : c0 = true → PCall P E f ps (· = r)) (ha : Zaq L as = some ps) (hn : Zas as = true ∨ Zat r = true) (hk : awpOps P E X is (Zf fr d (.g c0 (.p r))) L K) : CallG c0 P E f as L d fr (contO P E X is K) :=
  .inl ⟨r, fun hc => pure_of (h hc) ha (hn.imp id fun h x e => by rw [e]; exact h), hk⟩
/-- A guarded call that may change something: by cases. -/
theorem useGC {c0 : Bool} {f : FuncId} {as : List AV} {d : Option Nat} {is : List IOper} (h : c0 = true → CallOp P E f as L d fr (contO P E X is K)) (hk : c0 = false → awpOps P E X is (Zf fr d (.g c0 .any)) L K) : CallG c0 P E f as L d fr (contO P E X is K) := .inr ⟨h, hk⟩
end
end Go.Proofs.YtpddiepfolfnoaaDoor

/- Contracts with one borrowed variable and with fresh rows: out of bodies, and at calls. -/
namespace Go.Proofs.YtpddiepfolfnoaaDoor
set_option linter.unusedVariables false
set_option linter.unusedSimpArgs false
set_option linter.defProp false

/-- A contract: bx: the object behind the first argument, if there is one. -/
def GCall (P : Program) (E : Envt) (f : FuncId) (bx : Option OS) (args : List PV) (post : RV → OS → Prop) : Prop :=
  ∀ (w : World) (U : Nat → Prop) (vs : List Value) (v0 : Value), (∀ c, U c → c < w.heap.size) → E.ok w → (∀ c, E.bl c → c < w.heap.size ∧ (bx.isSome = true → blk v0 ≠ some c)) → PRepL w U args vs →
    (match bx with | none => True | some os => (∀ c, blk v0 = some c → U c) ∧ ObjAt w U v0 os) →
    Calls P f ((match bx with | none => vs | some _ => v0 :: vs)).toArray w fun e w' => ∃ v r os', e = .returned v ∧ post r os' ∧ RVok w' U w.heap.size r v ∧
      (match bx with
       | none => Grow w w' (fun _ => False)
       | some _ => Grow w w' (fun c => blk v0 = some c) ∧ ObjAt w' (fun c => U c ∨ r.own v c) v0 os')

def noOS : OS := .box 0 []
/-- What a body must end with: a plain result. -/
def finP (bx : Option OS) (post : RV → OS → Prop) (x : PV) (L : Objs) : Prop :=
  match bx with
  | none => post (.p x) noOS
  | some _ => ∃ os', Zah L (.b 0) = some os'.ao ∧ post (.p x) os'
/-- .. or a fresh row in slot i. -/
def finF (bx : Option OS) (post : RV → OS → Prop) (i : Nat) (fr : List AV) (L : Objs) : Prop :=
  (∃ j es e z, fr.getD i .any = .row (.l j) ∧ Zah L (.l j) = some (.row es e z true) ∧
    match bx with
    | none => post (.fr es e z) noOS
    | some _ => ∃ os', Zah L (.b 0) = some os'.ao ∧ post (.fr es e z) os') ∨
  ∃ e z z0, fr.getD i .any = .p (.nl z0) ∧
    match bx with
    | none => post (.fr [] e z) noOS
    | some _ => ∃ os', Zah L (.b 0) = some os'.ao ∧ post (.fr [] e z) os'
def retF (i : Nat) (bx : Option OS) (post : RV → OS → Prop) : AQ
  | .normal, fr, L => finF bx post i fr L
  | .ret, fr, L => finF bx post i fr L
  | _, _, _ => False

theorem retF_r {i : Nat} {bx : Option OS} {post : RV → OS → Prop} {fr : List AV} {L : Objs} : retF i bx post .ret fr L = finF bx post i fr L := rfl
theorem retF_n {i : Nat} {bx : Option OS} {post : RV → OS → Prop} {fr : List AV} {L : Objs} : retF i bx post .normal fr L = finF bx post i fr L := rfl

def l0 (bx : Option OS) : Objs :=
  match bx with
  | none => []
  | some os => [(.b 0, os.ao)]
def a0 (bx : Option OS) (args : List PV) : List AV :=
  match bx with
  | none => args.map .p
  | some (.box _ _) => .adr (.b 0) 0 :: args.map .p
  | some (.row _ _ _) => .row (.b 0) :: args.map .p

section
variable {P : Program} {E : Envt}

theorem gcall_of_awp (hm : P.follows .mixedOrders = true) {f : FuncId} {fn : Func} {c : Code} {ic : IC} {bx : Option OS} {args : List PV} {post : RV → OS → Prop} {Q : AQ} (hf : P.funcs[f]? = some fn) (hb : fn.body = some c) (hchk : chkC P okDraw ic c = true)
    (h : awp P E ic (a0 bx args ++ List.replicate (fn.ntmps - (a0 bx args).length) .any) (l0 bx) Q)
    (hQ : ∀ (B : Base) (w' : World) (L : Objs) (ι : Key → Value) (fr : List AV) (a : Act) (e : Exit), Q e fr L → StF E B w' L ι fr a → B.L0 = l0 bx → (e = .normal ∨ e = .ret) ∧ ∃ v r os', (results fn a.tmps).run P w' = .ok v w' ∧ post r os' ∧ RVok w' (ZB L ι B.X) B.w0.heap.size r v ∧ (bx.isSome = true → Zah L (.b 0) = some os'.ao) ∧ (∀ b, r.own v b → Own L ι b)) : GCall P E f bx args post := by
  intro w U vs v0 hU hE hEb hA hB
  refine calls_of_wp hf hb ?_
  let ι : Key → Value := fun _ => v0
  let B : Base := { w0 := w, X := fun c => U c ∧ (bx.isSome = true → blk v0 ≠ some c), L0 := l0 bx, i0 := ι }
  have hlk : ∀ k q, Zah (l0 bx) k = some q → k = .b 0 ∧ ∃ os, bx = some os ∧ q = os.ao := by
    intro k q hq
    cases hbx : bx with
    | none => rw [hbx] at hq; simp [l0, Zah] at hq
    | some os =>
      rw [hbx] at hq
      simp only [l0, Zah] at hq
      split at hq
      · rename_i e; cases hq; exact ⟨e.symm, os, rfl, rfl⟩
      · cases hq
  have hO : ∀ c, Own (l0 bx) ι c → blk v0 = some c ∧ bx.isSome = true := by
    rintro c ⟨k, q, h1, h2⟩
    obtain ⟨_, os, e, _⟩ := hlk k q h1
    exact ⟨h2, by rw [e]; rfl⟩
  have hUb : ∀ c, (Own (l0 bx) ι c ∨ B.X c) → U c := by
    rintro c (h' | h')
    · obtain ⟨h1, hs⟩ := hO c h'
      cases hbx : bx with
      | none => rw [hbx] at hs; cases hs
      | some p => rw [hbx] at hB; exact hB.1 c h1
    · exact h'.1
  have hkeep : Keeps w w U (fun c => Own (l0 bx) ι c ∨ B.X c) := fun c _ hu => ⟨rfl, fun h => hu (hUb c h)⟩
  have hsim : Sim w B.X (l0 bx) ι := by
    constructor
    · intro k q hq
      obtain ⟨rfl, os, e, rfl⟩ := hlk k q hq
      rw [e] at hB
      exact ObjAt.ok (hB.2.mono hkeep (fun _ _ => rfl))
    · intro k k' q q' c h1 h2 _ _
      rw [(hlk k q h1).1, (hlk k' q' h2).1]
  have hst : St E B w (l0 bx) ι := ⟨Grow.refl _ _, hsim, fun c hc => .inl hc, fun c hc => hU c hc.1, fun k _ _ => rfl, hE, fun c hc => ⟨(hEb c hc).1, fun ho => by obtain ⟨e1, e2⟩ := hO c ho; exact (hEb c hc).2 e2 e1⟩, (fun i => by
    show Zah (l0 bx) (.l i) = none
    cases hq : Zah (l0 bx) (.l i) with
    | none => rfl
    | some q => have := (hlk _ _ hq).1; cases this), (fun c hc ho => by obtain ⟨e1, e2⟩ := hO c ho; exact hc.2 e2 e1)⟩
  have hlen := hA.length
  have hfr : ∀ as : List Value, ARepL w (fun c => Own (l0 bx) ι c ∨ B.X c) ι (a0 bx args) as → StF E B w (l0 bx) ι (a0 bx args ++ List.replicate (fn.ntmps - (a0 bx args).length) .any) { tmps := as.toArray ++ Array.replicate (fn.ntmps - as.toArray.size) undef, defers := [] } := by
    intro as has
    have hl : ∀ (xs : List AV) (ys : List Value), ARepL w (fun c => Own (l0 bx) ι c ∨ B.X c) ι xs ys → ys.length = xs.length ∧ ∀ (i : Nat) (x : AV), xs[i]? = some x → ∃ v, ys[i]? = some v ∧ ARep w (fun c => Own (l0 bx) ι c ∨ B.X c) ι x v := by
      intro xs
      induction xs with
      | nil => intro ys h; simp only [ARepL] at h; subst h; simp
      | cons x xs ih =>
        intro ys h
        simp only [ARepL] at h
        obtain ⟨v, r, rfl, h1, h2⟩ := h
        obtain ⟨g1, g2⟩ := ih r h2
        refine ⟨by simp [g1], fun i y hy => ?_⟩
        cases i with
        | zero => simp at hy; subst hy; exact ⟨v, rfl, h1⟩
        | succ i => simp at hy; simpa using g2 i y hy
    obtain ⟨g1, g2⟩ := hl _ _ has
    refine ⟨hst, ⟨by simp [g1], fun i x hx => ?_⟩, rfl⟩
    rw [List.getElem?_append] at hx
    split at hx
    · rename_i hi
      obtain ⟨v, hv, hrep⟩ := g2 i x hx
      refine ⟨v, ?_, hrep⟩
      rw [Array.getElem?_append_left (by simp; omega)]
      simpa using hv
    · rename_i hi
      rw [List.getElem?_replicate] at hx
      split at hx
      · rename_i hlt
        cases hx
        refine ⟨undef, ?_, trivial⟩
        rw [Array.getElem?_append_right (by simp; omega)]
        simp only [List.size_toArray]
        rw [Array.getElem?_replicate, if_pos (by rw [g1]; omega)]
      · cases hx
  have hargs : ARepL w (fun c => Own (l0 bx) ι c ∨ B.X c) ι (a0 bx args) (match bx with | none => vs | some _ => v0 :: vs) := by
    have hp : ∀ (xs : List PV) (ys : List Value), PRepL w U xs ys → ARepL w (fun c => Own (l0 bx) ι c ∨ B.X c) ι (xs.map .p) ys := by
      intro xs
      induction xs with
      | nil => intro ys h; simp only [PRepL] at h; subst h; simp [ARepL]
      | cons x xs ih =>
        intro ys h
        simp only [PRepL] at h
        obtain ⟨v, r, rfl, h1, h2⟩ := h
        simp only [List.map_cons, ARepL]
        exact ⟨v, r, rfl, PRep.mono hkeep _ _ h1, ih r h2⟩
    have hpv := hp args vs hA
    cases hbx : bx with
    | none => rw [hbx] at hpv; exact hpv
    | some os =>
      rw [hbx] at hpv hB
      cases os with
      | box t cs =>
        obtain ⟨b, vs', e1, _⟩ := hB.2
        simp only [a0, ARepL]
        exact ⟨_, _, rfl, ⟨b, e1, e1⟩, hpv⟩
      | row e z es =>
        obtain ⟨vs', h1, _⟩ := hB.2
        simp only [a0, ARepL]
        refine ⟨_, _, rfl, ⟨rfl, ?_⟩, hpv⟩
        rcases h1.2 with ⟨q1, _⟩ | ⟨g, cap, cur, fz, q1, _⟩
        · exact ⟨none, 0, 0, q1⟩
        · exact ⟨_, _, _, q1⟩
  refine wp_mono (awp_sound (drawOk hm) ic c _ _ _ hchk h B w ι _ (hfr _ hargs)) ?_
  rintro e a' w' ⟨fr', L', ι', q, hs'⟩
  obtain ⟨he, v, r, os', hv, hp, hr, hbox, hown⟩ := hQ B w' L' ι' fr' a' e q hs' rfl
  have hkey : bx.isSome = true → ι' (.b 0) = v0 := by
    intro e
    refine hs'.1.keep (.b 0) ?_ (by rw [hbox e]; rfl)
    show (Zah (l0 bx) (.b 0)).isSome = true
    obtain ⟨os, e⟩ := Option.isSome_iff_exists.1 e
    rw [e]; simp [l0, Zah]
  -- what is borrowed is the one object
  have hZ : ∀ c, U c → ZB L' ι' B.X c := by
    intro c hc
    by_cases hcb : bx.isSome = true ∧ blk v0 = some c
    · exact .inr ⟨0, _, hbox hcb.1, by rw [hkey hcb.1]; exact hcb.2⟩
    · exact .inl ⟨hc, fun h1 h2 => hcb ⟨h1, h2⟩⟩
  have hkz : Keeps w' w' (ZB L' ι' B.X) U := fun c _ hz => ⟨rfl, fun hu => hz (hZ c hu)⟩
  have hres : RVok w' U w.heap.size r v := by
    cases r with
    | p x => exact PRep.mono hkz _ _ hr
    | fr es e z =>
      obtain ⟨vs', r1, r2, r3, r4, r5⟩ := hr
      exact ⟨vs', r1, r2, PRepL.mono (fun c _ hz => ⟨rfl, fun hu => hz (hu.imp (hZ c) id)⟩) _ _ r3, r4, r5⟩
  have hg := hs'.1.grow
  have fin : ∃ v_1 r os', Ending.returned v = .returned v_1 ∧ post r os' ∧ RVok w' U w.heap.size r v_1 ∧ (match bx with | none => Grow w w' (fun _ => False) | some _ => Grow w w' (fun c => blk v0 = some c) ∧ ObjAt w' (fun c => U c ∨ r.own v_1 c) v0 os') := by
    refine ⟨v, r, os', rfl, hp, hres, ?_⟩
    cases hbx : bx with
    | none => exact ⟨hg.os, hg.tape, hg.output, hg.size, fun c hc _ => hg.block c hc (fun ho => by have := (hO c ho).2; rw [hbx] at this; cases this)⟩
    | some os =>
      have hbs : bx.isSome = true := by rw [hbx]; rfl
      refine ⟨⟨hg.os, hg.tape, hg.output, hg.size, fun c hc hn => hg.block c hc (fun ho => hn (hO c ho).1)⟩, ?_⟩
      have hat := ObjAt.of (hs'.1.sim.obj (.b 0) _ (hbox hbs))
      rw [hkey hbs] at hat
      refine hat.mono (fun c _ hz => ⟨rfl, fun hu => hz ?_⟩) (fun _ _ => rfl)
      rcases hu with hu | hu
      · rcases hZ c hu with h1 | ⟨i, q, h1, h2⟩
        · exact .inr h1
        · exact .inl ⟨_, q, h1, h2⟩
      · exact .inl (hown c hu)
  rcases he with rfl | rfl
  · exact ⟨hs'.2.2, v, hv, fin⟩
  · exact ⟨hs'.2.2, v, hv, fin⟩

/-- A contract with a plain result. -/
theorem gcallP (hm : P.follows .mixedOrders = true) {f : FuncId} {fn : Func} {ic : IC} {rs : List IRes} {n : Nat} {bx : Option OS} {args : List PV} {post : RV → OS → Prop} (hf : P.funcs[f]? = some fn) (hc : chkF P fn ic rs n = true)
    (h : awp P E ic (a0 bx args ++ List.replicate (n - (a0 bx args).length) .any) (l0 bx) (retQ rs (finP bx post))) : GCall P E f bx args post := by
  unfold chkF at hc
  split at hc
  · rename_i c hb
    simp only [Bool.and_eq_true, beq_iff_eq] at hc
    obtain ⟨⟨h1, h2⟩, rfl⟩ := hc
    refine gcall_of_awp hm hf hb h1 h ?_
    intro B w' L ι fr a e q hs hb0
    have key : RetK (Zam fr L rs) (finP bx post) L → ∃ v r os', (results fn a.tmps).run P w' = .ok v w' ∧ post r os' ∧ RVok w' (ZB L ι B.X) B.w0.heap.size r v ∧ (bx.isSome = true → Zah L (.b 0) = some os'.ao) ∧ (∀ b, r.own v b → Own L ι b) := by
      intro q
      obtain ⟨l, e1, e2⟩ := RetK_ex q
      obtain ⟨v, hv, hr⟩ := results_ok hs h2 e1
      cases hbx : bx with
      | none => rw [hbx] at e2; exact ⟨v, .p (mkRes l), noOS, hv, e2, hr, (fun h => by cases h), fun _ h => h.elim⟩
      | some p =>
        rw [hbx] at e2
        obtain ⟨cs', g1, g2⟩ := e2
        exact ⟨v, .p (mkRes l), cs', hv, g2, hr, (fun _ => g1), fun _ h => h.elim⟩
    cases e with
    | normal => exact ⟨.inl rfl, key q⟩
    | ret => exact ⟨.inr rfl, key q⟩
    | _ => exact q.elim
  · cases hc

/-- Contracts in short: a variable behind the first argument, a plain result. -/
def SCall (P : Program) (E : Envt) (f : FuncId) (t : TypeId) (cs args : List PV) (ψ : PV → List PV → Prop) : Prop := GCall P E f (some (.box t cs)) args fun r os => ∃ x cs', r = .p x ∧ os = .box t cs' ∧ ψ x cs'
/-- No object; a fresh row. -/
def FCall (P : Program) (E : Envt) (f : FuncId) (args : List PV) (e z : Nat) (φ : List (List PV) → Prop) : Prop := GCall P E f none args fun r _ => ∃ es, r = .fr es e z ∧ φ es
/-- A row is written in place; a plain result. -/
def RCall (P : Program) (E : Envt) (f : FuncId) (e z : Nat) (es : List (List PV)) (args : List PV) (ψ : PV → List (List PV) → Prop) : Prop := GCall P E f (some (.row e z es)) args fun r os => ∃ x es', r = .p x ∧ os = .row e z es' ∧ ψ x es'
variable {L : Objs} {fr : List AV} {X : List PV} {K : List AV → Objs → Prop}

def AV.key1 (k : Key) : OS → AV
  | .box _ _ => .adr k 0
  | .row _ _ _ => .row k
theorem gc_obj {f : FuncId} {as : List AV} {ps : List PV} {os : OS} {k : Key} {post : RV → OS → Prop} (h : GCall P E f (some os) ps post) (hl : Zah L k = some os.ao) (ha : Zaq L as = some ps) (hn : Zas as = true) : GC P E f (AV.key1 k os :: as) L (some (k, os)) post := by
  intro w X ι vs hs hX hE hEb hA
  simp only [ARepL] at hA
  obtain ⟨v0, vr, rfl, hv0, hA⟩ := hA
  have hv0 : v0 = ι k := by
    cases os with
    | box t cs => obtain ⟨b, e1, e2⟩ := hv0; rw [e1, e2]
    | row e z es => exact hv0.1
  subst hv0
  have hOb : ∀ c, blk (ι k) = some c → Own L ι c := fun c hc => ⟨k, _, hl, hc⟩
  refine (h w (fun b => Own L ι b ∨ X b) vr (ι k) (fun b hb => hb.elim (fun h => sim_own_lt hs h) (fun h => (hX b h).1)) hE (fun c hc => ⟨(hEb c hc).1, fun _ e => (hEb c hc).2 (hOb c e)⟩) (argPs_norow hn ha hA) ⟨fun c hc => .inl (hOb c hc), ObjAt.of (hs.obj k _ hl)⟩).mono ?_
  rintro e w' ⟨v, r, os', rfl, hp, hr, hG, hB⟩
  exact ⟨v, r, os', rfl, hp, hr, ⟨hG.os, hG.tape, hG.output, hG.size, fun c hc hn => hG.block c hc (fun ec => hn ⟨_, hl, ec⟩)⟩, hB⟩

/-- At a call: a variable changes, the result is plain. -/
theorem useS {f : FuncId} {as : List AV} {ps cs : List PV} {t : TypeId} {k : Key} {ψ : PV → List PV → Prop} {d : Option Nat} {is : List IOper} (h : SCall P E f t cs ps ψ) (hl : Zah L k = some (.box (cs.map .p) t)) (ha : Zaq L as = some ps) (hn : Zas as = true) (hs : Zau d (some (k, .box t cs)))
    (hk : ∀ x cs', ψ x cs' → awpOps P E X is (Zf fr d (.p x)) (Zai L k (.box (cs'.map .p) t)) K) : CallOp P E f (.adr k 0 :: as) L d fr (contO P E X is K) :=
  .inr (.inl ⟨some (k, .box t cs), _, gc_obj h hl ha hn, hl, hs, fun r os' hp => by obtain ⟨x, cs', rfl, rfl, hx⟩ := hp; exact hk x cs' hx⟩)
/-- Ends of bodies. -/
theorem GCall.mono {f : FuncId} {bx : Option OS} {args : List PV} {post post' : RV → OS → Prop} (h : GCall P E f bx args post) (hp : ∀ r os, post r os → post' r os) : GCall P E f bx args post' := by
  intro w U vs v0 hU hE hEb hA hB
  refine (h w U vs v0 hU hE hEb hA hB).mono ?_
  rintro e w' ⟨v, r, os', h1, h2, h3⟩
  exact ⟨v, r, os', h1, hp r os' h2, h3⟩
theorem RCall.mono {f : FuncId} {e z : Nat} {es : List (List PV)} {args : List PV} {ψ ψ' : PV → List (List PV) → Prop} (h : RCall P E f e z es args ψ) (hp : ∀ x es, ψ x es → ψ' x es) : RCall P E f e z es args ψ' :=
  GCall.mono h fun r os ⟨x, es', h1, h2, h3⟩ => ⟨x, es', h1, h2, hp x es' h3⟩
theorem FCall.mono {f : FuncId} {e z : Nat} {args : List PV} {φ φ' : List (List PV) → Prop} (h : FCall P E f args e z φ) (hp : ∀ es, φ es → φ' es) : FCall P E f args e z φ' :=
  GCall.mono h fun r os ⟨es, h1, h2⟩ => ⟨es, h1, hp es h2⟩
theorem PCall.mono {f : FuncId} {args : List PV} {φ φ' : PV → Prop} (h : PCall P E f args φ) (hp : ∀ x, φ x → φ' x) : PCall P E f args φ' := by
  intro w U vs hU hE hEb hA
  refine (h w U vs hU hE hEb hA).mono ?_
  rintro e w' ⟨v, x, h1, h2, h3⟩
  exact ⟨v, x, h1, hp x h2, h3⟩
theorem fin_S {t : TypeId} {cs : List PV} {ψ : PV → List PV → Prop} {x : PV} (cs' : List PV) (h1 : Zah L (.b 0) = some (.box (cs'.map .p) t)) (h2 : ψ x cs') : finP (some (.box t cs)) (fun r os => ∃ x cs', r = .p x ∧ os = .box t cs' ∧ ψ x cs') x L := ⟨.box t cs', h1, x, cs', rfl, rfl, h2⟩
end
end Go.Proofs.YtpddiepfolfnoaaDoor
