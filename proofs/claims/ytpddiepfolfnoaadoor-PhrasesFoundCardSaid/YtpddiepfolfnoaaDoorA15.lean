/- The small language's programs: their meaning (awp), and the check that one is what a translated body says. -/
import Derived.Test.YtpddiepfolfnoaaDoorA26
namespace Go.Proofs.YtpddiepfolfnoaaDoor
set_option linter.unusedVariables false
set_option linter.unusedSimpArgs false
set_option linter.defProp false

inductive IC where
  | skip
  | reg (ops : List IOper)
  | drg (ops : List IOper)
  | seq (a b : IC)
  | cond (c : Opd) (t e : IC)
  | block (id : Nat) (b : IC)
  | loop (b : IC)
  | exit (id : Nat)
  | ret
  | cut (b : IC)
  | dead

/-- Slots may be forgotten. -/
def Zb (a b : AV) : Prop :=
  match b with
  | .any => True
  | b => a = b
def Za : List AV → List AV → Prop
  | [], [] => True
  | a :: as, b :: bs => Zb a b ∧ Za as bs
  | _, _ => False
/-- Objects may be forgotten. -/
def Zc : Objs → Objs → Prop
  | [], _ => True
  | (k, a) :: r, L => Zah L k = some a ∧ Zc r L

def Zf (fr : List AV) (d : Option Nat) (r : AV) : List AV :=
  match d with
  | some d => fr.set d r
  | none => fr

def Zd (d : Option Nat) (fr : List AV) (L : Objs) : IOp → Option (Prop × List AV × Objs)
  | .nilr e z => match d with
    | some d => some (True, (fr.map (·.kill (.l d))).set d (.row (.l d)), Zak L (.l d) (.row [] e z true))
    | none => none
  | .alc t zero => match d with
    | some d => some (True, (fr.map (·.kill (.l d))).set d (.adr (.l d) 0), Zak L (.l d) (.box (zero.map .p) t))
    | none => none
  | .box t x => match d, (rd fr x).un with
    | some d, (c, .p v) => if Zz (Zy v) = true then some (c, (fr.map (·.kill (.l d))).set d (.adr (.l d) 0), Zak L (.l d) (.box ((Zy v).map .p) t)) else none
    | some d, (c, .row k) => some (c, (fr.map (·.kill (.l d))).set d (.adr (.l d) 0), Zak L (.l d) (.box [(AV.row k).kill (.l d)] t))
    | _, _ => none
  | .st sz p x => match (rd fr p).un, (rd fr x).un with
    | (cp, .adr k o), (cx, .p v) => match Zah L k with
      | some (.box cs bt) => if o + sz ≤ cs.length ∧ (Zy v).length = sz ∧ Zz (Zy v) = true then some (cp ∧ cx, fr, Zai L k (.box (Zab cs o ((Zy v).map .p)) bt)) else none
      | _ => none
    | (cp, .adr k o), (cx, .row k') => match Zah L k with
      | some (.box cs bt) => if o + 1 ≤ cs.length ∧ sz = 1 then some (cp ∧ cx, fr, Zai L k (.box (Zab cs o [.row k']) bt)) else none
      | _ => none
    | (cp, .rad k z i o), (cx, .p v) => match Zah L k with
      | some (.row es e z' ap) => if z' = z ∧ o + sz ≤ z ∧ (Zy v).length = sz ∧ Zz (Zy v) = true then some (cp ∧ cx ∧ i < es.length, fr, Zai L k (.row (es.set i (Zaa (es.getD i []) o ((Zy v).map wk1))) e z ap)) else none
      | _ => none
    | _, _ => none
  | .app e z by_ x y => match d, (rd fr x).un, Zv L (rd fr y).un.2 with
    | some d, (cx, .row (.l i)), some (z2, es2) => match Zah L (.l i) with
      | some (.row es e' z' true) => if e' = e ∧ z' = z ∧ z2 = z then some (cx ∧ (rd fr y).un.1 ∧ (es.length + es2.length) * by_ ≤ 140737488355328, (fr.map (·.kill (.l i))).set d (.row (.l i)), Zak L (.l i) (.row (es ++ es2) e z true)) else none
      | _ => none
    | some d, (cx, .p (.nl _)), some (z2, es2) => if z2 = z then some (cx ∧ (rd fr y).un.1 ∧ es2.length * by_ ≤ 140737488355328, (fr.map (·.kill (.l d))).set d (.row (.l d)), Zak L (.l d) (.row es2 e z true)) else none
    | _, _, _ => none
  | .bsr e z parts => match d, Zad fr z parts with
    | some d, some (c, es) => some (c, (fr.map (·.kill (.l d))).set d (.row (.l d)), Zak L (.l d) (.row es e z true))
    | _, _ => none
  | .s2b e x => match d, (rd fr x).un with
    | some d, (c, .p (.str l)) => some (c ∧ l.length ≤ 140737488355328, (fr.map (·.kill (.l d))).set d (.row (.l d)), Zak L (.l d) (.row (l.map fun q => [.int .u8 (q.toNat : Nat)]) e 1 false))
    | _, _ => none
  | .mks e z by_ zero x y => match d, (rd fr x).un, (rd fr y).un with
    | some d, (cx, .p (.int _ n)), (cy, .p (.int _ c)) => some (cx ∧ cy ∧ 0 ≤ n ∧ n ≤ c ∧ c * by_ ≤ 140737488355328, (fr.map (·.kill (.l d))).set d (.row (.l d)), Zak L (.l d) (.row (List.replicate n.toNat (zero.map wk1)) e z true))
    | _, _, _ => none
  | .apz e z by_ zero x y => match d, (rd fr x).un, (rd fr y).un with
    | some d, (cx, .p (.nl _)), (cy, .p (.int _ n)) => some (cx ∧ cy ∧ 0 < n ∧ n * by_ ≤ 140737488355328, (fr.map (·.kill (.l d))).set d (.row (.l d)), Zak L (.l d) (.row (List.replicate n.toNat (zero.map wk1)) e z true))
    | _, _, _ => none
  | .trn z x y => match d, (rd fr x).un, (rd fr y).un with
    | some d, (cx, .row (.l i)), (cy, .p (.int _ h)) => match Zah L (.l i) with
      | some (.row es e z' ap) => if z' = z ∧ ap = true then some (cx ∧ cy ∧ 0 ≤ h ∧ h ≤ es.length, (fr.map (·.kill (.l i))).set d (.row (.l i)), Zak L (.l i) (.row (es.take h.toNat) e z true)) else none
      | _ => none
    | _, _, _ => none
  | .mkm kt et => match d with
    | some d => some (True, (fr.map (·.kill (.l d))).set d (.mp (.l d)), Zak L (.l d) (.map [] kt et))
    | none => none
  | .mpu m k v => match d, (rd fr m).un, (rd fr k).un, (rd fr v).un with
    | none, (cm, .mp q), (ck, .p (.str s)), (cv, .p x) => match Zah L q with
      | some (.map kv kt et) => some (cm ∧ ck ∧ cv, fr, Zai L q (.map (mpS kv s x) kt et))
      | _ => none
    | _, _, _, _ => none
  | op => (Ze fr L op).map fun q => (q.1, Zf fr d q.2, L)

def Zh (want : Bool) : AV → Option Bool
  | .p (.bool b) => some (b == want)
  | .g c a => (Zh want a).map (c && ·)
  | _ => none
def Zg (fr : List AV) (s : Nat) (want : Bool) : Option Bool := Zh want (fr.getD s .any)

def Zl (fr : List AV) : List Opd → Prop
  | [] => True
  | x :: r => (rd fr x).un.1 ∧ Zl fr r
def Zm (fr : List AV) (args : List Opd) : List AV := args.map fun x => (rd fr x).un.2

def AV.clean (L L' : Objs) : AV → AV
  | .p x => .p x
  | .row k => if (Zah L k).isSome ∧ (Zah L' k).isSome then .row k else .any
  | .adr k o => if (Zah L k).isSome ∧ (Zah L' k).isSome then .adr k o else .any
  | .rad k z i o => if (Zah L k).isSome ∧ (Zah L' k).isSome then .rad k z i o else .any
  | .ipt z es i o => .ipt z es i o
  | .mp k => if (Zah L k).isSome ∧ (Zah L' k).isSome then .mp k else .any
  | .fn f ks => if ∀ k ∈ ks, (Zah L k).isSome ∧ (Zah L' k).isSome then .fn f ks else .any
  | .g c a => .g c (a.clean L L')
  | .any => .any

/-- A result: a plain value, or a fresh row. -/
inductive RV where
  | p (x : PV)
  | fr (es : List (List PV)) (e : TypeId) (z : Nat)

/-- How a result lies in the world behind the call: U: what it must not touch; n: the blocks below n are older. -/
def RVok (w : World) (U : Nat → Prop) (n : Nat) : RV → Value → Prop
  | .p x, v => PRep w U x v
  | .fr es e z, v => ∃ vs, RowOk w e z true v es.length vs ∧ (∀ u ∈ vs, u.oneCell' = true) ∧ PRepL w (fun b => U b ∨ blk v = some b) es.flatten vs ∧ (∀ x ∈ es, x.length = z) ∧ ∀ b, blk v = some b → n ≤ b

/-- The block that a fresh row takes. -/
def RV.own : RV → Value → Nat → Prop
  | .p _, _, _ => False
  | .fr .., v, b => blk v = some b

/-- An object that a caller lends: a variable with plain cells, or a row. -/
inductive OS where
  | box (t : TypeId) (cs : List PV)
  | row (e z : Nat) (es : List (List PV))
def OS.ao : OS → AO
  | .box t cs => .box (cs.map .p) t
  | .row e z es => .row es e z true
def ObjAt (w : World) (U : Nat → Prop) (v : Value) : OS → Prop
  | .box t cs => ∃ (b : Nat) (vs : List Value), v = .pointer (some ⟨b, 0, none⟩) ∧ w.heap[b]? = some (.cells vs.toArray t (0, 0)) ∧ (∀ u ∈ vs, u.oneCell' = true) ∧ PRepL w U cs vs
  | .row e z es => ∃ vs : List Value, RowOk w e z true v es.length vs ∧ (∀ u ∈ vs, u.oneCell' = true) ∧ PRepL w U es.flatten vs ∧ ∀ x ∈ es, x.length = z

theorem ObjAt.ok {w : World} {U : Nat → Prop} {ι : Key → Value} {k : Key} {os : OS} (h : ObjAt w U (ι k) os) : ObjOk w U ι k os.ao := by
  cases os with
  | box t cs =>
    obtain ⟨b, vs, e1, e2, e3, e4⟩ := h
    refine ⟨b, vs, e1, e2, by simpa using e4.length, e3, fun j x hx => ?_⟩
    rw [List.getElem?_map, Option.map_eq_some_iff] at hx
    obtain ⟨y, hy, rfl⟩ := hx
    exact e4.get hy
  | row e z es => exact h
theorem ObjAt.of {w : World} {U : Nat → Prop} {ι : Key → Value} {k : Key} {os : OS} (h : ObjOk w U ι k os.ao) : ObjAt w U (ι k) os := by
  cases os with
  | box t cs =>
    obtain ⟨b, vs, e1, e2, e3, e4, e5⟩ := h
    refine ⟨b, vs, e1, e2, e4, PRepL.of_get (by simpa using e3) (fun j x u hx hu => ?_)⟩
    obtain ⟨u', hu', hr'⟩ := e5 j (.p x) (by rw [List.getElem?_map, hx]; rfl)
    rw [hu'] at hu
    cases hu
    exact hr'
  | row e z es => exact h
theorem ObjAt.mono {w w' : World} {U U' : Nat → Prop} {v : Value} {os : OS} (hk : Keeps w w' U U') (hb : ∀ b, blk v = some b → w'.heap[b]? = w.heap[b]?) (h : ObjAt w U v os) : ObjAt w' U' v os := by
  cases os with
  | box t cs =>
    obtain ⟨b, vs, e1, e2, e3, e4⟩ := h
    exact ⟨b, vs, e1, by rw [hb b (by rw [e1]; rfl)]; exact e2, e3, PRepL.mono hk _ _ e4⟩
  | row e z es =>
    obtain ⟨vs, h1, h2, h3, h4⟩ := h
    refine ⟨vs, ⟨h1.1, ?_⟩, h2, PRepL.mono hk _ _ h3, h4⟩
    rcases h1.2 with g1 | ⟨g, cap, cur, fz, g1, g2, rest⟩
    · exact .inl g1
    · exact .inr ⟨g, cap, cur, fz, g1, by rw [hb g (by rw [g1]; rfl)]; exact g2, rest⟩

/-- A call that may change one object (bk: its key and what it holds). -/
def GC (P : Program) (E : Envt) (f : FuncId) (as : List AV) (L : Objs) (bk : Option (Key × OS)) (post : RV → OS → Prop) : Prop :=
  ∀ w X ι vs, Sim w X L ι → (∀ b, X b → b < w.heap.size ∧ ¬ Own L ι b) → E.ok w → (∀ b, E.bl b → b < w.heap.size ∧ ¬ Own L ι b) → ARepL w (fun b => Own L ι b ∨ X b) ι as vs →
    Calls P f vs.toArray w fun e w' => ∃ v r os', e = .returned v ∧ post r os' ∧ RVok w' (fun b => Own L ι b ∨ X b) w.heap.size r v ∧
      (match bk with
       | none => Grow w w' (fun _ => False)
       | some (k, _) => Grow w w' (Old L ι k) ∧ ObjAt w' (fun b => (Own L ι b ∨ X b) ∨ r.own v b) (ι k) os')

def putB (L : Objs) (bk : Option (Key × OS)) (os' : OS) : Objs :=
  match bk with
  | none => L
  | some (k, _) => Zai L k os'.ao
def hasB (L : Objs) (bk : Option (Key × OS)) : Prop :=
  match bk with
  | none => True
  | some (k, os) => Zah L k = some os.ao
def Zau (d : Option Nat) (bk : Option (Key × OS)) : Prop :=
  match bk, d with
  | some (k, _), some d => k ≠ .l d
  | _, _ => True
def resK (d : Option Nat) (fr : List AV) (L : Objs) (K : List AV → Objs → Prop) : RV → Prop
  | .p x => K (Zf fr d (.p x)) L
  | .fr es e z => match d with
    | some d => K ((fr.map (·.kill (.l d))).set d (.row (.l d))) (Zak L (.l d) (.row es e z true))
    | none => K fr L

def CallOp (P : Program) (E : Envt) (f : FuncId) (as : List AV) (L : Objs) (d : Option Nat) (fr : List AV) (K : List AV → Objs → Prop) : Prop :=
  (∃ φ : PV → Prop, PureC P E f as L φ ∧ ∀ x, φ x → K (Zf fr d (.p x)) L) ∨
  (∃ bk post, GC P E f as L bk post ∧ hasB L bk ∧ Zau d bk ∧ ∀ r os', post r os' → resK d fr (putB L bk os') K r) ∨
  Call P E f as L (fun r L' => K (Zf (fr.map (·.clean L L')) d r) L')

/-- A call in a region that draws its order: it turns one variable, and it has an outcome. -/
def DCallOp (b : Bool) (P : Program) (E : Envt) (f : FuncId) (as : List AV) (L : Objs) (d : Option Nat) (fr : List AV) (K : List AV → Objs → Prop) : Prop :=
  ∃ (k : Key) (t : TypeId) (cs : List PV) (post : PV → List PV → Prop), GC P E f as L (some (k, .box t cs)) (fun r os' => ∃ x cs', r = .p x ∧ os' = .box t cs' ∧ post x cs') ∧ Zah L k = some (.box (cs.map .p) t) ∧ (∀ e, d = some e → k ≠ .l e) ∧ (b = true → ∃ j, k = .b j) ∧ (∃ x cs', post x cs') ∧
    ∀ x cs', post x cs' → K (Zf fr d (.p x)) (Zai L k (.box (cs'.map .p) t))

def CallG (c0 : Bool) (P : Program) (E : Envt) (f : FuncId) (as : List AV) (L : Objs) (d : Option Nat) (fr : List AV) (K : List AV → Objs → Prop) : Prop :=
  (∃ x : PV, (c0 = true → PureC P E f as L (· = x)) ∧ K (Zf fr d (.g c0 (.p x))) L) ∨ ((c0 = true → CallOp P E f as L d fr K) ∧ (c0 = false → K (Zf fr d (.g c0 .any)) L))

def Zaf (fr : List AV) (L : Objs) (x : Opd) : Option (Key × Nat × List (List PV)) :=
  match (rd fr x).un.2 with
  | .row k => match Zah L k with
    | some (.row es _ z _) => some (k, z, es)
    | _ => none
  | _ => none

def Zag (fr : List AV) (x : Opd) : Option (FuncId × List AV) :=
  match (rd fr x).un with
  | (_, .fn f ks) => some (f, ks.map fun k => .adr k 0)
  | (_, .p (.clo f ps)) => some (f, ps.map .p)
  | _ => none

def Zk (L : Objs) : List AV → Bool
  | [] => true
  | .adr k _ :: r => (match Zah L k with | some (.box _ _) => true | _ => false) && Zk L r
  | _ :: r => Zk L r
def fnB (P : Program) (f : FuncId) : Bool :=
  match P.funcs[f]? with
  | some fn => fn.body.isSome && fn.name != "runtime.NumGoroutine"
  | none => false

/-- Operations that may be left undefined where their guard is false. -/
def plainOp : IOp → Bool
  | .ldl .. | .dcall .. | .dead => false
  | _ => true

def awpOps (P : Program) (E : Envt) (X : List PV) : List IOper → List AV → Objs → (List AV → Objs → Prop) → Prop
  | [], fr, L, K => K fr L
  | ⟨d, op, gd⟩ :: is, fr, L, K =>
    match gd with
    | none => match op with
      | .call f args => Zl fr args ∧ CallOp P E f (Zm fr args) L d fr (fun fr L => awpOps P E X is fr L K)
      | .dcall b f args => Zl fr args ∧ DCallOp b P E f (Zm fr args) L d fr (fun fr L => awpOps P E X is fr L K)
      | .pcall n f args => (Zl fr args ∧ PureC P E f (Zm fr args) L (· = X.getD n (.bool false))) ∧ awpOps P E X is (Zf fr d (.p (X.getD n (.bool false)))) L K
      | .callv g args => match Zag fr g with
        | some (f, ks) => (rd fr g).un.1 ∧ fnB P f = true ∧ Zk L ks = true ∧ Zl fr args ∧ CallOp P E f (Zm fr args ++ ks) L d fr (fun fr L => awpOps P E X is fr L K)
        | none => False
      | .fz x => match Zaf fr L x with
        | some (k, z, es) => awpOps P E X is (fr.map (·.thaw k z es)) (Zal k z es L) K
        | none => awpOps P E X is fr L K
      | op => match Zd d fr L op with
        | some (c, fr', L') => c ∧ awpOps P E X is fr' L' K
        | none => False
    | some (s, want) => match Zg fr s want with
      | some c0 => match op with
        | .call f args => (c0 = true → Zl fr args) ∧ CallG c0 P E f (Zm fr args) L d fr (fun fr L => awpOps P E X is fr L K)
        | .pcall n f args => (c0 = true → Zl fr args ∧ PureC P E f (Zm fr args) L (· = X.getD n (.bool false))) ∧ awpOps P E X is (Zf fr d (.g c0 (.p (X.getD n (.bool false))))) L K
        | op => match Ze fr L op with
          | some (c, r) => (c0 = true → c) ∧ awpOps P E X is (Zf fr d (.g c0 r)) L K
          | none => plainOp op = true ∧ c0 = false ∧ awpOps P E X is (Zf fr d (.g c0 .any)) L K
      | none => False

def BrQ (b : Bool) (x y : Prop) : Prop := (b = true → x) ∧ (b = false → y)

def awp (P : Program) (E : Envt) : IC → List AV → Objs → AQ → Prop
  | .skip, fr, L, Q => Q .normal fr L
  | .reg ops, fr, L, Q => awpOps P E [] ops fr L (Q .normal)
  | .drg ops, fr, L, Q => ∃ X, awpOps P E X ops fr L (Q .normal)
  | .seq x y, fr, L, Q => awp P E x fr L (thenQ (fun fr L => awp P E y fr L Q) Q)
  | .cond c x y, fr, L, Q => match (rd fr c) with
    | .p (.bool b) => BrQ b (awp P E x fr L Q) (awp P E y fr L Q)
    | _ => False
  | .block id x, fr, L, Q => awp P E x fr L (blockQ id Q)
  | .loop x, fr, L, Q => ∃ (I : Nat → List AV → Objs → Prop), (∃ n fr' L', Za fr fr' ∧ Zc L' L ∧ I n fr' L') ∧ ∀ n fr L, I n fr L → awp P E x fr L (thenQ (fun fr L => ∃ m fr' L', m < n ∧ Za fr fr' ∧ Zc L' L ∧ I m fr' L') Q)
  | .exit id, fr, L, Q => Q (.exit id) fr L
  | .ret, fr, L, Q => Q .ret fr L
  | .cut x, fr, L, Q => ∃ fr' L', Za fr fr' ∧ Zc L' L ∧ awp P E x fr' L' Q
  | .dead, _, _, _ => False

def strT (P : Program) (t : TypeId) : Bool := match P.underlying t with | some .string => true | _ => false
def boolT (P : Program) (t : TypeId) : Bool := match P.underlying t with | some .bool => true | _ => false
def slT (P : Program) (t : TypeId) : Option TypeId := match P.underlying t with | some (.slice e) => some e | _ => none
def intT (P : Program) (t : TypeId) : Option IntKind := match P.underlying t with | some (.int k) => some k | _ => none

def chkOp (P : Program) : Op → IOp → Bool
  | .move x, .mov y => okOpd x y
  | .assign x, .mov y => okOpd x y
  | .move x, .nilr e z => okOpd x (.c (.nl z))
  | .assign x, .nilr e z => okOpd x (.c (.nl z))
  | .pick c x y, .pick c' x' y' => okOpd c c' && okOpd x x' && okOpd y y'
  | .binOp op t x y _, .bin op' x' y' => op == op' && okOpd x x' && okOpd y y'
  | .binOp op t x y _, .bnb op' x' y' => op == op' && okOpd x x' && okOpd y y' && boolT P t
  | .binOp op t x y _, .eqa neg ks x' y' => op == (if neg then .neq else .eql) && okOpd x x' && okOpd y y' && flatT P t ks
  | .unOp .not t x, .not x' => okOpd x x'
  | .unOp .neg t x, .neg x' => okOpd x x'
  | .call { callee := .builtin .len, args := args, argTypes := ts }, .len x' => match args.toList, ts.toList with
    | [x], [t] => okOpd x x' && (slT P t).isSome
    | _, _ => false
  | .call { callee := .builtin .len, args := args, argTypes := ts }, .sln x' => match args.toList, ts.toList with
    | [x], [t] => okOpd x x' && strT P t
    | _, _ => false
  | .call { callee := .builtin .max, args := args, argTypes := ts }, .mx x' y' => match args.toList with
    | [x, y] => okOpd x x' && okOpd y y'
    | _ => false
  | .call { callee := .builtin .min, args := args, argTypes := ts }, .mn x' y' => match args.toList with
    | [x, y] => okOpd x x' && okOpd y y'
    | _ => false
  | .index t x i, .idx x' i' => okOpd x x' && okOpd i i' && strT P t
  | .slice t x lo hi none, .ssl x' lo' hi' => okOpd x x' && okOpt lo lo' && okOpt hi hi' && strT P t
  | .slice t x lo hi none, .vsl z x' lo' hi' => okOpd x x' && okOpt lo lo' && okOpt hi hi' && (match slT P t with | some e => sizeB P e z | none => false)
  | .indexAddr t x i, .ixa z x' i' => okOpd x x' && okOpd i i' && (match slT P t with | some e => sizeB P e z | none => false)
  | .fieldAddr s x f, .fla off x' => okOpd x x' && (match P.underlying s with
    | some (.struct fs) => match fs[f]? with
      | some fd => fd.offset == off && decide (0 < P.cellsOf fd.type)
      | none => false
    | _ => false)
  | .field s x f, .fld off sz ag x' => okOpd x x' && (match P.underlying s with
    | some (.struct fs) => match fs[f]? with
      | some fd => fd.offset == off && sizeB P fd.type sz && aggB P fd.type ag && (ag || sz == 1)
      | none => false
    | _ => false)
  | .load t x, .ld sz ag x' => okOpd x x' && sizeB P t sz && aggB P t ag && (ag || sz == 1)
  | .extract x i, .ext i' x' => okOpd x x' && i == i'
  | .build t parts, .bld zero parts' => zeroB P t zero && (match P.underlying t with
    | some (.struct fs) => okParts P ((fs.map fun f => (f.offset, P.cellsOf f.type))[·]?) zero.length parts.toList parts' && (fs.toList.all fun f => (P.info? f.type).isSome)
    | _ => false)
  | .convert s d x, .cvi k x' => okOpd x x' && (P.underlying s).isSome && intT P d == some k
  | .convert s d x, .cvs x' => okOpd x x' && (intT P s).isSome && strT P d
  | .convert s d x, .b2s x' => okOpd x x' && strT P d && (match slT P s with | some e => intT P e == some .u8 | none => false)
  | .convert s d x, .s2b e x' => okOpd x x' && (P.underlying s).isSome && slT P d == some e && intT P e == some .u8
  | .buildSlice t n parts, .bsl z parts' => (match slT P t with | some e => sizeB P e z && ((P.info? e).bind (·.zero)).isSome | none => false) && parts.toList.length == n && decide (n * z ≤ 16777216) && okDense 0 parts.toList parts'
  | .buildSlice t n parts, .bsr e z parts' => slT P t == some e && sizeB P e z && ((P.info? e).bind (·.zero)).isSome && parts.toList.length == n && decide (n * z ≤ 16777216) && decide (n ≤ 16777216) && okDense 0 parts.toList parts'
  | .nilCheck x, .nck x' => okOpd x x'
  | .makeFunc (.func f) first caps, .mkf f' caps' => f == f' && first.toList.isEmpty && okOpds caps.toList caps'
  | .alloc t, .alc t' zero => t == t' && zeroB P t zero
  | .box t x, .box t' x' => t == t' && okOpd x x'
  | .store t p x, .st sz p' x' => okOpd p p' && okOpd x x' && sizeB P t sz
  | .call { callee := .builtin .append, args := args, argTypes := ts }, .app e z by_ x' y' => match args.toList, ts.toList with
    | [x, y], [t, t'] => t == t' && okOpd x x' && okOpd y y' && slT P t == some e && appB P e z by_
    | _, _ => false
  | .makeSlice t x y, .mks e z by_ zero x' y' => okOpd x x' && okOpd y y' && slT P t == some e && appB P e z by_ && zeroB P e zero
  | .call { callee := .value (.func f), args := args, argTypes := ts }, .call f' args' => f == f' && fnB P f && okOpds args.toList args'
  | .call { callee := .value (.func f), args := args, argTypes := ts }, .pcall _ f' args' => f == f' && fnB P f && okOpds args.toList args'
  | .call { callee := .value (.tmp g), args := args, argTypes := ts }, .callv (.t g') args' => g == g' && okOpds args.toList args'
  | .call { callee := .builtin .cap, args := args, argTypes := ts }, .cap0 x' => match args.toList, ts.toList with
    | [x], [t] => okOpd x x' && (slT P t).isSome
    | _, _ => false
  | .slice t x none (some hi) none, .vsn x' hi' => okOpd x x' && okOpd hi hi' && (match slT P t with | some e => (P.info? e).isSome | none => false)
  | .slice t x none (some hi) none, .trn z x' hi' => okOpd x x' && okOpd hi hi' && (match slT P t with | some e => sizeB P e z | none => false)
  | .call { callee := .builtin .append, args := args, argTypes := ts }, .apz e z by_ zero x' y' => match args.toList, ts.toList with
    | [x, y], [t, t'] => okOpd x x' && okOpd y y' && slT P t == some e && (intT P t').isSome && appB P e z by_ && zeroB P e zero
    | _, _ => false
  | .makeMap t none, .mkm kt et => match P.underlying t with
    | some (.map kt' et') => kt' == kt && et' == et
    | _ => false
  | .mapUpdate t m k x, .mpu m' k' x' => okOpd m m' && okOpd k k' && okOpd x x' && (match P.underlying t with
    | some (.map kt _) => strT P kt
    | _ => false)
  | .insert t m k x, .mpu m' k' x' => okOpd m m' && okOpd k k' && okOpd x x' && (match P.underlying t with
    | some (.map kt _) => strT P kt
    | _ => false)
  | .lookup t m k ok, .mpl ok' zero m' k' => ok == ok' && okOpd m m' && okOpd k k' && (match P.underlying t with
    | some (.map kt et) => strT P kt && zero1B P et zero
    | _ => false)
  | .call { callee := .builtin .len, args := args, argTypes := ts }, .mpn x' => match args.toList, ts.toList with
    | [x], [t] => okOpd x x' && (match P.underlying t with | some (.map ..) => true | _ => false)
    | _, _ => false
  | _, _ => false

def isSt : IOp → Bool
  | .st .. => true
  | _ => false

def chkOper0 (P : Program) (ops : Array Oper) (o : Oper) (i : IOper) : Bool :=
  o.dst == i.dst && chkOp P o.op i.op && (!isSt i.op || i.dst == none) &&
  (match o.guard, i.guard with
   | none, none => true
   | some (j, w), some (s, w') => w == w' && (ops[j]?).bind (·.dst) == some s
   | _, _ => false)

def IOp.norm : IOp → IOp
  | .ldl s a x => .ld s a x
  | .dcall _ f args => .call f args
  | i => i
def isDead : IOp → Bool
  | .dead => true
  | _ => false
def chkOper (P : Program) (ops : Array Oper) (o : Oper) (i : IOper) : Bool :=
  isDead i.op || chkOper0 P ops o { i with op := i.op.norm }

def isFz : IOper → Bool
  | ⟨none, .fz _, none⟩ => true
  | _ => false

def chkOps (P : Program) (ops : Array Oper) : List Oper → List IOper → Bool
  | os, [] => os.isEmpty
  | os, i :: is => if isFz i then chkOps P ops os is else match os with
    | o :: os => chkOper P ops o i && chkOps P ops os is
    | [] => false

def chkC (P : Program) (D : Array Oper → List IOper → Bool) : IC → Code → Bool
  | .skip, .skip => true
  | .reg is, .region _ ops false => chkOps P ops ops.toList is
  | .drg is, .region _ ops true => chkOps P ops ops.toList is && D ops is
  | .seq x y, .seq a b => chkC P D x a && chkC P D y b
  | .cond d x y, .cond c a b => okOpd c d && chkC P D x a && chkC P D y b
  | .block j x, .block i a => i == j && chkC P D x a
  | .loop x, .loop a => chkC P D x a
  | .exit j, .exit i => i == j
  | .ret, .ret => true
  | .cut x, c => chkC P D x c
  | .dead, _ => true
  | _, _ => false
end Go.Proofs.YtpddiepfolfnoaaDoor
