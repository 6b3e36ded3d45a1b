/- A small language for Go's operations on abstract values: its meaning (Ze), and the check that it is what a translated operation says. -/
import Derived.Test.YtpddiepfolfnoaaDoorA2
import Derived.Laws.StructEq
import Derived.WalkKit
namespace Go.Proofs.YtpddiepfolfnoaaDoor
set_option linter.unusedVariables false
set_option linter.unusedSimpArgs false
set_option linter.defProp false

inductive Opd where
  | t (i : Nat)
  | c (x : PV)
  | f (n : FuncId)
  | gl (g : Nat)

/-- The kinds of the parts of a flat struct. -/
inductive FK where
  | i | s | b
  deriving DecidableEq

inductive IOp where
  | mov (x : Opd)
  | pick (c a b : Opd)
  | bin (op : BinOp) (x y : Opd)
  | bnb (op : BinOp) (x y : Opd)
  | eqa (neg : Bool) (ks : List FK) (x y : Opd)
  | not (x : Opd)
  | neg (x : Opd)
  | len (x : Opd)
  | sln (x : Opd)
  | mx (x y : Opd)
  | mn (x y : Opd)
  | idx (x i : Opd)
  | ssl (x : Opd) (lo hi : Option Opd)
  | vsl (z : Nat) (x : Opd) (lo hi : Option Opd)
  | ixa (z : Nat) (x i : Opd)
  | fla (off : Nat) (x : Opd)
  | fld (off sz : Nat) (ag : Bool) (x : Opd)
  | ld (sz : Nat) (ag : Bool) (a : Opd)
  | ext (i : Nat) (x : Opd)
  | bld (zero : List PV) (parts : List (Nat × Nat × Opd))
  | cvi (k : IntKind) (x : Opd)
  | cvs (x : Opd)
  | b2s (x : Opd)
  | bsl (z : Nat) (parts : List Opd)
  | nck (x : Opd)
  | mkf (f : FuncId) (caps : List Opd)
  -- what changes the owned objects
  | nilr (e z : Nat)
  | alc (t : TypeId) (zero : List PV)
  | box (t : TypeId) (x : Opd)
  | st (sz : Nat) (a x : Opd)
  | app (e z by_ : Nat) (x y : Opd)
  | bsr (e z : Nat) (parts : List Opd)
  | s2b (e : Nat) (x : Opd)
  | mks (e z by_ : Nat) (zero : List PV) (n c : Opd)
  | fz (x : Opd)
  | call (f : FuncId) (args : List Opd)
  | pcall (n : Nat) (f : FuncId) (args : List Opd)
  | callv (f : Opd) (args : List Opd)
  -- a call that turns one variable, in a region that draws its order; b: the variable is borrowed
  | dcall (b : Bool) (f : FuncId) (args : List Opd)
  -- a load that reads no borrowed variable
  | ldl (sz : Nat) (ag : Bool) (a : Opd)
  -- what is never reached
  | dead
  -- of a nil slice: its capacity, its slice; zeros behind it; a row cut short
  | cap0 (x : Opd)
  | vsn (x hi : Opd)
  | apz (e z by_ : Nat) (zero : List PV) (x n : Opd)
  | trn (z : Nat) (x hi : Opd)

structure IOper where
  dst : Option Nat
  op : IOp
  guard : Option (Nat × Bool) := none

def rd (fr : List AV) : Opd → AV
  | .t i => fr.getD i .any
  | .c x => .p x
  | .f n => .fn n []
  | .gl g => .p (.raw (.pointer (some ⟨g, 0, none⟩)))

/-- What a slot says, and what must hold for it to be there. -/
def AV.un : AV → Prop × AV
  | .g c a => (c = true ∧ a.un.1, a.un.2)
  | a => (True, a)

def I64 (n : Int) : Prop := -9223372036854775808 ≤ n ∧ n ≤ 9223372036854775807
def bytesLess (x y : List UInt8) : Bool := Op.bytesLess x y

def Zp (k : IntKind) (n : Int) : Prop × PV := if k = .i64 then (I64 n, .int k n) else (True, .int k (k.wrap n))
def Zl (k : IntKind) (a b : Int) : BinOp → Option (Prop × PV)
  | .add => some (Zp k (a + b))
  | .sub => some (Zp k (a - b))
  | .mul => some (Zp k (a * b))
  | .quo => some (b ≠ 0 ∧ (Zp k (a.tdiv b)).1, (Zp k (a.tdiv b)).2)
  | .rem => some (b ≠ 0, .int k (a.tmod b))
  | .eql => some (True, .bool (decide (a = b)))
  | .neq => some (True, .bool (!decide (a = b)))
  | .lss => some (True, .bool (decide (a < b)))
  | .leq => some (True, .bool (decide (a ≤ b)))
  | .gtr => some (True, .bool (decide (b < a)))
  | .geq => some (True, .bool (decide (b ≤ a)))
  | _ => none
def Zm (k : IntKind) (a b : Int) : BinOp → Option (Prop × PV)
  | .shr => some (0 ≤ b, .int k (a.fdiv (2 ^ (min b.toNat k.bits))))
  | .shl => some (0 ≤ b, .int k (k.wrap (a * 2 ^ (min b.toNat k.bits))))
  | _ => none
def Zn (x y : List UInt8) : BinOp → Option (Prop × PV)
  | .add => some (((x.length + y.length : Nat) : Int) ≤ 9223372036854775807, .str (x ++ y))
  | .eql => some (True, .bool (decide (x = y)))
  | .neq => some (True, .bool (!decide (x = y)))
  | .lss => some (True, .bool (bytesLess x y))
  | .leq => some (True, .bool (bytesLess x y || decide (x = y)))
  | .gtr => some (True, .bool (!(bytesLess x y || decide (x = y))))
  | .geq => some (True, .bool (!bytesLess x y))
  | _ => none
def Zo (x y : Bool) : BinOp → Option (Prop × PV)
  | .eql => some (True, .bool (x == y))
  | .neq => some (True, .bool (!(x == y)))
  | _ => none
def Zk (op : BinOp) : PV → PV → Option (Prop × PV)
  | .int k a, .int k' b => match op with
    | .shr => Zm k a b .shr
    | .shl => Zm k a b .shl
    | op => if k = k' then Zl k a b op else none
  | .str x, .str y => Zn x y op
  | _, _ => none

/-- Equality of flat structs. -/
def Zq : List FK → List PV → List PV → Option Bool
  | [], [], [] => some true
  | .i :: ks, .int k a :: xs, .int k' b :: ys => if k = k' then (Zq ks xs ys).map (decide (a = b) && ·) else none
  | .s :: ks, .str a :: xs, .str b :: ys => (Zq ks xs ys).map (decide (a = b) && ·)
  | .b :: ks, .bool a :: xs, .bool b :: ys => (Zq ks xs ys).map ((a == b) && ·)
  | _, _, _ => none

def Zr (n : Nat) : Option AV → Nat → Option (Prop × Nat)
  | none, d => some (True, d)
  | some v, _ => match v.un with
    | (c, .p (.int _ i)) => some (c ∧ 0 ≤ i ∧ i ≤ n, i.toNat)
    | _ => none

/-- The elements of a slice that is plain, or a row of the call's own. -/
def Zs (L : Objs) : AV → Option (Nat × List (List PV))
  | .p (.sl z es) => some (z, es)
  | .p (.nl z) => some (z, [])
  | .row k => match Zae L k with
    | some (.row es _ z _) => some (z, es)
    | _ => none
  | _ => none

/-- A nil slice as a slice of no elements. -/
def wk1 : PV → PV
  | .nl z => .sl z []
  | x => x
def wk : PV → PV
  | .agg cs => .agg (cs.map wk1)
  | .tup cs => .tup (cs.map wk1)
  | x => wk1 x

def Zt : List AV → Option (List PV)
  | [] => some []
  | .p x :: r => (Zt r).map (x :: ·)
  | _ :: _ => none

def Zu : PV → Bool
  | .agg _ | .tup _ => false
  | _ => true

def Zv : PV → List PV
  | .agg cs => cs
  | x => [x]

def Zw (l : List PV) : Bool := l.all Zu

def Zx (cs : List PV) (off : Nat) : List PV → List PV
  | [] => cs
  | x :: r => Zx (cs.set off x) (off + 1) r

def Zz (fr : List AV) : List PV → List (Nat × Nat × Opd) → Option (Prop × List PV)
  | cs, [] => some (True, cs)
  | cs, (off, sz, x) :: r =>
    match (rd fr x).un with
    | (c, .p v) => if (Zv v).length = sz ∧ Zw (Zv v) = true then (Zz fr (Zx cs off (Zv v)) r).map fun q => (c ∧ q.1, q.2) else none
    | _ => none

def Zaa (fr : List AV) (z : Nat) : List Opd → Option (Prop × List (List PV))
  | [] => some (True, [])
  | x :: r =>
    match (rd fr x).un with
    | (c, .p v) => if (Zv v).length = z ∧ Zw (Zv v) = true then (Zaa fr z r).map fun q => (c ∧ q.1, (Zv v).map wk1 :: q.2) else none
    | _ => none

def bytesP : List (List PV) → Option (List UInt8)
  | [] => some []
  | [.int .u8 n] :: r => (bytesP r).map (UInt8.ofNat n.toNat :: ·)
  | _ => none

def Zab : List AV → Option (List Key)
  | [] => some []
  | .adr k 0 :: r => (Zab r).map (k :: ·)
  | _ => none

/-- The operations that leave the objects alone: what must hold, and the result. -/
def Ze (fr : List AV) (L : Objs) : IOp → Option (Prop × AV)
  | .mov x => some (True, rd fr x)
  | .pick c a b => match (rd fr c).un, (rd fr a).un, (rd fr b).un with
    | (cc, .p (.bool t)), (ca, .p (.bool x)), (cb, .p (.bool y)) => some (cc ∧ (t = true → ca) ∧ (t = false → cb), .p (.bool (bif t then x else y)))
    | (cc, .p (.bool t)), (ca, .p (.bool x)), (_, .any) => some (cc ∧ ca ∧ t = true, .p (.bool x))
    | (cc, .p (.bool t)), (_, .any), (cb, .p (.bool y)) => some (cc ∧ cb ∧ t = false, .p (.bool y))
    | _, _, _ => none
  | .bin op x y => match (rd fr x).un, (rd fr y).un with
    | (cx, .p a), (cy, .p b) => (Zk op a b).map fun q => (cx ∧ cy ∧ q.1, .p q.2)
    | _, _ => none
  | .bnb op x y => match (rd fr x).un, (rd fr y).un with
    | (cx, .p (.bool a)), (cy, .p (.bool b)) => (Zo a b op).map fun q => (cx ∧ cy ∧ q.1, .p q.2)
    | _, _ => none
  | .eqa neg ks x y => match (rd fr x).un, (rd fr y).un with
    | (cx, .p (.agg a)), (cy, .p (.agg b)) => (Zq ks a b).map fun q => (cx ∧ cy, .p (.bool (if neg then !q else q)))
    | _, _ => none
  | .not x => match (rd fr x).un with
    | (c, .p (.bool b)) => some (c, .p (.bool !b))
    | _ => none
  | .neg x => match (rd fr x).un with
    | (c, .p (.int .i64 n)) => some (c ∧ I64 (0 - n), .p (.int .i64 (0 - n)))
    | _ => none
  | .len x => (Zs L (rd fr x).un.2).map fun q => ((rd fr x).un.1, .p (.int .i64 q.2.length))
  | .sln x => match (rd fr x).un with
    | (c, .p (.str s)) => some (c, .p (.int .i64 s.length))
    | _ => none
  | .mx x y => match (rd fr x).un, (rd fr y).un with
    | (cx, .p (.int .i64 a)), (cy, .p (.int .i64 b)) => some (cx ∧ cy, .p (.int .i64 (max a b)))
    | _, _ => none
  | .mn x y => match (rd fr x).un, (rd fr y).un with
    | (cx, .p (.int .i64 a)), (cy, .p (.int .i64 b)) => some (cx ∧ cy, .p (.int .i64 (min a b)))
    | _, _ => none
  | .idx x i => match (rd fr x).un, (rd fr i).un with
    | (cx, .p (.str s)), (ci, .p (.int _ n)) => some (cx ∧ ci ∧ 0 ≤ n ∧ n < s.length, .p (.int .u8 ((s.getD n.toNat 0).toNat : Nat)))
    | _, _ => none
  | .ssl x lo hi => match (rd fr x).un with
    | (c, .p (.str s)) => match Zr s.length (hi.map (rd fr)) s.length with
      | some (ch, h) => (Zr h (lo.map (rd fr)) 0).map fun q => (c ∧ ch ∧ q.1, .p (.str ((s.take h).drop q.2)))
      | none => none
    | _ => none
  | .vsl z' x lo hi => match (rd fr x).un with
    | (c, .p (.sl z es)) => if z' = z then match Zr es.length (hi.map (rd fr)) es.length with
      | some (ch, h) => (Zr h (lo.map (rd fr)) 0).map fun q => (c ∧ ch ∧ q.1, .p (.sl z ((es.take h).drop q.2)))
      | none => none
      else none
    | _ => none
  | .ixa z x i => match (rd fr x).un, (rd fr i).un with
    | (cx, .p (.sl z' es)), (ci, .p (.int _ n)) => if z' = z then some (cx ∧ ci ∧ 0 ≤ n ∧ n < es.length, .ipt z es n.toNat 0) else none
    | (cx, .row k), (ci, .p (.int _ n)) => match Zae L k with
      | some (.row es _ z' _) => if z' = z then some (cx ∧ ci ∧ 0 ≤ n ∧ n < es.length, .rad k z n.toNat 0) else none
      | _ => none
    | _, _ => none
  | .fla off x => match (rd fr x).un with
    | (c, .adr k o) => some (c, .adr k (o + off))
    | (c, .rad k z i o) => some (c, .rad k z i (o + off))
    | (c, .ipt z es i o) => some (c, .ipt z es i (o + off))
    | _ => none
  | .fld off sz ag x => match (rd fr x).un with
    | (c, .p (.agg cs)) => if off + sz ≤ cs.length then some (c, .p (if ag then .agg ((cs.drop off).take sz) else cs.getD off (.bool false))) else none
    | _ => none
  | .ld sz ag a => match (rd fr a).un with
    | (c, .ipt z es i o) => if o + sz ≤ z then some (c ∧ i < es.length, .p (if ag then .agg (((es.getD i []).drop o).take sz) else (es.getD i []).getD o (.bool false))) else none
    | (c, .rad k z i o) => match Zae L k with
      | some (.row es _ z' _) => if z' = z ∧ o + sz ≤ z then some (c ∧ i < es.length, .p (if ag then .agg (((es.getD i []).drop o).take sz) else (es.getD i []).getD o (.bool false))) else none
      | _ => none
    | (c, .adr k o) => match Zae L k with
      | some (.box cs _) => if o + sz ≤ cs.length then
          (if ag then (Zt ((cs.drop o).take sz)).map fun l => (c, .p (.agg l)) else some (c, cs.getD o .any)) else none
      | _ => none
    | _ => none
  | .ext i x => match (rd fr x).un with
    | (c, .p (.tup cs)) => match cs[i]? with
      | some v => some (c, .p v)
      | none => none
    | _ => none
  | .bld zero parts => (Zz fr zero parts).map fun q => (q.1, .p (.agg q.2))
  | .cvi k x => match (rd fr x).un with
    | (c, .p (.int k' n)) => some (c ∧ (Zp k n).1, .p (Zp k n).2)
    | _ => none
  | .cvs x => match (rd fr x).un with
    | (c, .p (.int _ n)) => some (c, .p (.str (Utf8.encode n).data.toList))
    | _ => none
  | .b2s x => match Zs L (rd fr x).un.2 with
    | some (1, es) => (bytesP es).map fun l => ((rd fr x).un.1, .p (.str l))
    | _ => none
  | .bsl z parts => (Zaa fr z parts).map fun q => (q.1, .p (.sl z q.2))
  | .nck x => match (rd fr x).un with
    | (c, .adr k o) => some (c, .adr k o)
    | (c, .rad k z i o) => some (c, .rad k z i o)
    | (c, .ipt z es i o) => some (c, .ipt z es i o)
    | _ => none
  | .ldl sz ag a => match (rd fr a).un with
    | (c, .ipt z es i o) => if o + sz ≤ z then some (c ∧ i < es.length, .p (if ag then .agg (((es.getD i []).drop o).take sz) else (es.getD i []).getD o (.bool false))) else none
    | (c, .adr (.l j) o) => match Zae L (.l j) with
      | some (.box cs _) => if o + sz ≤ cs.length then
          (if ag then (Zt ((cs.drop o).take sz)).map fun l => (c, .p (.agg l)) else some (c, cs.getD o .any)) else none
      | _ => none
    | _ => none
  | .cap0 x => match (rd fr x).un with
    | (c, .p (.nl _)) => some (c, .p (.int .i64 0))
    | _ => none
  | .vsn x hi => match (rd fr x).un, (rd fr hi).un with
    | (c, .p (.nl z)), (ch, .p (.int _ h)) => some (c ∧ ch ∧ h = 0, .p (.nl z))
    | _, _ => none
  | .mkf f caps => (Zab (caps.map (rd fr))).map fun ks => (True, .fn f ks)
  | _ => none
end Go.Proofs.YtpddiepfolfnoaaDoor
