/- A small language for Go's operations on abstract values: its meaning (Ze), and the check that it is what a translated operation says. -/
import Derived.Test.YtpddiepfolfnoaaDoorA2
import Derived.Laws.StructEq
import Derived.WalkKit
namespace Go.Proofs.YtpddiepfolfnoaaDoor
set_option linter.unusedVariables false
set_option linter.unusedSimpArgs false
set_option linter.defProp false

inductive Opd where
  | t (i : Nat)
  | c (x : PV)
  | f (n : FuncId)
  | gl (g : Nat)

/-- The kinds of the parts of a flat struct. -/
inductive FK where
  | i | s | b
  deriving DecidableEq

inductive IOp where
  | mov (x : Opd)
  | pick (c a b : Opd)
  | bin (op : BinOp) (x y : Opd)
  | bnb (op : BinOp) (x y : Opd)
  | eqa (neg : Bool) (ks : List FK) (x y : Opd)
  | not (x : Opd)
  | neg (x : Opd)
  | len (x : Opd)
  | sln (x : Opd)
  | mx (x y : Opd)
  | mn (x y : Opd)
  | idx (x i : Opd)
  | ssl (x : Opd) (lo hi : Option Opd)
  | vsl (z : Nat) (x : Opd) (lo hi : Option Opd)
  | ixa (z : Nat) (x i : Opd)
  | fla (off : Nat) (x : Opd)
  | fld (off sz : Nat) (ag : Bool) (x : Opd)
  | ld (sz : Nat) (ag : Bool) (a : Opd)
  | ext (i : Nat) (x : Opd)
  | bld (zero : List PV) (parts : List (Nat × Nat × Opd))
  | cvi (k : IntKind) (x : Opd)
  | cvs (x : Opd)
  | b2s (x : Opd)
  | bsl (z : Nat) (parts : List Opd)
  | nck (x : Opd)
  | mkf (f : FuncId) (caps : List Opd)
  -- what changes the owned objects
  | nilr (e z : Nat)
  | alc (t : TypeId) (zero : List PV)
  | box (t : TypeId) (x : Opd)
  | st (sz : Nat) (a x : Opd)
  | app (e z by_ : Nat) (x y : Opd)
  | bsr (e z : Nat) (parts : List Opd)
  | s2b (e : Nat) (x : Opd)
  | mks (e z by_ : Nat) (zero : List PV) (n c : Opd)
  | fz (x : Opd)
  | call (f : FuncId) (args : List Opd)
  | pcall (n : Nat) (f : FuncId) (args : List Opd)
  | callv (f : Opd) (args : List Opd)
  -- a call that turns one variable, in a region that draws its order; b: the variable is borrowed
  | dcall (b : Bool) (f : FuncId) (args : List Opd)
  -- a load that reads no borrowed variable
  | ldl (sz : Nat) (ag : Bool) (a : Opd)
  -- what is never reached
  | dead
  -- of a nil slice: its capacity, its slice; zeros behind it; a row cut short
  | cap0 (x : Opd)
  | vsn (x hi : Opd)
  | apz (e z by_ : Nat) (zero : List PV) (x n : Opd)
  | trn (z : Nat) (x hi : Opd)
  -- maps whose keys are strings
  | mkm (kt et : TypeId)
  | mpu (m k v : Opd)
  | mpl (ok : Bool) (zero : PV) (m k : Opd)
  | mpn (m : Opd)

structure IOper where
  dst : Option Nat
  op : IOp
  guard : Option (Nat × Bool) := none

def rd (fr : List AV) : Opd → AV
  | .t i => fr.getD i .any
  | .c x => .p x
  | .f n => .fn n []
  | .gl g => .p (.raw (.pointer (some ⟨g, 0, none⟩)))

/-- What a slot says, and what must hold for it to be there. -/
def AV.un : AV → Prop × AV
  | .g c a => (c = true ∧ a.un.1, a.un.2)
  | a => (True, a)

/-- A plain pointer as an address of what does not change. -/
def AV.ad : AV → AV
  | .p (.ptr cs) => .ipt cs.length [cs] 0 0
  | a => a
def AV.unA (x : AV) : Prop × AV := (x.un.1, x.un.2.ad)

def I64 (n : Int) : Prop := -9223372036854775808 ≤ n ∧ n ≤ 9223372036854775807
def bytesLess (x y : List UInt8) : Bool := Op.bytesLess x y

def Zs (k : IntKind) (n : Int) : Prop × PV := if k = .i64 then (I64 n, .int k n) else (True, .int k (k.wrap n))
def bitA (k : IntKind) (a b : Int) : Int := k.wrap ((BitVec.ofInt k.bits a &&& BitVec.ofInt k.bits b).toNat : Nat)
def bitX (k : IntKind) (a b : Int) : Int := k.wrap ((BitVec.ofInt k.bits a ^^^ BitVec.ofInt k.bits b).toNat : Nat)
def Zo (k : IntKind) (a b : Int) : BinOp → Option (Prop × PV)
  | .add => some (Zs k (a + b))
  | .sub => some (Zs k (a - b))
  | .mul => some (Zs k (a * b))
  | .quo => some (b ≠ 0 ∧ (Zs k (a.tdiv b)).1, (Zs k (a.tdiv b)).2)
  | .rem => some (b ≠ 0, .int k (a.tmod b))
  | .and => some (True, .int k (bitA k a b))
  | .xor => some (True, .int k (bitX k a b))
  | .eql => some (True, .bool (decide (a = b)))
  | .neq => some (True, .bool (!decide (a = b)))
  | .lss => some (True, .bool (decide (a < b)))
  | .leq => some (True, .bool (decide (a ≤ b)))
  | .gtr => some (True, .bool (decide (b < a)))
  | .geq => some (True, .bool (decide (b ≤ a)))
  | _ => none
def Zp (k : IntKind) (a b : Int) : BinOp → Option (Prop × PV)
  | .shr => some (0 ≤ b, .int k (a.fdiv (2 ^ (min b.toNat k.bits))))
  | .shl => some (0 ≤ b, .int k (k.wrap (a * 2 ^ (min b.toNat k.bits))))
  | _ => none
def Zq (x y : List UInt8) : BinOp → Option (Prop × PV)
  | .add => some (((x.length + y.length : Nat) : Int) ≤ 9223372036854775807, .str (x ++ y))
  | .eql => some (True, .bool (decide (x = y)))
  | .neq => some (True, .bool (!decide (x = y)))
  | .lss => some (True, .bool (bytesLess x y))
  | .leq => some (True, .bool (bytesLess x y || decide (x = y)))
  | .gtr => some (True, .bool (!(bytesLess x y || decide (x = y))))
  | .geq => some (True, .bool (!bytesLess x y))
  | _ => none
def Zr (x y : Bool) : BinOp → Option (Prop × PV)
  | .eql => some (True, .bool (x == y))
  | .neq => some (True, .bool (!(x == y)))
  | _ => none
def Zn (op : BinOp) : PV → PV → Option (Prop × PV)
  | .int k a, .int k' b => match op with
    | .shr => Zp k a b .shr
    | .shl => Zp k a b .shl
    | op => if k = k' then Zo k a b op else none
  | .str x, .str y => Zq x y op
  | _, _ => none

/-- Equality of flat structs. -/
def Zt : List FK → List PV → List PV → Option Bool
  | [], [], [] => some true
  | .i :: ks, .int k a :: xs, .int k' b :: ys => if k = k' then (Zt ks xs ys).map (decide (a = b) && ·) else none
  | .s :: ks, .str a :: xs, .str b :: ys => (Zt ks xs ys).map (decide (a = b) && ·)
  | .b :: ks, .bool a :: xs, .bool b :: ys => (Zt ks xs ys).map ((a == b) && ·)
  | _, _, _ => none

def Zu (n : Nat) : Option AV → Nat → Option (Prop × Nat)
  | none, d => some (True, d)
  | some v, _ => match v.un with
    | (c, .p (.int _ i)) => some (c ∧ 0 ≤ i ∧ i ≤ n, i.toNat)
    | _ => none

/-- The elements of a slice that is plain, or a row of the call's own. -/
def Zv (L : Objs) : AV → Option (Nat × List (List PV))
  | .p (.sl z es) => some (z, es)
  | .p (.nl z) => some (z, [])
  | .row k => match Zah L k with
    | some (.row es _ z _) => some (z, es)
    | _ => none
  | _ => none

/-- A nil slice as a slice of no elements. -/
def wk1 : PV → PV
  | .nl z => .sl z []
  | x => x
def wk : PV → PV
  | .agg cs => .agg (cs.map wk1)
  | .tup cs => .tup (cs.map wk1)
  | x => wk1 x

def Zw : List AV → Option (List PV)
  | [] => some []
  | .p x :: r => (Zw r).map (x :: ·)
  | _ :: _ => none

def Zx : PV → Bool
  | .agg _ | .tup _ => false
  | _ => true

def Zy : PV → List PV
  | .agg cs => cs
  | x => [x]

def Zz (l : List PV) : Bool := l.all Zx

def Zaa (cs : List PV) (off : Nat) : List PV → List PV
  | [] => cs
  | x :: r => Zaa (cs.set off x) (off + 1) r

def Zac (fr : List AV) : List PV → List (Nat × Nat × Opd) → Option (Prop × List PV)
  | cs, [] => some (True, cs)
  | cs, (off, sz, x) :: r =>
    match (rd fr x).un with
    | (c, .p v) => if (Zy v).length = sz ∧ Zz (Zy v) = true then (Zac fr (Zaa cs off (Zy v)) r).map fun q => (c ∧ q.1, q.2) else none
    | _ => none

def Zad (fr : List AV) (z : Nat) : List Opd → Option (Prop × List (List PV))
  | [] => some (True, [])
  | x :: r =>
    match (rd fr x).un with
    | (c, .p v) => if (Zy v).length = z ∧ Zz (Zy v) = true then (Zad fr z r).map fun q => (c ∧ q.1, (Zy v).map wk1 :: q.2) else none
    | _ => none

def bytesP : List (List PV) → Option (List UInt8)
  | [] => some []
  | [.int .u8 n] :: r => (bytesP r).map (UInt8.ofNat n.toNat :: ·)
  | _ => none

def Zae : List AV → Option (List Key)
  | [] => some []
  | .adr k 0 :: r => (Zae r).map (k :: ·)
  | _ => none

/-- Maps: what a key has; a key's value put. -/
def mpF : List (List UInt8 × PV) → List UInt8 → Option PV
  | [], _ => none
  | p :: r, s => if p.1 = s then some p.2 else mpF r s
def mpS : List (List UInt8 × PV) → List UInt8 → PV → List (List UInt8 × PV)
  | [], s, v => [(s, v)]
  | p :: r, s, v => if p.1 = s then (s, v) :: r else p :: mpS r s v
def mpD (kv : List (List UInt8 × PV)) (s : List UInt8) (z : PV) : PV := (mpF kv s).getD z

/-- The operations that leave the objects alone: what must hold, and the result. -/
def Ze (fr : List AV) (L : Objs) : IOp → Option (Prop × AV)
  | .mov x => some (True, rd fr x)
  | .pick c a b => match (rd fr c).un, (rd fr a).un, (rd fr b).un with
    | (cc, .p (.bool t)), (ca, .p (.bool x)), (cb, .p (.bool y)) => some (cc ∧ (t = true → ca) ∧ (t = false → cb), .p (.bool (bif t then x else y)))
    | (cc, .p (.bool t)), (ca, .p (.bool x)), (_, .any) => some (cc ∧ ca ∧ t = true, .p (.bool x))
    | (cc, .p (.bool t)), (_, .any), (cb, .p (.bool y)) => some (cc ∧ cb ∧ t = false, .p (.bool y))
    | _, _, _ => none
  | .bin op x y => match (rd fr x).un, (rd fr y).un with
    | (cx, .p a), (cy, .p b) => (Zn op a b).map fun q => (cx ∧ cy ∧ q.1, .p q.2)
    | _, _ => none
  | .bnb op x y => match (rd fr x).un, (rd fr y).un with
    | (cx, .p (.bool a)), (cy, .p (.bool b)) => (Zr a b op).map fun q => (cx ∧ cy ∧ q.1, .p q.2)
    | _, _ => none
  | .eqa neg ks x y => match (rd fr x).un, (rd fr y).un with
    | (cx, .p (.agg a)), (cy, .p (.agg b)) => (Zt ks a b).map fun q => (cx ∧ cy, .p (.bool (if neg then !q else q)))
    | _, _ => none
  | .not x => match (rd fr x).un with
    | (c, .p (.bool b)) => some (c, .p (.bool !b))
    | _ => none
  | .neg x => match (rd fr x).un with
    | (c, .p (.int .i64 n)) => some (c ∧ I64 (0 - n), .p (.int .i64 (0 - n)))
    | _ => none
  | .len x => (Zv L (rd fr x).un.2).map fun q => ((rd fr x).un.1, .p (.int .i64 q.2.length))
  | .sln x => match (rd fr x).un with
    | (c, .p (.str s)) => some (c, .p (.int .i64 s.length))
    | _ => none
  | .mx x y => match (rd fr x).un, (rd fr y).un with
    | (cx, .p (.int .i64 a)), (cy, .p (.int .i64 b)) => some (cx ∧ cy, .p (.int .i64 (max a b)))
    | _, _ => none
  | .mn x y => match (rd fr x).un, (rd fr y).un with
    | (cx, .p (.int .i64 a)), (cy, .p (.int .i64 b)) => some (cx ∧ cy, .p (.int .i64 (min a b)))
    | _, _ => none
  | .idx x i => match (rd fr x).un, (rd fr i).un with
    | (cx, .p (.str s)), (ci, .p (.int _ n)) => some (cx ∧ ci ∧ 0 ≤ n ∧ n < s.length, .p (.int .u8 ((s.getD n.toNat 0).toNat : Nat)))
    | _, _ => none
  | .ssl x lo hi => match (rd fr x).un with
    | (c, .p (.str s)) => match Zu s.length (hi.map (rd fr)) s.length with
      | some (ch, h) => (Zu h (lo.map (rd fr)) 0).map fun q => (c ∧ ch ∧ q.1, .p (.str ((s.take h).drop q.2)))
      | none => none
    | _ => none
  | .vsl z' x lo hi => match (rd fr x).un with
    | (c, .p (.sl z es)) => if z' = z then match Zu es.length (hi.map (rd fr)) es.length with
      | some (ch, h) => (Zu h (lo.map (rd fr)) 0).map fun q => (c ∧ ch ∧ q.1, .p (.sl z ((es.take h).drop q.2)))
      | none => none
      else none
    | _ => none
  | .ixa z x i => match (rd fr x).un, (rd fr i).un with
    | (cx, .p (.sl z' es)), (ci, .p (.int _ n)) => if z' = z then some (cx ∧ ci ∧ 0 ≤ n ∧ n < es.length, .ipt z es n.toNat 0) else none
    | (cx, .row k), (ci, .p (.int _ n)) => match Zah L k with
      | some (.row es _ z' _) => if z' = z then some (cx ∧ ci ∧ 0 ≤ n ∧ n < es.length, .rad k z n.toNat 0) else none
      | _ => none
    | _, _ => none
  | .fla off x => match (rd fr x).unA with
    | (c, .adr k o) => some (c, .adr k (o + off))
    | (c, .rad k z i o) => some (c, .rad k z i (o + off))
    | (c, .ipt z es i o) => some (c, .ipt z es i (o + off))
    | _ => none
  | .fld off sz ag x => match (rd fr x).un with
    | (c, .p (.agg cs)) => if off + sz ≤ cs.length then some (c, .p (if ag then .agg ((cs.drop off).take sz) else cs.getD off (.bool false))) else none
    | _ => none
  | .ld sz ag a => match (rd fr a).unA with
    | (c, .ipt z es i o) => if o + sz ≤ z then some (c ∧ i < es.length, .p (if ag then .agg (((es.getD i []).drop o).take sz) else (es.getD i []).getD o (.bool false))) else none
    | (c, .rad k z i o) => match Zah L k with
      | some (.row es _ z' _) => if z' = z ∧ o + sz ≤ z then some (c ∧ i < es.length, .p (if ag then .agg (((es.getD i []).drop o).take sz) else (es.getD i []).getD o (.bool false))) else none
      | _ => none
    | (c, .adr k o) => match Zah L k with
      | some (.box cs _) => if o + sz ≤ cs.length then
          (if ag then (Zw ((cs.drop o).take sz)).map fun l => (c, .p (.agg l)) else some (c, cs.getD o .any)) else none
      | _ => none
    | _ => none
  | .ext i x => match (rd fr x).un with
    | (c, .p (.tup cs)) => match cs[i]? with
      | some v => some (c, .p v)
      | none => none
    | _ => none
  | .bld zero parts => (Zac fr zero parts).map fun q => (q.1, .p (.agg q.2))
  | .cvi k x => match (rd fr x).un with
    | (c, .p (.int k' n)) => some (c ∧ (Zs k n).1, .p (Zs k n).2)
    | _ => none
  | .cvs x => match (rd fr x).un with
    | (c, .p (.int _ n)) => some (c, .p (.str (Utf8.encode n).data.toList))
    | _ => none
  | .b2s x => match Zv L (rd fr x).un.2 with
    | some (1, es) => (bytesP es).map fun l => ((rd fr x).un.1, .p (.str l))
    | _ => none
  | .bsl z parts => (Zad fr z parts).map fun q => (q.1, .p (.sl z q.2))
  | .nck x => match (rd fr x).unA with
    | (c, .adr k o) => some (c, .adr k o)
    | (c, .rad k z i o) => some (c, .rad k z i o)
    | (c, .ipt z es i o) => some (c, .ipt z es i o)
    | _ => none
  | .ldl sz ag a => match (rd fr a).unA with
    | (c, .ipt z es i o) => if o + sz ≤ z then some (c ∧ i < es.length, .p (if ag then .agg (((es.getD i []).drop o).take sz) else (es.getD i []).getD o (.bool false))) else none
    | (c, .adr (.l j) o) => match Zah L (.l j) with
      | some (.box cs _) => if o + sz ≤ cs.length then
          (if ag then (Zw ((cs.drop o).take sz)).map fun l => (c, .p (.agg l)) else some (c, cs.getD o .any)) else none
      | _ => none
    | _ => none
  | .cap0 x => match (rd fr x).un with
    | (c, .p (.nl _)) => some (c, .p (.int .i64 0))
    | _ => none
  | .vsn x hi => match (rd fr x).un, (rd fr hi).un with
    | (c, .p (.nl z)), (ch, .p (.int _ h)) => some (c ∧ ch ∧ h = 0, .p (.nl z))
    | _, _ => none
  | .mpl ok zero m k => match (rd fr m).un, (rd fr k).un with
    | (cm, .mp q), (ck, .p (.str s)) => match Zah L q with
      | some (.map kv _ _) => some (cm ∧ ck, .p (if ok then .tup [mpD kv s zero, .bool (mpF kv s).isSome] else mpD kv s zero))
      | _ => none
    | _, _ => none
  | .mpn m => match (rd fr m).un with
    | (c, .mp q) => match Zah L q with
      | some (.map kv _ _) => some (c, .p (.int .i64 kv.length))
      | _ => none
    | _ => none
  | .mkf f caps => (Zae (caps.map (rd fr))).map fun ks => (True, .fn f ks)
  | _ => none
end Go.Proofs.YtpddiepfolfnoaaDoor
