/- Abstract values: what a Go value means as plain data (PV), and how a concrete value in a world reads as one. No program in sight. -/
import Derived.Below
import Derived.OwnWalk
import Derived.Laws.OwnMore
import Derived.Deep.Draws
import Derived.Laws.Rows
import Derived.Laws.NewBlocks
import Derived.Calls
namespace Go.Proofs.YtpddiepfolfnoaaDoor
set_option linter.unusedVariables false
set_option linter.unusedSimpArgs false
set_option linter.defProp false

/-- Names of objects that a call owns: given by the caller, or its own (by the slot that made it). -/
inductive Key where
  | b (i : Nat)
  | l (i : Nat)
  deriving DecidableEq

/-- Plain values: trees; nothing in them changes any more. -/
inductive PV where
  | int (k : IntKind) (n : Int)
  | bool (b : Bool)
  | str (s : List UInt8)
  | raw (v : Value)
  | nl (z : Nat)
  | sl (z : Nat) (es : List (List PV))
  | agg (cs : List PV)
  | tup (cs : List PV)
  | ptr (cs : List PV)
  | clo (f : FuncId) (ps : List PV)

/-- Values of slots. -/
inductive AV where
  | p (x : PV)
  | row (k : Key)
  | adr (k : Key) (off : Nat)
  | rad (k : Key) (z i off : Nat)
  | ipt (z : Nat) (es : List (List PV)) (i off : Nat)
  | mp (k : Key)
  | fn (f : FuncId) (ks : List Key)
  | g (c : Bool) (a : AV)
  | any

/-- Owned objects: a variable in memory, a row of a slice, a map. -/
inductive AO where
  | box (cs : List AV) (t : TypeId)
  | row (es : List (List PV)) (e : TypeId) (z : Nat) (ap : Bool)
  | map (kv : List (List UInt8 × PV)) (kt et : TypeId)

mutual
def PRep (w : World) (U : Nat → Prop) : PV → Value → Prop
  | .int k n, u => u = .int k n
  | .bool b, u => u = .bool b
  | .str s, u => u = .string ⟨s.toArray⟩
  | .raw v, u => u = v ∧ v.oneCell' = true
  | .nl z, u => u = .slice none 0 0
  | .sl z es, u => ∃ A c, u = .slice A es.length c ∧ es.length ≤ c ∧ (es ≠ [] → ∃ b off, A = some ⟨b, off, none⟩ ∧ b < w.heap.size ∧ ¬ U b ∧ PRepE w U b z off es)
  | .agg cs, u => ∃ vs : List Value, u = .agg vs.toArray ∧ PRepL w U cs vs
  | .tup cs, u => ∃ vs : List Value, u = .tuple vs.toArray ∧ PRepL w U cs vs
  | .ptr cs, u => ∃ b, u = .pointer (some ⟨b, 0, none⟩) ∧ b < w.heap.size ∧ ¬ U b ∧ PRepC w U b 0 cs
  | .clo f ps, u => ∃ vs : List Value, u = .func (.func f) #[] vs.toArray ∧ PRepL w U ps vs
def PRepL (w : World) (U : Nat → Prop) : List PV → List Value → Prop
  | [], vs => vs = []
  | a :: as, vs => ∃ v r, vs = v :: r ∧ PRep w U a v ∧ PRepL w U as r
def PRepC (w : World) (U : Nat → Prop) (b : Nat) (off : Nat) : List PV → Prop
  | [] => True
  | a :: as => (∃ v, w.cell? ⟨b, off, none⟩ = some v ∧ v.oneCell' = true ∧ PRep w U a v) ∧ PRepC w U b (off + 1) as
def PRepE (w : World) (U : Nat → Prop) (b : Nat) (z : Nat) (off : Nat) : List (List PV) → Prop
  | [] => True
  | e :: es => e.length = z ∧ PRepC w U b off e ∧ PRepE w U b z (off + z) es
end

section
variable {w w' : World} {U U' : Nat → Prop}

/-- What plain values need of two worlds to read alike. -/
def Keeps (w w' : World) (U U' : Nat → Prop) : Prop := ∀ b, b < w.heap.size → ¬ U b → w'.heap[b]? = w.heap[b]? ∧ ¬ U' b

theorem Keeps.lt (h : Keeps w w' U U') {b : Nat} (hb : b < w.heap.size) (hu : ¬ U b) : b < w'.heap.size := by
  have h1 := (h b hb hu).1
  rcases Nat.lt_or_ge b w'.heap.size with h' | h'
  · exact h'
  · rw [Array.getElem?_eq_none h', Array.getElem?_eq_getElem hb] at h1; cases h1

mutual
theorem PRep.mono (h : Keeps w w' U U') : ∀ (x : PV) (v : Value), PRep w U x v → PRep w' U' x v
  | .int k n, u, r => by simpa [PRep] using r
  | .bool b, u, r => by simpa [PRep] using r
  | .str s, u, r => by simpa [PRep] using r
  | .raw v, u, r => by simpa [PRep] using r
  | .nl z, u, r => by simpa [PRep] using r
  | .sl z es, u, r => by
    simp only [PRep] at r ⊢
    obtain ⟨A, c, e1, e2, e3⟩ := r
    refine ⟨A, c, e1, e2, fun hne => ?_⟩
    obtain ⟨b, off, ea, hb, hu, hE⟩ := e3 hne
    exact ⟨b, off, ea, h.lt hb hu, (h b hb hu).2, PRepE.mono h b hb hu z es off hE⟩
  | .agg cs, u, r => by
    simp only [PRep] at r ⊢
    obtain ⟨vs, e, hl⟩ := r
    exact ⟨vs, e, PRepL.mono h cs vs hl⟩
  | .tup cs, u, r => by
    simp only [PRep] at r ⊢
    obtain ⟨vs, e, hl⟩ := r
    exact ⟨vs, e, PRepL.mono h cs vs hl⟩
  | .ptr cs, u, r => by
    simp only [PRep] at r ⊢
    obtain ⟨b, e, hb, hu, hc⟩ := r
    exact ⟨b, e, h.lt hb hu, (h b hb hu).2, PRepC.mono h b hb hu cs 0 hc⟩
  | .clo f ps, u, r => by
    simp only [PRep] at r ⊢
    obtain ⟨vs, e, hl⟩ := r
    exact ⟨vs, e, PRepL.mono h ps vs hl⟩
theorem PRepL.mono (h : Keeps w w' U U') : ∀ (cs : List PV) (vs : List Value), PRepL w U cs vs → PRepL w' U' cs vs
  | [], vs, r => by simpa [PRepL] using r
  | a :: as, vs, r => by
    simp only [PRepL] at r ⊢
    obtain ⟨v, rr, e, h1, h2⟩ := r
    exact ⟨v, rr, e, PRep.mono h a v h1, PRepL.mono h as rr h2⟩
theorem PRepC.mono (h : Keeps w w' U U') (b : Nat) (hb : b < w.heap.size) (hu : ¬ U b) : ∀ (cs : List PV) (off : Nat), PRepC w U b off cs → PRepC w' U' b off cs
  | [], off, r => by simp [PRepC]
  | a :: as, off, r => by
    simp only [PRepC] at r ⊢
    obtain ⟨⟨v, hc, h1, h2⟩, hr⟩ := r
    exact ⟨⟨v, by rw [← hc]; exact World.cell?_of_block (h b hb hu).1, h1, PRep.mono h a v h2⟩, PRepC.mono h b hb hu as (off + 1) hr⟩
theorem PRepE.mono (h : Keeps w w' U U') (b : Nat) (hb : b < w.heap.size) (hu : ¬ U b) (z : Nat) : ∀ (es : List (List PV)) (off : Nat), PRepE w U b z off es → PRepE w' U' b z off es
  | [], off, r => by simp [PRepE]
  | e :: es, off, r => by
    simp only [PRepE] at r ⊢
    exact ⟨r.1, PRepC.mono h b hb hu e off r.2.1, PRepE.mono h b hb hu z es (off + z) r.2.2⟩
end

theorem PRep.oneCell {x : PV} {v : Value} (h : PRep w U x v) : (∀ cs, x ≠ .agg cs) → (∀ cs, x ≠ .tup cs) → v.oneCell' = true := by
  intro h1 h2
  cases x with
  | int k n => simp only [PRep] at h; subst h; rfl
  | bool b => simp only [PRep] at h; subst h; rfl
  | str s => simp only [PRep] at h; subst h; rfl
  | raw u => simp only [PRep] at h; rw [h.1]; exact h.2
  | nl z => simp only [PRep] at h; subst h; rfl
  | sl z es => simp only [PRep] at h; obtain ⟨A, c, rfl, _⟩ := h; rfl
  | ptr cs => simp only [PRep] at h; obtain ⟨b, rfl, _⟩ := h; rfl
  | clo f ps => simp only [PRep] at h; obtain ⟨vs, rfl, _⟩ := h; rfl
  | agg cs => exact absurd rfl (h1 cs)
  | tup cs => exact absurd rfl (h2 cs)

theorem PRepL.length {cs : List PV} {vs : List Value} (h : PRepL w U cs vs) : vs.length = cs.length := by
  induction cs generalizing vs with
  | nil => simp only [PRepL] at h; subst h; rfl
  | cons a as ih => simp only [PRepL] at h; obtain ⟨v, r, rfl, _, h2⟩ := h; simp [ih h2]
theorem PRepL.get {cs : List PV} {vs : List Value} (h : PRepL w U cs vs) {j : Nat} {x : PV} (hx : cs[j]? = some x) : ∃ v, vs[j]? = some v ∧ PRep w U x v := by
  induction cs generalizing vs j with
  | nil => simp at hx
  | cons a as ih =>
    simp only [PRepL] at h
    obtain ⟨v, r, rfl, h1, h2⟩ := h
    cases j with
    | zero => simp at hx; subst hx; exact ⟨v, rfl, h1⟩
    | succ j => simp at hx; simpa using ih h2 hx
theorem PRepC.get {b : Nat} {cs : List PV} {off : Nat} (h : PRepC w U b off cs) {j : Nat} {x : PV} (hx : cs[j]? = some x) : ∃ v, w.cell? ⟨b, off + j, none⟩ = some v ∧ v.oneCell' = true ∧ PRep w U x v := by
  induction cs generalizing off j with
  | nil => simp at hx
  | cons a as ih =>
    simp only [PRepC] at h
    cases j with
    | zero => simp at hx; subst hx; exact h.1
    | succ j => simp at hx; have := ih h.2 hx; rwa [show off + 1 + j = off + (j + 1) from by omega] at this
theorem PRepE.get {b z : Nat} {es : List (List PV)} {off : Nat} (h : PRepE w U b z off es) {i : Nat} {e : List PV} (he : es[i]? = some e) : e.length = z ∧ PRepC w U b (off + i * z) e := by
  induction es generalizing off i with
  | nil => simp at he
  | cons a as ih =>
    simp only [PRepE] at h
    cases i with
    | zero => simp at he; subst he; simpa using ⟨h.1, h.2.1⟩
    | succ i => simp at he; have := ih h.2.2 he; rwa [show off + z + i * z = off + (i + 1) * z from by rw [Nat.add_mul]; omega] at this
theorem PRepL.append {cs ds : List PV} {vs us : List Value} (h : PRepL w U cs vs) (k : PRepL w U ds us) : PRepL w U (cs ++ ds) (vs ++ us) := by
  induction cs generalizing vs with
  | nil => simp only [PRepL] at h; subst h; simpa using k
  | cons a as ih => simp only [PRepL] at h; obtain ⟨v, r, rfl, h1, h2⟩ := h; simp only [List.cons_append, PRepL]; exact ⟨v, _, rfl, h1, ih h2⟩
/-- Cells out of a list of values. -/
theorem PRepC.of {b off : Nat} {cs : List PV} {vs : List Value} (h : PRepL w U cs vs) (h1 : ∀ v ∈ vs, v.oneCell' = true) (hc : ∀ j v, vs[j]? = some v → w.cell? ⟨b, off + j, none⟩ = some v) : PRepC w U b off cs := by
  induction cs generalizing vs off with
  | nil => simp [PRepC]
  | cons a as ih =>
    simp only [PRepL] at h
    obtain ⟨v, r, rfl, ha, hr⟩ := h
    simp only [PRepC]
    refine ⟨⟨v, by simpa using hc 0 v rfl, h1 v (by simp), ha⟩, ih hr (fun u hu => h1 u (by simp [hu])) (fun j u hu => ?_)⟩
    have := hc (j + 1) u (by simpa using hu)
    rwa [show off + (j + 1) = off + 1 + j from by omega] at this
/-- The values of cells. -/
theorem PRepC.vals {b : Nat} {cs : List PV} {off : Nat} (h : PRepC w U b off cs) : ∃ vs, PRepL w U cs vs ∧ (∀ v ∈ vs, v.oneCell' = true) ∧ ∀ j v, vs[j]? = some v → w.cell? ⟨b, off + j, none⟩ = some v := by
  induction cs generalizing off with
  | nil => exact ⟨[], by simp [PRepL], by simp, by simp⟩
  | cons a as ih =>
    simp only [PRepC] at h
    obtain ⟨⟨v, hc, h1, hv⟩, hr⟩ := h
    obtain ⟨vs, h2, h3, h4⟩ := ih hr
    refine ⟨v :: vs, by simp only [PRepL]; exact ⟨v, vs, rfl, hv, h2⟩, by simp; exact ⟨h1, h3⟩, fun j u hu => ?_⟩
    cases j with
    | zero => simp at hu; subst hu; simpa using hc
    | succ j => simp at hu; have := h4 j u hu; rwa [show off + 1 + j = off + (j + 1) from by omega] at this
end

/-- The block that a value owns. -/
def blk : Value → Option Nat
  | .slice (some a) _ _ => some a.block
  | .pointer (some a) => some a.block
  | .map (some r) => some r
  | _ => none

def ARep (w : World) (U : Nat → Prop) (ι : Key → Value) : AV → Value → Prop
  | .p x, u => PRep w U x u
  | .row k, u => u = ι k ∧ ∃ A n c, u = .slice A n c
  | .adr k off, u => ∃ b, ι k = .pointer (some ⟨b, 0, none⟩) ∧ u = .pointer (some ⟨b, off, none⟩)
  | .rad k z i off, u => ∃ b n c, ι k = .slice (some ⟨b, 0, none⟩) n c ∧ u = .pointer (some ⟨b, i * z + off, none⟩)
  | .ipt z es i off, u => ∃ b o, u = .pointer (some ⟨b, o + i * z + off, none⟩) ∧ b < w.heap.size ∧ ¬ U b ∧ PRepE w U b z o es
  | .mp k, u => u = ι k
  | .fn f ks, u => u = .func (.func f) #[] (ks.map ι).toArray
  | .g c a, u => (c = true → ARep w U ι a u) ∧ (c = false → u = .tuple #[])
  | .any, _ => True

def AV.kill (k : Key) : AV → AV
  | .p x => .p x
  | .row k' => if k' = k then .any else .row k'
  | .adr k' o => if k' = k then .any else .adr k' o
  | .rad k' z i o => if k' = k then .any else .rad k' z i o
  | .ipt z es i o => .ipt z es i o
  | .mp k' => if k' = k then .any else .mp k'
  | .fn f ks => if k ∈ ks then .any else .fn f ks
  | .g c a => .g c (a.kill k)
  | .any => .any

theorem ARep.kill {w : World} {U : Nat → Prop} {ι : Key → Value} {k : Key} {v : Value} : ∀ {a : AV} {u : Value}, ARep w U ι a u → ARep w U (fun j => if j = k then v else ι j) (a.kill k) u
  | .p x, u, h => h
  | .row k', u, h => by
    simp only [AV.kill]; split
    · trivial
    · rename_i hne; simpa [ARep, hne] using h
  | .adr k' o, u, h => by
    simp only [AV.kill]; split
    · trivial
    · rename_i hne; simpa [ARep, hne] using h
  | .rad k' z i o, u, h => by
    simp only [AV.kill]; split
    · trivial
    · rename_i hne; simpa [ARep, hne] using h
  | .ipt z es i o, u, h => h
  | .mp k', u, h => by
    simp only [AV.kill]; split
    · trivial
    · rename_i hne; simpa [ARep, hne] using h
  | .fn f ks, u, h => by
    simp only [AV.kill]; split
    · trivial
    · rename_i hne
      simp only [ARep] at h ⊢
      rw [h]
      congr 2
      refine List.map_congr_left fun j hj => ?_
      rw [if_neg (fun (e : j = k) => hne (e ▸ hj))]
  | .g c a, u, h => ⟨fun hc => ARep.kill (a := a) (h.1 hc), h.2⟩
  | .any, u, h => trivial

theorem ARep.mono {w w' : World} {U U' : Nat → Prop} {ι : Key → Value} (hk : Keeps w w' U U') : ∀ {a : AV} {u : Value}, ARep w U ι a u → ARep w' U' ι a u
  | .p x, u, h => PRep.mono hk x u h
  | .row k', u, h => h
  | .adr k' o, u, h => h
  | .rad k' z i o, u, h => h
  | .ipt z es i o, u, h => by
    obtain ⟨b, o', e, hb, hu, hE⟩ := h
    exact ⟨b, o', e, hk.lt hb hu, (hk b hb hu).2, PRepE.mono hk b hb hu z es o' hE⟩
  | .mp k', u, h => h
  | .fn f ks, u, h => h
  | .g c a, u, h => ⟨fun hc => ARep.mono hk (a := a) (h.1 hc), h.2⟩
  | .any, u, h => trivial
end Go.Proofs.YtpddiepfolfnoaaDoor
