/- Words for memory that all walks of this seat use: which blocks a call may turn (grownBy), and how a slice reads (Rd). -/
import Derived.Below
import Derived.OwnWalk
import Derived.Laws.OwnMore
import Derived.Deep.Draws
import Derived.Laws.Rows
import Derived.Laws.NewBlocks
import Derived.Maps.AppendAt
import Derived.Lib.Hide
import Derived.Deep.AppendLies
import Derived.Laws.BytesString
import Derived.Laws.Cells
import Derived.Lib.ConvBytes
namespace Go.Proofs.Ytpddiepfolfnoaa
open Go.RowKit
set_option linter.unusedVariables false

theorem ret_int {k : IntKind} {a b : Int} (h : a = b) : Ending.returned (.int k a) = .returned (.int k b) := by rw [h]
theorem ret_bool {a b : Bool} (h : a = b) : Ending.returned (.bool a) = .returned (.bool b) := by rw [h]
theorem ret_str {a b : ByteArray} (h : a = b) : Ending.returned (.string a) = .returned (.string b) := by rw [h]

section
variable {a w w' w1 w2 : World} {row : Option Nat} {g B : Nat}
theorem gb_refl (w : World) (row : Option Nat) : w.grownBy w row := World.grownBy.refl w row
theorem gb_weak (h : w.grownBy w' none) (row : Option Nat) : w.grownBy w' row := ⟨h.os, h.tape, h.output, h.size, fun k hk _ => h.block k hk (by simp)⟩
theorem gb_new (h : a.grownBy w row) {r : Option Nat} (k : w.grownBy w' r) (hr : ∀ b, r = some b → a.heap.size ≤ b) : a.grownBy w' row :=
  ⟨k.os.trans h.os, k.tape.trans h.tape, k.output.trans h.output, Nat.le_trans h.size k.size,
    fun i hi hne => (k.block i (Nat.lt_of_lt_of_le hi h.size) (fun e => by have := hr i e.symm; omega)).trans (h.block i hi hne)⟩
theorem gb_of_below (h : Below w.heap.size w w') (row : Option Nat) : w.grownBy w' row := ⟨h.os, h.tape, h.output, h.size, fun k hk _ => h.block k hk⟩
theorem gb_to_below (h : w.grownBy w' none) : Below w.heap.size w w' := ⟨h.os, h.tape, h.output, h.size, fun k hk => h.block k hk (by simp)⟩
theorem gb_below_g (h : w.grownBy w' (some g)) (hg : g ≤ w.heap.size) : Below g w w' := ⟨h.os, h.tape, h.output, h.size, fun k hk => h.block k (by omega) (by simp; omega)⟩
theorem gb_drew (h : a.grownBy w row) : a.grownBy w.drew row := ⟨h.os, h.tape, h.output, h.size, h.block⟩
theorem gb_drewN (h : a.grownBy w row) (n : Nat) : a.grownBy (w.drewN n) row := ⟨h.os, h.tape, h.output, h.size, h.block⟩
theorem gb_alloc (h : a.grownBy w row) (o : Obj) : a.grownBy (w.alloc o) row :=
  ⟨h.os, h.tape, h.output, Nat.le_trans h.size (by simp), fun i hi hne => (Below.heap_alloc w o i (Nat.lt_of_lt_of_le hi h.size)).trans (h.block i hi hne)⟩
theorem gb_set (h : a.grownBy w row) {p : Addr} (hp : row = some p.block ∨ a.heap.size ≤ p.block) (u : Value) : a.grownBy (w.setCell p u) row :=
  ⟨h.os, h.tape, h.output, by simpa [World.setCell] using h.size, fun i hi hne => (Below.heap_setCell w p u i (by
    rintro rfl
    rcases hp with hp | hp
    · exact hne hp.symm
    · omega)).trans (h.block i hi hne)⟩
theorem gb_cell (h : w.grownBy w' row) {p : Addr} (hp : p.block < w.heap.size) (hne : some p.block ≠ row) : w'.cell? p = w.cell? p := World.cell?_of_block (h.block p.block hp hne)
theorem gb_frozen (h : w.grownBy w' row) {p : Addr} (hp : p.block < w.heap.size) (hne : some p.block ≠ row) : w'.frozen? p = w.frozen? p := World.frozen?_of_block (h.block p.block hp hne)
end

/-- The cells xs lie from the slice's address A on, in one block from lo on. -/
def Rd (w : World) (lo : Nat) (A : Option Addr) (xs : List Value) : Prop :=
  xs ≠ [] → ∃ b off, A = some ⟨b, off, none⟩ ∧ lo ≤ b ∧ b < w.heap.size ∧ ∀ j u, xs[j]? = some u → w.cell? ⟨b, off + j, none⟩ = some u

section
variable {w w' : World} {lo g : Nat} {A : Option Addr} {xs : List Value} {row : Option Nat}
theorem Rd.nil : Rd w lo A [] := fun h => absurd rfl h
theorem Rd.at_ (h : Rd w lo A xs) {k : Nat} (hk : k < xs.length) : ∃ b off, A = some ⟨b, off, none⟩ ∧ lo ≤ b ∧ b < w.heap.size ∧ w.cell? ⟨b, off + k, none⟩ = some xs[k] := by
  obtain ⟨b, off, e, h1, h2, h3⟩ := h (by intro e; subst e; simp at hk)
  exact ⟨b, off, e, h1, h2, h3 k _ (List.getElem?_eq_getElem hk)⟩
theorem Rd.open_ (h : Rd w lo A xs) (hx : 0 < xs.length) : ∃ b off, A = some ⟨b, off, none⟩ ∧ lo ≤ b ∧ b < w.heap.size ∧ ∀ k (hk : k < xs.length), w.cell? ⟨b, off + k, none⟩ = some xs[k] := by
  obtain ⟨b, off, e, h1, h2, h3⟩ := h (by intro e; subst e; simp at hx)
  exact ⟨b, off, e, h1, h2, fun k hk => h3 k _ (List.getElem?_eq_getElem hk)⟩
theorem Rd.grow (h : Rd w lo A xs) (hg : w.grownBy w' row) (hr : ∀ k, row = some k → k < lo) : Rd w' lo A xs := fun hx => by
  obtain ⟨b, off, e, h1, h2, h3⟩ := h hx
  refine ⟨b, off, e, h1, Nat.lt_of_lt_of_le h2 hg.size, fun j u hu => ?_⟩
  rw [gb_cell hg h2 (fun e => by have := hr b e.symm; omega)]
  exact h3 j u hu
theorem Rd.pure (h : Rd w lo A xs) (hg : w.grownBy w' none) : Rd w' lo A xs := h.grow hg (by simp)
theorem Rd.far (h : Rd w lo A xs) {b : Nat} (hg : w.grownBy w' (some b)) (hb : b < lo) : Rd w' lo A xs := h.grow hg (by simp; omega)
theorem Rd.below (h : Rd w lo A xs) (hg : Below w.heap.size w w') : Rd w' lo A xs := h.pure (gb_of_below hg _)
theorem Rd.drew (h : Rd w lo A xs) : Rd w.drew lo A xs := h
theorem Rd.drewN (h : Rd w lo A xs) (n : Nat) : Rd (w.drewN n) lo A xs := h
theorem Rd.alloc (h : Rd w lo A xs) (o : Obj) : Rd (w.alloc o) lo A xs := h.pure (World.grownBy_alloc w o none)
theorem Rd.set (h : Rd w lo A xs) {p : Addr} (hp : p.block < lo) (u : Value) : Rd (w.setCell p u) lo A xs :=
  h.grow (row := some p.block) (gb_set (gb_refl w _) (.inl rfl) u) (by simp; omega)
theorem Rd.lower (h : Rd w lo A xs) {lo' : Nat} (hl : lo' ≤ lo) : Rd w lo' A xs := fun hx => by
  obtain ⟨b, off, e, h1, h2, h3⟩ := h hx
  exact ⟨b, off, e, by omega, h2, h3⟩
theorem Rd.new (w : World) (cs : Array Value) (t : TypeId) (hl : lo ≤ w.heap.size) : Rd (w.alloc (.cells cs t)) lo (some ⟨w.heap.size, 0, none⟩) cs.toList := fun _ => by
  refine ⟨w.heap.size, 0, rfl, hl, by simp, fun j u hu => ?_⟩
  rw [World.cell?_alloc_at _ _ _ _ rfl, Nat.zero_add]
  simpa using hu
theorem Rd.new' (w : World) (l : List Value) (t : TypeId) (hl : lo ≤ w.heap.size) : Rd (w.alloc (.cells l.toArray t)) lo (some ⟨w.heap.size, 0, none⟩) l := by
  simpa using Rd.new w l.toArray t hl
theorem Rd.of_own {base : Nat} {e : TypeId} {size n c : Nat} (h : w.ownsRow base e size (.slice A n c) n xs) : Rd w base A xs := fun hx => by
  have hn : 0 < n := by
    rcases Nat.eq_zero_or_pos n with h0 | h0
    · have := h.1; rw [h0, Nat.zero_mul] at this; exact absurd (List.eq_nil_of_length_eq_zero this) hx
    · exact h0
  obtain ⟨g, cap, hv, hb, hlt⟩ := h.form hn
  have hA : A = some ⟨g, 0, none⟩ := by injection hv
  subst hA
  refine ⟨g, 0, rfl, hb, hlt, fun j u hu => ?_⟩
  have := h.cells (g := g) rfl j u hu
  by_cases hj : j = 0
  · subst hj; simpa [Addr.add] using this
  · simpa [Addr.add, hj] using this
theorem own_slice {base : Nat} {e : TypeId} {size n : Nat} {v : Value} (h : w.ownsRow base e size v n xs) : ∃ A c, v = .slice A n c ∧ n ≤ c ∧ Rd w base A xs := by
  rcases h.2 with ⟨rfl, rfl⟩ | ⟨g, cap, cur, rfl, _, _, hc, _⟩
  · exact ⟨none, 0, rfl, Nat.le_refl _, Rd.of_own h⟩
  · exact ⟨_, cap, rfl, hc, Rd.of_own h⟩
theorem Rd.cut (h : Rd w lo A xs) (k m cap : Nat) (hc : xs.length ≤ cap) (hk : k ≤ cap) : Rd w lo (if cap = k then A else A.map (·.add k)) ((xs.drop k).take m) := fun hx => by
  have hlt : k < xs.length := by
    rcases Nat.lt_or_ge k xs.length with h' | h'
    · exact h'
    · exact absurd (by simp [List.drop_eq_nil_of_le h']) hx
  obtain ⟨b, off, rfl, h1, h2, h3⟩ := h (by intro e; subst e; simp at hlt)
  rw [if_neg (by omega)]
  refine ⟨b, off + k, by simp [Addr.add], h1, h2, fun j u hu => ?_⟩
  rw [Nat.add_assoc]
  refine h3 _ u ?_
  rw [List.getElem?_take] at hu
  split at hu
  · rw [List.getElem?_drop] at hu; exact hu
  · cases hu
end

theorem foldl_push (l : List UInt8) : ∀ s : ByteArray, (l.map fun c => (c.toNat : Int)).foldl (fun r n => r.push (UInt8.ofNat n.toNat)) s = ⟨(s.data.toList ++ l).toArray⟩ := by
  induction l with
  | nil => intro s; simp
  | cons c l ih =>
    intro s
    simp only [List.map_cons, List.foldl_cons]
    rw [ih]
    simp [ByteArray.push]

theorem run_back {P : Program} (w : World) (src dst e : TypeId) (hs : P.underlying src = some (.slice e)) (he : P.underlying e = some (.int .u8)) (hd : P.underlying dst = some .string)
    (b cap : Nat) (l : List UInt8) (n : Nat) (hn : l.length = n) (h : ∀ j (hj : j < l.length), w.cell? ⟨b, j, none⟩ = some (.int .u8 (l[j].toNat : Int))) :
    (convert src dst (.slice (some ⟨b, 0, none⟩) n cap)).run P w = .ok (.string ⟨l.toArray⟩) w := by
  subst hn
  rw [run_convert_bytes_string w src dst e _ _ _ hs he hd]
  have hl : (loadCells ⟨b, 0, none⟩ l.length).run P w = .ok ((l.map fun c => (c.toNat : Int)).map (Value.int .u8)).toArray w := by
    have := run_loadCells_list (P := P) (w := w) ⟨b, 0, none⟩ ((l.map fun c => (c.toNat : Int)).map (Value.int .u8)) (by
      intro j v hv
      simp only [List.getElem?_map, Option.map_map, Option.map_eq_some_iff] at hv
      obtain ⟨c, hc, rfl⟩ := hv
      obtain ⟨hj, rfl⟩ := List.getElem?_eq_some_iff.1 hc
      have h' := h j hj
      by_cases h0 : j = 0
      · subst h0; simpa [Addr.add] using h'
      · simpa [Addr.add, h0] using h')
    simpa using this
  rw [run_bytesToString w _ _ _ _ hl, foldl_push]
  rfl
end Go.Proofs.Ytpddiepfolfnoaa
