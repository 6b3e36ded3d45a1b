
/- Own texts, put together: B5 B6 B7 B8 B9 B10 A24 B11 A25. -/
import Derived.Test.YtpddiepfolfnoaaDoorM3
import Derived.Test.YtpddiepfolfnoaaDoorM2
import Derived.Shelf.SlSortCmp.NoneTotal
import Derived.Test.YtpddiepfolfnoaaDoorLaySpanSort
/- Spans: the document's answer to Union and Without. -/
namespace Go.Proofs.YtpddiepfolfnoaaDoor
set_option linter.unusedVariables false
set_option linter.unusedSimpArgs false
set_option linter.defProp false

def cov (l : List (Int × Int)) (j : Nat) : Bool := l.any fun s => decide (s.1 ≤ j) && decide ((j : Int) < s.2)
def bl (p : List Bool) : List (List PV) := p.map fun b => [.bool b]
section
variable {E : Envt}
def onAt (p : List Bool) (i : Nat) : Bool := p.getD i false
theorem firstE_mem {l : List Int} (h : firstE l = 0) : ∀ x ∈ l, x = 0 := by
  induction l with
  | nil => intro x hx; cases hx
  | cons a l ih =>
    intro x hx
    simp only [firstE] at h
    split at h
    · rename_i ha
      rcases List.mem_cons.1 hx with rfl | hx
      · exact ha
      · exact ih h x hx
    · rename_i ha; exact absurd h ha
end
end Go.Proofs.YtpddiepfolfnoaaDoor

/- Spans: a right list is told by what it covers (plain). -/
namespace Go.Proofs.YtpddiepfolfnoaaDoor
set_option linter.unusedVariables false
set_option linter.unusedSimpArgs false
set_option linter.defProp false

def cv (l : List (Int × Int)) (j : Int) : Prop := ∃ s ∈ l, s.1 ≤ j ∧ j < s.2
structure Right (l : List (Int × Int)) : Prop where
  ok : ∀ s ∈ l, s.1 < s.2
  ord : l.Pairwise (fun s t => s.2 < t.1)
theorem Right.tail {s : Int × Int} {l : List (Int × Int)} (h : Right (s :: l)) : Right l := ⟨fun t ht => h.ok t (by simp [ht]), (List.pairwise_cons.1 h.ord).2⟩
/-- What spansFrom gives. -/
structure FromInv (p : List Bool) (k : Nat) (out : List (Int × Int)) : Prop where
  right : Right out
  bd : ∀ s ∈ out, s.2 ≤ k
  last : onAt p (k - 1) = true → 0 < k → ∃ (i : List (Int × Int)) (y : Int × Int), out = i ++ [y] ∧ y.2 = (k : Int)
  gap : onAt p (k - 1) = false → 0 < k → ∀ s ∈ out, s.2 < k
  cov : ∀ j, cv out j ↔ ∃ i : Nat, j = i ∧ i < k ∧ onAt p i = true

end Go.Proofs.YtpddiepfolfnoaaDoor

/- Spans: Without covers what a covers and b does not (plain). -/
namespace Go.Proofs.YtpddiepfolfnoaaDoor
set_option linter.unusedVariables false
set_option linter.unusedSimpArgs false
set_option linter.defProp false

structure InB (s : Int × Int) (o0 b : List (Int × Int)) (st : Int × List (Int × Int)) : Prop where
  lo : s.1 ≤ st.1
  src : st.1 = s.1 ∨ ∃ x ∈ b, st.1 = x.2
  right : Right st.2
  bd : ∀ t ∈ st.2, t.2 < st.1
  hi : ∀ t ∈ st.2, t ∈ o0 ∨ t.2 ≤ s.2
  fre : ∀ j, st.1 ≤ j → j < s.2 → ¬ cv b j
  cov : ∀ j, cv st.2 j ↔ cv o0 j ∨ (s.1 ≤ j ∧ j < st.1 ∧ j < s.2 ∧ ¬ cv b j)

structure InA (b a out : List (Int × Int)) : Prop where
  right : Right out
  bd : ∀ t ∈ out, ∃ s ∈ a, t.2 ≤ s.2
  cov : ∀ j, cv out j ↔ cv a j ∧ ¬ cv b j
end Go.Proofs.YtpddiepfolfnoaaDoor

/- Spans: put joins sorted spans to right ones (plain). -/
namespace Go.Proofs.YtpddiepfolfnoaaDoor
set_option linter.unusedVariables false
set_option linter.unusedSimpArgs false
set_option linter.defProp false

structure InP (l out : List (Int × Int)) : Prop where
  right : Right out
  src : ∀ t ∈ out, (∃ u ∈ l, t.1 = u.1) ∧ ∃ u ∈ l, t.2 = u.2
  cov : ∀ j, cv out j ↔ cv l j
end Go.Proofs.YtpddiepfolfnoaaDoor

/- Spans: put, if the sort is as it should be. -/
namespace Go.Proofs.YtpddiepfolfnoaaDoor
set_option linter.unusedVariables false
set_option linter.unusedSimpArgs false
set_option linter.defProp false

section
variable {E : Envt}
end
end Go.Proofs.YtpddiepfolfnoaaDoor

/- Spans: slices.Grow at nil and slices.Concat, the sort's order, Union. -/
namespace Go.Proofs.YtpddiepfolfnoaaDoor
set_option linter.unusedVariables false
set_option linter.unusedSimpArgs false
set_option linter.defProp false

section
variable {E : Envt}
end
end Go.Proofs.YtpddiepfolfnoaaDoor

/- Sorting a row in place: the library's slices.SortFunc as a contract of the layer. -/
namespace Go.Proofs.YtpddiepfolfnoaaDoor
open Go.Shelf Go.RowKit Go.Lib Go.Sort
set_option linter.unusedVariables false
set_option linter.unusedSimpArgs false
set_option linter.defProp false

/-- Values that need no memory. -/
def flatD : PV → Bool
  | .int .. | .bool _ | .str _ => true
  | _ => false
def valD : PV → Value
  | .int k n => .int k n
  | .bool b => .bool b
  | .str s => .string ⟨s.toArray⟩
  | _ => undef
theorem PRep.valD {w : World} {U : Nat → Prop} {x : PV} {v : Value} (hf : flatD x = true) : PRep w U x v ↔ v = valD x := by
  cases x <;> simp_all [flatD, PRep, Go.Proofs.YtpddiepfolfnoaaDoor.valD]
theorem PRepL.valD {w : World} {U : Nat → Prop} : ∀ {xs : List PV} {vs : List Value}, (xs.all flatD) = true → (PRepL w U xs vs ↔ vs = xs.map Go.Proofs.YtpddiepfolfnoaaDoor.valD) := by
  intro xs
  induction xs with
  | nil => intro vs _; simp [PRepL]
  | cons x r ih =>
    intro vs h
    simp only [List.all_cons, Bool.and_eq_true] at h
    simp only [PRepL, List.map_cons]
    constructor
    · rintro ⟨v, s, rfl, h1, h2⟩
      rw [PRep.valD h.1] at h1
      rw [ih h.2] at h2
      rw [h1, h2]
    · rintro rfl
      exact ⟨_, _, rfl, (PRep.valD h.1).2 rfl, (ih h.2).2 rfl⟩
section
variable {P : Program} {ρ : Ren} {E : Envt} {α : Type} [Inhabited α]

end
end Go.Proofs.YtpddiepfolfnoaaDoor

/- Spans: the sort that put does, and Union. -/
namespace Go.Proofs.YtpddiepfolfnoaaDoor
open Go.RowKit Go.Sort
set_option linter.unusedVariables false
set_option linter.unusedSimpArgs false
set_option linter.defProp false

section
variable {E : Envt}
end
end Go.Proofs.YtpddiepfolfnoaaDoor

/- From the library's contracts to contracts of the layer: values that need no memory. -/
namespace Go.Proofs.YtpddiepfolfnoaaDoor
open Go.RowKit
set_option linter.unusedVariables false
set_option linter.unusedSimpArgs false
set_option linter.defProp false
section
variable {P : Program} {E : Envt}
theorem grow_below {w w' : World} {O : Nat → Prop} (h : Below w.heap.size w w') : Grow w w' O := ⟨h.os, h.tape, h.output, h.size, fun b hb _ => h.block b hb⟩
/-- Results: flat, or a tuple of flat ones. -/
def flatX : PV → Bool
  | .tup cs => cs.all flatD
  | x => flatD x
def valX : PV → Value
  | .tup cs => .tuple (cs.map valD).toArray
  | x => valD x
theorem PRep.valX {w : World} {U : Nat → Prop} {x : PV} (hf : flatX x = true) : PRep w U x (valX x) := by
  cases x with
  | tup cs => exact ⟨_, rfl, (PRepL.valD (by simpa [flatX] using hf)).2 rfl⟩
  | int k n => rfl
  | bool b => rfl
  | str s => rfl
  | _ => simp [flatX, flatD] at hf
/-- A contract whose arguments and result need no memory. -/
theorem pcall_flat {f : FuncId} {args : List PV} {r : PV} (ha : args.all flatD = true) (hr : flatX r = true) (h : ∀ w, E.ok w → Calls P f (args.map valD).toArray w fun e w' => e = .returned (valX r) ∧ Grow w w' (fun _ => False)) : PCall P E f args (· = r) := by
  intro w U vs hU hE hEb hA
  rw [PRepL.valD ha] at hA
  subst hA
  refine (h w hE).mono ?_
  rintro e w' ⟨rfl, hg⟩
  exact ⟨_, r, rfl, rfl, PRep.valX hr, hg⟩
end
end Go.Proofs.YtpddiepfolfnoaaDoor
