/- From the library's contracts to contracts of the layer: values that need no memory. -/
import Derived.Test.YtpddiepfolfnoaaDoorA24
namespace Go.Proofs.YtpddiepfolfnoaaDoor
open Go.RowKit
set_option linter.unusedVariables false
set_option linter.unusedSimpArgs false
set_option linter.defProp false
section
variable {P : Program} {E : Envt}
theorem grow_below {w w' : World} {O : Nat → Prop} (h : Below w.heap.size w w') : Grow w w' O := ⟨h.os, h.tape, h.output, h.size, fun b hb _ => h.block b hb⟩
theorem grow_same (w : World) (O : Nat → Prop) : Grow w w O := Grow.refl w O
theorem grow_by {w w' : World} (h : w.grownBy w' none) {O : Nat → Prop} : Grow w w' O := ⟨h.os, h.tape, h.output, h.size, fun b hb _ => h.block b hb (by simp)⟩

/-- Results: flat, or a tuple of flat ones. -/
def flatX : PV → Bool
  | .tup cs => cs.all flatD
  | x => flatD x
def valX : PV → Value
  | .tup cs => .tuple (cs.map valD).toArray
  | x => valD x
theorem PRep.valX {w : World} {U : Nat → Prop} {x : PV} (hf : flatX x = true) : PRep w U x (valX x) := by
  cases x with
  | tup cs => exact ⟨_, rfl, (PRepL.valD (by simpa [flatX] using hf)).2 rfl⟩
  | int k n => rfl
  | bool b => rfl
  | str s => rfl
  | _ => simp [flatX, flatD] at hf
/-- A contract whose arguments and result need no memory. -/
theorem pcall_flat {f : FuncId} {args : List PV} {r : PV} (ha : args.all flatD = true) (hr : flatX r = true) (h : ∀ w, E.ok w → Calls P f (args.map valD).toArray w fun e w' => e = .returned (valX r) ∧ Grow w w' (fun _ => False)) : PCall P E f args (· = r) := by
  intro w U vs hU hE hEb hA
  rw [PRepL.valD ha] at hA
  subst hA
  refine (h w hE).mono ?_
  rintro e w' ⟨rfl, hg⟩
  exact ⟨_, r, rfl, rfl, PRep.valX hr, hg⟩
end
end Go.Proofs.YtpddiepfolfnoaaDoor
