/- What every walk of this seat may lean on in memory: the library's variables; strings.Split, utf8.ValidString, Join in this seat's words. -/
import Derived.Test.YtpddiepfolfnoaaDoorBuild
import Derived.Shelf.Unicode.ValidAny
import Derived.Lib.SplitLaws
namespace Go.Proofs.YtpddiepfolfnoaaDoor
open Go.RowKit
set_option linter.unusedVariables false

/-- The library's variables, as the walks read them, in blocks below lo. -/
structure Env (lo : Nat) (w : World) : Prop where
  le : lo ≤ w.heap.size
  maxLen : 2 < lo ∧ ∃ m : Int, w.cell? ⟨2, 0, none⟩ = some (.int .i64 m)
  tabs : 0 < lo ∧ 1 < lo ∧ Lib.Utf8Tabs 0 1 w

theorem tabs_block {g3 g4 : Nat} {w w' : World} (h : Lib.Utf8Tabs g3 g4 w) (h3 : w'.heap[g3]? = w.heap[g3]?) (h4 : w'.heap[g4]? = w.heap[g4]?) : Lib.Utf8Tabs g3 g4 w' :=
  ⟨fun c hc => (World.cell?_of_block (w := w) h3).trans (h.1 c hc), fun i hi => ⟨(World.cell?_of_block (w := w) h4).trans (h.2 i hi).1, (World.cell?_of_block (w := w) h4).trans (h.2 i hi).2⟩⟩
theorem Env.blocks {lo : Nat} {w w' : World} (h : Env lo w) (hs : w.heap.size ≤ w'.heap.size) (hb : ∀ k, k < lo → w'.heap[k]? = w.heap[k]?) : Env lo w' := by
  refine { le := Nat.le_trans h.le hs, maxLen := ?_
           tabs := ?_
           }
  · obtain ⟨h1, m, h2⟩ := h.maxLen
    exact ⟨h1, m, by rw [World.cell?_of_block (w := w) (hb _ h1)]; exact h2⟩
  · exact ⟨h.tabs.1, h.tabs.2.1, tabs_block h.tabs.2.2 (hb _ h.tabs.1) (hb _ h.tabs.2.1)⟩
theorem Env.grow {lo : Nat} {w w' : World} {row : Option Nat} (h : Env lo w) (hg : w.grownBy w' row) (hr : ∀ b, row = some b → lo ≤ b) : Env lo w' :=
  h.blocks hg.size fun k hk => hg.block k (Nat.lt_of_lt_of_le hk h.le) (fun e => by have := hr k e.symm; omega)
theorem Env.pure {lo : Nat} {w w' : World} (h : Env lo w) (hg : w.grownBy w' none) : Env lo w' := h.grow hg (by simp)
theorem Env.far {lo g : Nat} {w w' : World} (h : Env lo w) (hg : w.grownBy w' (some g)) (hl : lo ≤ g) : Env lo w' := h.grow hg (by simp; omega)
theorem Env.alloc {lo : Nat} {w : World} (h : Env lo w) (o : Obj) : Env lo (w.alloc o) := h.pure (World.grownBy_alloc w o none)
theorem Env.below {lo B : Nat} {w w' : World} (h : Env lo w) (hb : Below B w w') (hB : lo ≤ B) : Env lo w' := h.blocks hb.size fun k hk => hb.block k (by omega)

theorem valid_any {lo : Nat} (s : ByteArray) (w : World) (he : Env lo w) (hs : s.size ≤ 1000000000) : Calls Tryd.prog 82 #[.string s] w fun e w' => e = .returned (.bool (Lib.validD s.data.toList)) ∧ w.grownBy w' none :=
  (Any.utf8_ValidString Tryd.lays196 s w (by omega) he.tabs.2.2).mono fun _ _ h => ⟨h.1, gb_of_below h.2 _⟩

/-- strings.Split at one byte. -/
def pieces (s : ByteArray) (c : UInt8) : List ByteArray := Lib.splitB ⟨#[c]⟩ 0 (Lib.countB s ⟨#[c]⟩) s
theorem splitB_sizes (sep : ByteArray) : ∀ (k : Nat) (s : ByteArray), (Lib.splitB sep 0 k s).length ≤ k + 1 ∧ ∀ x ∈ Lib.splitB sep 0 k s, x.size ≤ s.size := by
  intro k
  induction k with
  | zero => intro s; simp [Lib.splitB]
  | succ k ih =>
    intro s
    unfold Lib.splitB
    split
    · simp
    · have := ih (s.extract ((Lib.indexB s sep).toNat + sep.size) s.size)
      refine ⟨by simp; omega, fun x hx => ?_⟩
      simp only [List.mem_cons] at hx
      rcases hx with rfl | hx
      · simp; omega
      · have := this.2 x hx; simp at this; omega
end Go.Proofs.YtpddiepfolfnoaaDoor
