/- What every walk of this seat may lean on in memory: the library's variables; strings.Split, utf8.ValidString, Join in this seat's words. -/
import Derived.Test.YtpddiepfolfnoaaSmall
import Derived.Lib.SplitLaws
namespace Go.Proofs.Ytpddiepfolfnoaa
open Go.RowKit
set_option linter.unusedVariables false

/-- The library's variables, as the walks read them, in blocks below lo. -/
structure Env (lo : Nat) (w : World) : Prop where
  le : lo ≤ w.heap.size
  maxLen : 0 < lo ∧ ∃ m : Int, w.cell? ⟨0, 0, none⟩ = some (.int .i64 m)

theorem Env.blocks {lo : Nat} {w w' : World} (h : Env lo w) (hs : w.heap.size ≤ w'.heap.size) (hb : ∀ k, k < lo → w'.heap[k]? = w.heap[k]?) : Env lo w' := by
  refine { le := Nat.le_trans h.le hs, maxLen := ?_
           }
  · obtain ⟨h1, m, h2⟩ := h.maxLen
    exact ⟨h1, m, by rw [World.cell?_of_block (w := w) (hb _ h1)]; exact h2⟩
theorem Env.grow {lo : Nat} {w w' : World} {row : Option Nat} (h : Env lo w) (hg : w.grownBy w' row) (hr : ∀ b, row = some b → lo ≤ b) : Env lo w' :=
  h.blocks hg.size fun k hk => hg.block k (Nat.lt_of_lt_of_le hk h.le) (fun e => by have := hr k e.symm; omega)
theorem Env.pure {lo : Nat} {w w' : World} (h : Env lo w) (hg : w.grownBy w' none) : Env lo w' := h.grow hg (by simp)
theorem Env.far {lo g : Nat} {w w' : World} (h : Env lo w) (hg : w.grownBy w' (some g)) (hl : lo ≤ g) : Env lo w' := h.grow hg (by simp; omega)
theorem Env.alloc {lo : Nat} {w : World} (h : Env lo w) (o : Obj) : Env lo (w.alloc o) := h.pure (World.grownBy_alloc w o none)
theorem Env.below {lo B : Nat} {w w' : World} (h : Env lo w) (hb : Below B w w') (hB : lo ≤ B) : Env lo w' := h.blocks hb.size fun k hk => hb.block k (by omega)


/-- strings.Split at one byte. -/
def pieces (s : ByteArray) (c : UInt8) : List ByteArray := Lib.splitB ⟨#[c]⟩ 0 (Lib.countB s ⟨#[c]⟩) s
theorem splitB_sizes (sep : ByteArray) : ∀ (k : Nat) (s : ByteArray), (Lib.splitB sep 0 k s).length ≤ k + 1 ∧ ∀ x ∈ Lib.splitB sep 0 k s, x.size ≤ s.size := by
  intro k
  induction k with
  | zero => intro s; simp [Lib.splitB]
  | succ k ih =>
    intro s
    unfold Lib.splitB
    split
    · simp
    · have := ih (s.extract ((Lib.indexB s sep).toNat + sep.size) s.size)
      refine ⟨by simp; omega, fun x hx => ?_⟩
      simp only [List.mem_cons] at hx
      rcases hx with rfl | hx
      · simp; omega
      · have := this.2 x hx; simp at this; omega
end Go.Proofs.Ytpddiepfolfnoaa
