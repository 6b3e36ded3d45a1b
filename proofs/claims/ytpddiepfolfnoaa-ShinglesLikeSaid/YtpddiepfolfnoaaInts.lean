/- Contracts of the library's functions on []int in this seat's words; append of one int. -/
import Derived.Test.YtpddiepfolfnoaaShing
namespace Go.Proofs.Ytpddiepfolfnoaa
open Go.RowKit
set_option linter.unusedVariables false

def iv (n : Int) : Value := .int .i64 n
def srtI (L : List Int) : List Int := L.mergeSort fun x y => decide (x ≤ y)
theorem srtI_len (L : List Int) : (srtI L).length = L.length := by simp [srtI]
theorem map_iv (L : List Int) : L.map iv = L.map (Value.int .i64) := rfl
theorem info_int : (Try.prog.info? 3).map (fun i => (i.zero, i.size, i.bytes)) = some (some (.int .i64 0), 1, 8) := by kernel_rfl

theorem app_int {ops : Array Oper} {rest : List Oper} {o : Oper} {a : Act} {Q : Exit → Act → World → Prop} {w0 w : World} {row : Option Nat} (hgd : o.guard = none) (s x : Operand)
    (ho : o.op = .call { callee := .builtin .append, args := #[s, x], argTypes := #[22, 22] }) (v : Value) (n : Nat) (xs : List Value) (p : Int)
    (hs : a.eval s = v) (hown : w.ownsRow w0.heap.size 3 1 v n xs) (hx : a.eval x = .slice (some ⟨w.heap.size, 0, none⟩) 1 1) (hn : n ≤ 8000000000000) (hg : w0.grownBy w row)
    (h : ∀ v' w', w'.ownsRow w0.heap.size 3 1 v' (n + 1) (xs ++ [.int .i64 p]) → w0.grownBy w' row → wpList Try.prog ops Q rest (a.put o.dst v') w') :
    wpList Try.prog ops Q (o :: rest) a (w.alloc (.cells #[.int .i64 p] 3)) := by
  obtain ⟨i0, hi, hz0, hz1, hz2⟩ := info_parts info_int
  refine wpList_append_own _ hgd s x 22 ho w0.heap.size 3 i0 _ 1 8 Try.underlying22 hi hz0 hz1 hz2 rfl (by decide) v n xs hs (hown.alloc _) ⟨w.heap.size, 0, none⟩ 1 1 [.int .i64 p] hx rfl
    (cell_one_new _ _ _) (by intro u hu; simp at hu; subst hu; rfl) (by unfold maxLen; omega) (by omega) (by have := hg.size; simp; omega) ?_
  intro v' w' h1 h2 _
  exact h v' w' h1 (gb_new (gb_alloc hg _) h2 (fun b hb => (hown.lt b hb).1))

theorem sortI_own (w : World) (base : Nat) (v : Value) (n : Nat) (L : List Int) (hown : w.ownsRow base 3 1 v n (L.map iv)) (hn : n ≤ 8000000000000) :
    Calls Try.prog 35 #[v] w fun e w' => e = .returned (.tuple #[]) ∧ w'.ownsRow base 3 1 v n ((srtI L).map iv) ∧ w.grownBy w' v.ownBlock := by
  by_cases hv : v = .slice none 0 0
  · subst hv
    have hl : L = [] := by
      have h1 := hown.1
      rcases hown.2 with ⟨_, h2⟩ | ⟨_, _, _, h2, _⟩
      · subst h2; simpa using h1
      · cases h2
    subst hl
    refine (Try.slices_Sort_int_none _ _ _).mono ?_
    rintro e w' ⟨rfl, rfl⟩
    exact ⟨rfl, by simpa [srtI] using hown, gb_refl _ _⟩
  · obtain ⟨g, cap, rfl, hb, hlt, hnc, hcm, hl, hH⟩ := Lib.holds_of_ownsRow (by rw [map_iv] at hown; exact hown) hv
    subst hl
    refine (Try.slices_Sort_int g 0 cap L w hH hlt (by omega)).mono ?_
    rintro e w' ⟨rfl, q, os, rfl⟩
    refine ⟨rfl, own_growW ?_ os, gb_growW (gb_putRow (gb_refl _ _)) os⟩
    have := Lib.ownsRow_putRow (q := q) (k := L.length) (ys := srtI L) (by rw [map_iv] at hown; exact hown) (srtI_len L) (Nat.le_refl _)
    rw [List.take_of_length_le (by rw [srtI_len]; exact Nat.le_refl _)] at this
    exact this

theorem compactI_own (w : World) (base : Nat) (v : Value) (n : Nat) (L : List Int) (hown : w.ownsRow base 3 1 v n (L.map iv)) (hn : n ≤ 8000000000000) :
    Calls Try.prog 36 #[v] w fun e w' => ∃ v', e = .returned v' ∧ w'.ownsRow base 3 1 v' (Lib.compact L).length ((Lib.compact L).map iv) ∧ w.grownBy w' v.ownBlock := by
  by_cases hv : v = .slice none 0 0
  · subst hv
    have hl : L = [] := by
      have h1 := hown.1
      rcases hown.2 with ⟨_, h2⟩ | ⟨_, _, _, h2, _⟩
      · subst h2; simpa using h1
      · cases h2
    subst hl
    refine (Try.slices_Compact_int_empty _ _ _).mono ?_
    rintro e w' ⟨rfl, rfl⟩
    exact ⟨_, rfl, World.ownsRow_nil _ _ _ _, gb_refl _ _⟩
  · obtain ⟨g, cap, rfl, hb, hlt, hnc, hcm, hl, hH⟩ := Lib.holds_of_ownsRow (by rw [map_iv] at hown; exact hown) hv
    subst hl
    have hcl := Lib.compact_length_le L
    refine (Try.slices_Compact_int g 0 cap L w hH (by omega) hnc).mono ?_
    rintro e w' ⟨rfl, q, rfl⟩
    refine ⟨_, rfl, ?_, gb_putRow (gb_refl _ _)⟩
    have := Lib.ownsRow_putRow (q := q) (k := (Lib.compact L).length) (ys := Lib.compact L ++ List.replicate (L.length - (Lib.compact L).length) 0) (by rw [map_iv] at hown; exact hown) (by simp; omega) hcl
    rw [List.take_left' rfl] at this
    exact this

theorem rdI_get {w : World} {lo : Nat} {A : Option Addr} {L : List Int} (h : Rd w lo A (L.map iv)) (h0 : L ≠ []) : ∃ b off, A = some ⟨b, off, none⟩ ∧ ∀ j, j < L.length → w.cell? ⟨b, off + j, none⟩ = some (.int .i64 (L.getD j 0)) := by
  obtain ⟨b, off, e, _, _, hc⟩ := h (by simpa using h0)
  refine ⟨b, off, e, fun j hj => hc j _ ?_⟩
  simp [List.getD, hj, iv]

theorem seqI_any (A B : Option Addr) (L M : List Int) (n m c d : Nat) (w : World) (hn : L.length = n) (hm : M.length = m) (hr : Rd w 0 A (L.map iv)) (hs : Rd w 0 B (M.map iv)) (he : L = M) (hb1 : n ≤ 8000000000000) :
    Calls Try.prog 10 #[.slice A n c, .slice B m d] w fun e w' => e = .returned (.bool true) ∧ w.grownBy w' none := by
  subst he
  obtain rfl : n = m := hn.symm.trans hm
  by_cases hz : L = []
  · subst hz
    subst hn
    refine (Try.slices_Equal_int_empty A B c 0 d w (by omega)).mono ?_
    rintro e w' ⟨rfl, rfl⟩
    exact ⟨rfl, gb_refl _ _⟩
  · obtain ⟨b1, o1, rfl, hc1⟩ := rdI_get hr hz
    obtain ⟨b2, o2, rfl, hc2⟩ := rdI_get hs hz
    have hk := Try.slices_Equal_int b1 o1 n c b2 o2 n d L L w (by omega) (by omega) (by omega) (by omega) hc1 hc2
    refine hk.mono ?_
    rintro e w' ⟨rfl, q, rfl⟩
    exact ⟨ret_bool (by simp), gb_drewN (gb_refl _ _) q⟩

theorem containsI_any (A : Option Addr) (L : List Int) (n c : Nat) (x : Int) (w : World) (hn : L.length = n) (hr : Rd w 0 A (L.map iv)) (hb1 : n ≤ 8000000000000) :
    Calls Try.prog 43 #[.slice A n c, .int .i64 x] w fun e w' => e = .returned (.bool (L.contains x)) ∧ w = w' := by
  by_cases hz : L = []
  · subst hz
    subst hn
    refine (Try.slices_Contains_int_empty A c x w).mono ?_
    rintro e w' ⟨rfl, rfl⟩
    exact ⟨rfl, rfl⟩
  · obtain ⟨b1, o1, rfl, hc1⟩ := rdI_get hr hz
    have hk := Try.slices_Contains_int b1 o1 n c L x w (by omega) (by omega) hc1
    rw [List.take_of_length_le (by omega)] at hk
    exact hk.mono fun _ _ h => ⟨h.1, h.2.symm⟩

theorem searchI_any (A : Option Addr) (L : List Int) (n c : Nat) (x : Int) (w : World) (hn : L.length = n) (hr : Rd w 0 A (L.map iv)) (hs : L.Pairwise (· ≤ ·)) (hb1 : n ≤ 8000000000000) :
    Calls Try.prog 41 #[.slice A n c, .int .i64 x] w fun e w' => ∃ k : Nat, e = .returned (.tuple #[.int .i64 k, .bool (L.contains x)]) ∧ w.grownBy w' none := by
  by_cases hz : L = []
  · subst hz
    subst hn
    refine (Try.slices_BinarySearch_int_empty A c x w).mono ?_
    rintro e w' ⟨rfl, rfl⟩
    exact ⟨0, rfl, gb_refl _ _⟩
  · obtain ⟨b1, o1, rfl, hc1⟩ := rdI_get hr hz
    have hk := Try.slices_BinarySearch_int b1 o1 n c L x w (by omega) (by omega) hc1 (by rw [List.take_of_length_le (by omega)]; exact hs)
    rw [List.take_of_length_le (by omega)] at hk
    refine hk.mono ?_
    rintro e w' ⟨rfl, q, rfl⟩
    exact ⟨_, rfl, gb_drewN (gb_refl _ _) q⟩
end Go.Proofs.Ytpddiepfolfnoaa
