/- Contracts: slices.Sort, slices.Compact, strings.Join, slices.Equal in this seat's words; near.shingles, near.Shingles, nears. -/
import Derived.Test.YtpddiepfolfnoaaEnv
import Derived.Lib.OwnBridge
namespace Go.Proofs.Ytpddiepfolfnoaa
open Go.RowKit
set_option linter.unusedVariables false

def srt (L : List (List UInt8)) : List (List UInt8) := L.mergeSort fun x y => decide (x ≤ y)
theorem srt_len (L : List (List UInt8)) : (srt L).length = L.length := by simp [srt]
theorem gb_putRow {α : Type} [Inhabited α] {enc : α → Value} {w0 w : World} {g q : Nat} {d : Array α} (h : w0.grownBy w (some g)) : w0.grownBy (Sort.putRow enc (Sort.ahead w q) g 0 d) (some g) :=
  ⟨h.os, h.tape, h.output, by simpa [Sort.putRow, Sort.mapBlock, Sort.ahead] using h.size, fun k hk hne => by
    rw [← h.block k hk hne]
    simp [Sort.putRow, Sort.mapBlock, Sort.ahead, Array.getElem?_modify, show g ≠ k from fun e => hne (by rw [e])]⟩
theorem gb_growW {w0 w : World} {row : Option Nat} (h : w0.grownBy w row) (os : Array Obj) : w0.grownBy (Sort.grow w os) row :=
  ⟨h.os, h.tape, h.output, Nat.le_trans h.size (by simp [Sort.grow]), fun k hk hne => by
    rw [← h.block k hk hne]
    have : k < w.heap.size := Nat.lt_of_lt_of_le hk h.size
    simp [Sort.grow, Array.getElem?_append, this]⟩
theorem own_growW {w : World} {base : Nat} {e : TypeId} {size n : Nat} {v : Value} {xs : List Value} (h : w.ownsRow base e size v n xs) (os : Array Obj) : (Sort.grow w os).ownsRow base e size v n xs :=
  h.kept (gb_growW (gb_refl w none) os) (by cases v.ownBlock <;> simp)
theorem map_sv (L : List (List UInt8)) : L.map sv = L.map encStr := rfl

theorem sort_own (w : World) (base : Nat) (v : Value) (n : Nat) (L : List (List UInt8)) (hown : w.ownsRow base 9 1 v n (L.map sv)) (hn : n ≤ 8000000000000) :
    Calls Try.prog 58 #[v] w fun e w' => e = .returned (.tuple #[]) ∧ w'.ownsRow base 9 1 v n ((srt L).map sv) ∧ w.grownBy w' v.ownBlock := by
  by_cases hv : v = .slice none 0 0
  · subst hv
    have hl : L = [] := by
      have h1 := hown.1
      rcases hown.2 with ⟨_, h2⟩ | ⟨_, _, _, h2, _⟩
      · subst h2; simpa using h1
      · cases h2
    subst hl
    refine (Try.slices_Sort_string_none _ _ _).mono ?_
    rintro e w' ⟨rfl, rfl⟩
    exact ⟨rfl, by simpa [srt] using hown, gb_refl _ _⟩
  · obtain ⟨g, cap, rfl, hb, hlt, hnc, hcm, hl, hH⟩ := Lib.holds_of_ownsRow (by rw [map_sv] at hown; exact hown) hv
    subst hl
    refine (Try.slices_Sort_string g 0 cap L w hH hlt (by omega)).mono ?_
    rintro e w' ⟨rfl, q, os, rfl⟩
    refine ⟨rfl, own_growW ?_ os, gb_growW (gb_putRow (gb_refl _ _)) os⟩
    have := Lib.ownsRow_putRow (q := q) (k := L.length) (ys := srt L) (by rw [map_sv] at hown; exact hown) (srt_len L) (Nat.le_refl _)
    rw [List.take_of_length_le (by rw [srt_len]; exact Nat.le_refl _)] at this
    exact this

theorem compact_own (w : World) (base : Nat) (v : Value) (n : Nat) (L : List (List UInt8)) (hown : w.ownsRow base 9 1 v n (L.map sv)) (hn : n ≤ 8000000000000) :
    Calls Try.prog 59 #[v] w fun e w' => ∃ v', e = .returned v' ∧ w'.ownsRow base 9 1 v' (Lib.compact L).length ((Lib.compact L).map sv) ∧ w.grownBy w' v.ownBlock := by
  by_cases hv : v = .slice none 0 0
  · subst hv
    have hl : L = [] := by
      have h1 := hown.1
      rcases hown.2 with ⟨_, h2⟩ | ⟨_, _, _, h2, _⟩
      · subst h2; simpa using h1
      · cases h2
    subst hl
    refine (Try.slices_Compact_string_empty _ _ _).mono ?_
    rintro e w' ⟨rfl, rfl⟩
    exact ⟨_, rfl, World.ownsRow_nil _ _ _ _, gb_refl _ _⟩
  · obtain ⟨g, cap, rfl, hb, hlt, hnc, hcm, hl, hH⟩ := Lib.holds_of_ownsRow (by rw [map_sv] at hown; exact hown) hv
    subst hl
    have hcl := Lib.compact_length_le L
    refine (Try.slices_Compact_string g 0 cap L w hH (by omega) hnc).mono ?_
    rintro e w' ⟨rfl, q, rfl⟩
    refine ⟨_, rfl, ?_, gb_putRow (gb_refl _ _)⟩
    have := Lib.ownsRow_putRow (q := q) (k := (Lib.compact L).length) (ys := Lib.compact L ++ List.replicate (L.length - (Lib.compact L).length) []) (by rw [map_sv] at hown; exact hown) (by simp; omega) hcl
    rw [List.take_left' rfl] at this
    exact this

theorem sjoin_any (A : Option Addr) (L : List (List UInt8)) (n c : Nat) (sep : ByteArray) (w : World) (hn : L.length = n) (hc : n ≤ c) (hr : Rd w 0 A (L.map sv)) (hlen : (Lib.join L sep.data.toList).length ≤ 1000000000) (hnn : n ≤ 1000000000) :
    Calls Try.prog 49 #[.slice A n c, .string sep] w fun e w' => e = .returned (.string ⟨(Lib.join L sep.data.toList).toArray⟩) ∧ w.grownBy w' none := by
  by_cases h0 : L = []
  · subst h0
    subst hn
    refine (Try.strings_Join_none A c sep w).mono ?_
    rintro e w' ⟨rfl, rfl⟩
    exact ⟨rfl, gb_refl _ _⟩
  · obtain ⟨b, off, rfl, _, hb, hcell⟩ := hr (by simpa using h0)
    have hm : (L.map fun l => (⟨l.toArray⟩ : ByteArray)).map (·.data.toList) = L := by simp [Function.comp_def]
    have hk := Try.strings_Join b off c (L.map fun l => ⟨l.toArray⟩) sep w (by
      intro j x hx
      refine hcell j _ ?_
      rw [List.getElem?_map] at hx ⊢
      cases hl : L[j]? with
      | none => rw [hl] at hx; cases hx
      | some l => rw [hl] at hx; simp only [Option.map_some, Option.some.injEq] at hx ⊢; rw [← hx]; rfl) hb (by simp; omega) (by simp; omega) (by rw [hm]; omega)
    rw [hm, List.length_map, hn] at hk
    exact hk.mono fun e w' h => ⟨h.1, gb_of_below h.2 _⟩

theorem rd_get {w : World} {lo : Nat} {A : Option Addr} {L : List (List UInt8)} (h : Rd w lo A (L.map sv)) (h0 : L ≠ []) : ∃ b off, A = some ⟨b, off, none⟩ ∧ ∀ j, j < (L.map fun l => (⟨l.toArray⟩ : ByteArray)).length → w.cell? ⟨b, off + j, none⟩ = some (.string ((L.map fun l => (⟨l.toArray⟩ : ByteArray)).getD j ByteArray.empty)) := by
  obtain ⟨b, off, e, _, _, hc⟩ := h (by simpa using h0)
  refine ⟨b, off, e, fun j hj => hc j _ ?_⟩
  have hj' : j < L.length := by simpa using hj
  simp [List.getD, hj', sv]

theorem seq_any (A B : Option Addr) (L M : List (List UInt8)) (n m c d : Nat) (w : World) (hn : L.length = n) (hm : M.length = m) (hr : Rd w 0 A (L.map sv)) (hs : Rd w 0 B (M.map sv)) (hb1 : n ≤ 8000000000000) (hb2 : m ≤ 8000000000000) :
    Calls Try.prog 20 #[.slice A n c, .slice B m d] w fun e w' => e = .returned (.bool (decide (L = M))) ∧ w.grownBy w' none := by
  by_cases h0 : n = m
  · subst h0
    by_cases hz : L = []
    · subst hz
      subst hn
      have hM : M = [] := List.eq_nil_of_length_eq_zero hm
      subst hM
      refine (Try.slices_Equal_string_empty A B c 0 d w (by omega)).mono ?_
      rintro e w' ⟨rfl, rfl⟩
      exact ⟨rfl, gb_refl _ _⟩
    · have hM : M ≠ [] := by intro e; subst e; simp at hm; subst hm; exact hz (List.eq_nil_of_length_eq_zero hn)
      obtain ⟨b1, o1, rfl, hc1⟩ := rd_get hr hz
      obtain ⟨b2, o2, rfl, hc2⟩ := rd_get hs hM
      have hk := Try.slices_Equal_string b1 o1 n c b2 o2 n d (L.map fun l => ⟨l.toArray⟩) (M.map fun l => ⟨l.toArray⟩) w (by simp; omega) (by simp; omega) (by omega) (by omega) hc1 hc2
      refine hk.mono ?_
      rintro e w' ⟨rfl, q, rfl⟩
      refine ⟨ret_bool ?_, gb_drewN (gb_refl _ _) q⟩
      rw [List.take_of_length_le (by simp; omega), List.take_of_length_le (by simp; omega)]
      congr 1
      rw [eq_iff_iff]
      constructor
      · intro h
        have := congrArg (List.map (·.data.toList)) h
        simpa [Function.comp_def] using this
      · intro h; rw [h]
  · refine (Try.slices_Equal_string_lens A B n c m d w h0).mono ?_
    rintro e w' ⟨rfl, rfl⟩
    refine ⟨ret_bool ?_, gb_refl _ _⟩
    symm
    simp
    intro e; subst e; omega
end Go.Proofs.Ytpddiepfolfnoaa
