/- Contracts of the small functions on bytes: Digit, letter, Lower. -/
import Derived.Test.YtpddiepfolfnoaaProg
import Derived.Test.YtpddiepfolfnoaaMem
import Derived.Test.YtpddiepfolfnoaaSpec
import Derived.WalkKit
import Derived.WalkSpells
import Derived.WalkLawsBesides
import Derived.OwnWalk
import Derived.Outline
import Derived.Lib.Hide
import Derived.KernelRfl
import Derived.BigGuardPart
namespace Go.Proofs.Ytpddiepfolfnoaa
open Go.RowKit
set_option linter.unusedVariables false

set_option maxHeartbeats 400000 in
theorem digit_any (c : UInt8) (w : World) : Calls Try.prog 96 #[.int .u8 (c.toNat : Int)] w fun e w' => e = .returned (.bool (Sp.isDig c)) ∧ w = w' := by
  by_cases h1 : 48 ≤ (c.toNat : Int)
  · go_enter Try.func96, Try.ntmps96
    go_wp2
    go_ret
    exact ⟨ret_bool (by rw [Bool.eq_iff_iff]; simp [Sp.isDig, UInt8.le_iff_toNat_le]; omega), rfl⟩
  · have d1 : decide (48 ≤ (c.toNat : Int)) = false := by simpa using h1
    go_enter Try.func96, Try.ntmps96
    go_wp2
    go_ret
    exact ⟨ret_bool (by rw [Bool.eq_iff_iff]; simp [Sp.isDig, UInt8.le_iff_toNat_le]; omega), rfl⟩

set_option maxHeartbeats 400000 in
theorem letter_any (c : UInt8) (w : World) : Calls Try.prog 76 #[.int .u8 (c.toNat : Int)] w fun e w' => e = .returned (.bool (Sp.isLet c)) ∧ w = w' := by
  go_enter Try.func76, Try.ntmps76
  go_wp2_with (go_at_call 96; refine (digit_any _ _).mono ?_; rintro e w' ⟨rfl, rfl⟩)
  all_goals
    go_ret
    exact ⟨ret_bool (by rw [Bool.eq_iff_iff]; simp [Sp.isLet, Sp.isDig, UInt8.le_iff_toNat_le] at *; omega), rfl⟩

/-- The row of bytes while they are made small: the first k are done. -/
def LowRow (w : World) (B k : Nat) (s : ByteArray) : Prop :=
  ∃ C : Array Value, w.heap[B]? = some (.cells C 5 (C.size, C.size + 1)) ∧ s.size ≤ C.size ∧ ∀ j, j < s.size → C[j]? = some (.int .u8 ((if j < k then Sp.low (s.data.toList.getD j 0) else s.data.toList.getD j 0).toNat : Int))

theorem LowRow.cell {w : World} {B k : Nat} {s : ByteArray} (h : LowRow w B k s) {j : Nat} (hj : j < s.size) :
    w.cell? ⟨B, j, none⟩ = some (.int .u8 ((if j < k then Sp.low (s.data.toList.getD j 0) else s.data.toList.getD j 0).toNat : Int)) ∧ w.frozen? ⟨B, j, none⟩ = false := by
  obtain ⟨C, hb, hl, hc⟩ := h
  refine ⟨by rw [cell_of_row w B j _ _ _ hb]; exact hc j hj, ?_⟩
  simp [World.frozen?, hb]
  omega
theorem LowRow.start (w : World) (s : ByteArray) : LowRow (Lib.bytesWorld w 5 s) w.heap.size 0 s := by
  refine ⟨_, Lib.bytesWorld_at_new w 5 s, by simp [Lib.bytesCells], fun j hj => ?_⟩
  simp [Lib.bytesCells, Array.getElem?_append, List.getD, hj]
theorem LowRow.skip {w : World} {B k : Nat} {s : ByteArray} (h : LowRow w B k s) (hk : k < s.size) (hn : Sp.low (s.data.toList.getD k 0) = s.data.toList.getD k 0) : LowRow w B (k + 1) s := by
  obtain ⟨C, hb, hl, hc⟩ := h
  refine ⟨C, hb, hl, fun j hj => ?_⟩
  rw [hc j hj]
  by_cases e : j = k
  · subst e; rw [if_neg (by omega), if_pos (by omega), hn]
  · by_cases h' : j < k
    · rw [if_pos h', if_pos (by omega)]
    · rw [if_neg h', if_neg (by omega)]
theorem LowRow.put {w : World} {B k : Nat} {s : ByteArray} (h : LowRow w B k s) (hk : k < s.size) (v : Int) (hv : v = ((Sp.low (s.data.toList.getD k 0)).toNat : Int)) : LowRow (w.setCell ⟨B, k, none⟩ (.int .u8 v)) B (k + 1) s := by
  subst hv
  obtain ⟨C, hb, hl, hc⟩ := h
  refine ⟨C.setIfInBounds k (.int .u8 ((Sp.low (s.data.toList.getD k 0)).toNat : Int)), by simp [World.setCell, Array.getElem?_modify, hb], by simpa using hl, fun j hj => ?_⟩
  by_cases e : j = k
  · subst e
    rw [if_pos (by omega), Array.getElem?_setIfInBounds_self_of_lt (by omega)]
  · rw [Array.getElem?_setIfInBounds_ne (by omega), hc j hj]
    by_cases h' : j < k
    · rw [if_pos h', if_pos (by omega)]
    · rw [if_neg h', if_neg (by omega)]
theorem LowRow.done {w : World} {B : Nat} {s : ByteArray} (h : LowRow w B s.size s) : ∀ j (hj : j < (Sp.lowS s.data.toList).length), w.cell? ⟨B, j, none⟩ = some (.int .u8 ((Sp.lowS s.data.toList)[j].toNat : Int)) := by
  intro j hj
  have hj' : j < s.size := by simpa [Sp.lowS] using hj
  rw [(h.cell hj').1, if_pos hj']
  simp [Sp.lowS, List.getD, hj']
theorem gb_bytes (w : World) (s : ByteArray) (row : Option Nat) : w.grownBy (Lib.bytesWorld w 5 s) row :=
  ⟨rfl, rfl, rfl, by rw [Lib.bytesWorld_size]; omega, fun k hk _ => Lib.bytesWorld_at_old w 5 s k hk⟩

theorem low_up (c : UInt8) (h1 : 65 ≤ (c.toNat : Int)) (h2 : (c.toNat : Int) ≤ 90) : (c.toNat : Int) + 32 = ((Sp.low c).toNat : Int) := by
  have : Sp.low c = c + 32 := by
    unfold Sp.low; rw [if_pos]; simp [UInt8.le_iff_toNat_le]; omega
  rw [this, UInt8.toNat_add]; simp; omega
theorem low_not (c : UInt8) (h : ¬ (65 ≤ (c.toNat : Int) ∧ (c.toNat : Int) ≤ 90)) : Sp.low c = c := by
  unfold Sp.low; rw [if_neg]; simp [UInt8.le_iff_toNat_le]; omega

set_option maxHeartbeats 400000 in
theorem lower_any (s : ByteArray) (w : World) (hs : s.size ≤ 1000000000) : Calls Try.prog 77 #[.string s] w fun e w' => e = .returned (.string ⟨(Sp.lowS s.data.toList).toArray⟩) ∧ w.grownBy w' none := by
  have hconv := fun W => Lib.run_convert_string_bytes (P := Try.prog) W 9 94 5 s Try.underlying9 Try.underlying94 Try.underlying5
  have st := LowRow.start w s
  have g0 := gb_bytes w s none
  have HB := Lib.hid (Lib.bytesWorld_size w 5 s)
  go_enter Try.func77, Try.ntmps77
  go_wp2
  go_loopw [10] (fun i wr => ∃ k : Nat, k ≤ s.size ∧ i = .int .i64 k ∧ LowRow wr w.heap.size k s ∧ w.grownBy wr none) (fun i _ => s.size - (intOf i).toNat)
  case atStart => exact ⟨0, Nat.zero_le _, rfl, st, g0⟩
  case round =>
    obtain ⟨k, hk, rfl, hrow, hg⟩ := hrel
    by_cases hlt : k < s.size
    · obtain ⟨hc, hf⟩ := hrow.cell hlt
      rw [if_neg (by omega)] at hc
      obtain ⟨c, hcc⟩ : ∃ c, s.data.toList.getD k 0 = c := ⟨_, rfl⟩
      rw [hcc] at hc
      have HC := Lib.hid hcc
      clear hcc
      go_wp2
      · exact ⟨⟨k + 1, by omega, by go_num, hrow.put hlt _ (by rw [HC.out]; exact low_up c ‹_› ‹_›), gb_set hg (.inr (Nat.le_refl _)) _⟩, by simp [intOf]; omega⟩
      · exact ⟨⟨k + 1, by omega, by go_num, hrow.skip hlt (by rw [HC.out]; exact low_not c (by omega)), hg⟩, by simp [intOf]; omega⟩
      · exact ⟨⟨k + 1, by omega, by go_num, hrow.skip hlt (by rw [HC.out]; exact low_not c (by omega)), hg⟩, by simp [intOf]; omega⟩
    · obtain rfl : k = s.size := by omega
      have hback := run_back (P := Try.prog) wr 94 9 5 Try.underlying94 Try.underlying5 Try.underlying9 w.heap.size (grownCap w s.size 0 5) (Sp.lowS s.data.toList) s.size (by simp [Sp.lowS]) hrow.done
      go_wp2
      go_ret
      exact ⟨rfl, hg⟩
end Go.Proofs.Ytpddiepfolfnoaa
