/- Contracts of the maker's stream: Below, Next. -/
import Derived.Test.YtpddiepfolfnoaaProg
import Derived.WalkKit
import Derived.WalkSpells
import Derived.WalkLawsBesides
import Derived.OwnWalk
import Derived.Outline
import Derived.Lib.Hide
import Derived.KernelRfl
import Derived.Deep.QuietTactic
import Derived.BigQuiet
import Derived.Test.YtpddiepfolfnoaaMem
namespace Go.Proofs.Ytpddiepfolfnoaa
open Go.RowKit
set_option linter.unusedVariables false

/-- chasemake.Below. -/
def below (x n : Int) : Int := if n < 1 then 0 else x % n

theorem below_lo (x n : Int) : 0 ≤ below x n := by
  unfold below
  split
  · omega
  · exact Int.emod_nonneg x (by omega)
theorem below_hi (x n : Int) (h : 1 ≤ n) : below x n < n := by
  unfold below
  rw [if_neg (by omega)]
  exact Int.emod_lt_of_pos x (by omega)
theorem below_le (x n : Int) (m : Int) (h : 0 ≤ m) (hn : n ≤ m + 1) : below x n ≤ m := by
  unfold below
  split
  · omega
  · have := Int.emod_lt_of_pos x (show 0 < n by omega); omega

theorem tmod_cases (x n : Int) (hn : 1 ≤ n) : x % n = if x.tmod n < 0 then x.tmod n + n else x.tmod n := by
  have h1 := Int.tmod_eq_emod (a := x) (b := n)
  have h2 := Int.emod_nonneg x (show n ≠ 0 by omega)
  have h3 := Int.emod_lt_of_pos x (show 0 < n by omega)
  rw [Int.tmod_eq_emod]
  split <;> split at * <;> omega
theorem tmod_bd (x n : Int) (hn : 1 ≤ n) : -n < x.tmod n ∧ x.tmod n < n := by
  have h2 := Int.emod_nonneg x (show n ≠ 0 by omega)
  have h3 := Int.emod_lt_of_pos x (show 0 < n by omega)
  rw [Int.tmod_eq_emod]
  split <;> omega

set_option maxHeartbeats 400000 in
theorem below_any (x n : Int) (w : World) (h2 : n ≤ 9223372036854775807) :
    Calls Try.prog 53 #[.int .i64 x, .int .i64 n] w fun e w' => e = .returned (.int .i64 (below x n)) ∧ w = w' := by
  by_cases hn : n < 1
  · go_enter Try.func53, Try.ntmps53
    go_wp2
    go_ret
    exact ⟨by simp [below, hn], rfl⟩
  · have hc := tmod_cases x n (by omega)
    have hb1 := (tmod_bd x n (by omega)).1
    have hb2 := (tmod_bd x n (by omega)).2
    have H := Lib.hid hc
    clear hc
    go_enter Try.func53, Try.ntmps53
    go_wp2
    all_goals
      go_ret
      exact ⟨ret_int (by unfold below; rw [if_neg (show ¬ n < 1 by omega), H.out]; first | rw [if_pos (by omega)] | rw [if_neg (by omega)]), rfl⟩

/-- The stream behind a pointer: its own block g, the numbers before it. -/
def Strm (w : World) (g k : Nat) : Prop :=
  ∃ (a : Option Addr) (len cap : Nat), w.heap[g]? = some (.cells #[.slice a len cap, .int .i64 k] 25 (0, 0)) ∧ len ≤ maxLen ∧
    (0 < len → ∃ b off, a = some ⟨b, off, none⟩ ∧ b < g ∧ ∀ i, i < len → ∃ z : Int, w.cell? ⟨b, off + i, none⟩ = some (.int .i64 z))

theorem strm_set {w : World} {g k : Nat} (h : Strm w g k) (v : Int) (hv : v = (k : Int) + 1) : Strm (w.setCell ⟨g, 1, none⟩ (.int .i64 v)) g (k + 1) := by
  subst hv
  obtain ⟨a, len, cap, hb, hl, hx⟩ := h
  refine ⟨a, len, cap, ?_, hl, fun h0 => ?_⟩
  · simp [World.setCell, Array.getElem?_modify, hb]
  · obtain ⟨b, off, e, hbg, hc⟩ := hx h0
    refine ⟨b, off, e, hbg, fun i hi => ?_⟩
    obtain ⟨z, hz⟩ := hc i hi
    exact ⟨z, by rw [World.cell?_setCell_other _ _ _ _ (by intro e; injection e; omega)]; exact hz⟩
theorem Strm.drewN {w : World} {g k : Nat} (h : Strm w g k) (n : Nat) : Strm (w.drewN n) g k := h

set_option maxHeartbeats 800000 in
theorem next_any (g k : Nat) (n : Int) (w : World) (hs : Strm w g k) (hk : k ≤ 1000000) (h2 : n ≤ 9223372036854775807) :
    Calls Try.prog 24 #[.pointer (some ⟨g, 0, none⟩), .int .i64 n] w fun e w' => ∃ x, e = .returned (.int .i64 (below x n)) ∧ w.grownBy w' (some g) ∧ Strm w' g (k + 1) := by
  have hS := Lib.hid hs
  obtain ⟨a, len, cap, hb, hl, hx⟩ := hs
  unfold maxLen at hl
  have c0 : w.cell? ⟨g, 0, none⟩ = some (.slice a len cap) := by rw [cell_of_row w g 0 _ _ _ hb]; rfl
  have c1 : w.cell? ⟨g, 1, none⟩ = some (.int .i64 k) := by rw [cell_of_row w g 1 _ _ _ hb]; rfl
  have f1 : w.frozen? ⟨g, 1, none⟩ = false := by simp [World.frozen?, hb]
  by_cases h0 : len = 0
  · have e0 : ((len : Int) == 0) = true := by simp [h0]
    clear hx hb
    go_enter Try.func24, Try.ntmps24
    go_wp2_with (go_at_call 53; refine (below_any _ _ _ h2).mono ?_; rintro e w' ⟨rfl, rfl⟩)
    go_ret
    exact ⟨_, rfl, gb_set (gb_refl w _) (.inl rfl) _, strm_set hS.out _ rfl⟩
  · obtain ⟨b, off, rfl, hbg, hcell⟩ := hx (by omega)
    clear hx hb
    have e0 : ((len : Int) == 0) = false := by simp; omega
    have p1 : (1 : Int) ≤ len := by omega
    have hm0 : 0 ≤ (k : Int) % len := Int.emod_nonneg _ (by omega)
    have hm1 : (k : Int) % len < len := Int.emod_lt_of_pos _ (by omega)
    have hcc : ∃ z : Int, w.cell? ⟨b, off + k % len, none⟩ = some (.int .i64 z) := hcell (k % len) (Nat.mod_lt _ (by omega))
    obtain ⟨z, hz⟩ := hcc
    clear hcell
    have hne : (⟨g, 1, none⟩ : Addr) ≠ ⟨b, off + k % len, none⟩ := by intro e; injection e; omega
    have hz' : (w.setCell ⟨g, 1, none⟩ (.int .i64 ((k : Int) + 1))).cell? ⟨b, off + k % len, none⟩ = some (.int .i64 z) := by
      rw [World.cell?_setCell_other _ _ _ _ hne]; exact hz
    clear hz hne
    go_enter Try.func24, Try.ntmps24
    go_wp2_with fail
    go_quiet (fail)
    go_wp2_with fail
    go_quiet (fail)
    go_wp2_with fail
    refine (below_any _ _ _ (by decide)).mono ?_
    rintro e w' ⟨rfl, rfl⟩
    go_wp2_with fail
    refine (below_any _ _ _ h2).mono ?_
    rintro e w' ⟨rfl, rfl⟩
    go_wp2_with fail
    go_ret
    exact ⟨_, rfl, gb_drewN (gb_set (gb_refl w _) (.inl rfl) _) _, (strm_set hS.out _ rfl).drewN _⟩

/-- The stream after a call that asked it at most c times. -/
theorem Strm.lt {w : World} {g k : Nat} (h : Strm w g k) : g < w.heap.size := by
  obtain ⟨a, len, cap, hb, _⟩ := h
  exact (Array.getElem?_eq_some_iff.1 hb).1
theorem Strm.grow {w w' : World} {g k : Nat} {row : Option Nat} (h : Strm w g k) (hg : w.grownBy w' row) (hr : ∀ b, row = some b → g < b) : Strm w' g k := by
  have hlt := h.lt
  obtain ⟨a, len, cap, hb, hl, hx⟩ := h
  refine ⟨a, len, cap, (hg.block g hlt (fun e => by have := hr g e.symm; omega)).trans hb, hl, fun h0 => ?_⟩
  obtain ⟨b, off, e, hbg, hc⟩ := hx h0
  refine ⟨b, off, e, hbg, fun i hi => ?_⟩
  obtain ⟨z, hz⟩ := hc i hi
  exact ⟨z, by rw [gb_cell hg (by simp; omega) (fun e => by have := hr b e.symm; omega)]; exact hz⟩
theorem Strm.pure {w w' : World} {g k : Nat} (h : Strm w g k) (hg : w.grownBy w' none) : Strm w' g k := h.grow hg (by simp)
theorem Strm.alloc {w : World} {g k : Nat} (h : Strm w g k) (o : Obj) : Strm (w.alloc o) g k := h.pure (World.grownBy_alloc w o none)

set_option maxHeartbeats 400000 in
theorem flip_any (g k : Nat) (n : Int) (w : World) (hs : Strm w g k) (hk : k ≤ 1000000) (h2 : n ≤ 9223372036854775807) :
    Calls Try.prog 38 #[.pointer (some ⟨g, 0, none⟩), .int .i64 n] w fun e w' => ∃ b, e = .returned (.bool b) ∧ w.grownBy w' (some g) ∧ Strm w' g (k + 1) := by
  go_enter Try.func38, Try.ntmps38
  go_wp2_with fail
  refine (next_any g k n _ hs hk h2).mono ?_
  rintro e w' ⟨x, rfl, hg, hs'⟩
  go_wp2_with fail
  go_ret
  exact ⟨_, rfl, hg, hs'⟩

theorem below_idx (x : Int) (n : Nat) (hn : 0 < n) : ∃ i : Nat, i < n ∧ below x n = i := by
  have h0 := below_lo x n
  have h1 := below_hi x n (by omega)
  exact ⟨(below x n).toNat, by omega, by omega⟩

set_option maxHeartbeats 400000 in
theorem one_any (g k : Nat) (A : Option Addr) (L : List ByteArray) (n c : Nat) (w : World) (hs : Strm w g k) (hk : k ≤ 1000000) (hn : L.length = n) (hn0 : 0 < n) (hn1 : n ≤ 1000000)
    (hr : Rd w (g + 1) A (L.map .string)) :
    Calls Try.prog 29 #[.pointer (some ⟨g, 0, none⟩), .slice A n c] w fun e w' => ∃ s, e = .returned (.string s) ∧ s ∈ L ∧ w.grownBy w' (some g) ∧ Strm w' g (k + 1) := by
  obtain ⟨b, off, rfl, hlo, hb, hc⟩ := hr.open_ (by simpa using (by omega : 0 < L.length))
  have H := Lib.hid hn
  clear hn
  have HC := Lib.hid hc
  clear hc hr
  go_enter Try.func29, Try.ntmps29
  go_wp2_with fail
  refine (next_any g k n _ hs hk (by omega)).mono ?_
  rintro e w' ⟨x, rfl, hg, hs'⟩
  obtain ⟨i, hi, hx⟩ := below_idx x n hn0
  rw [hx]
  clear hx
  have hcell : w'.cell? ⟨b, off + i, none⟩ = some (.string (L[i]'(by rw [H.out]; exact hi))) := by
    rw [gb_cell hg hb (by simp; omega), HC.out i (by simpa [H.out] using hi)]; simp
  go_wp2_with fail
  go_ret
  exact ⟨_, rfl, List.getElem_mem _, hg, hs'⟩

set_option maxHeartbeats 400000 in
theorem pick_any (g k : Nat) (A : Option Addr) (L : List Int) (n c : Nat) (w : World) (hs : Strm w g k) (hk : k ≤ 1000000) (hn : L.length = n) (hn0 : 0 < n) (hn1 : n ≤ 1000000)
    (hr : Rd w (g + 1) A (L.map (.int .i64))) :
    Calls Try.prog 7 #[.pointer (some ⟨g, 0, none⟩), .slice A n c] w fun e w' => ∃ s, e = .returned (.int .i64 s) ∧ s ∈ L ∧ w.grownBy w' (some g) ∧ Strm w' g (k + 1) := by
  obtain ⟨b, off, rfl, hlo, hb, hc⟩ := hr.open_ (by simpa using (by omega : 0 < L.length))
  have H := Lib.hid hn
  clear hn
  have HC := Lib.hid hc
  clear hc hr
  go_enter Try.func7, Try.ntmps7
  go_wp2_with fail
  refine (next_any g k n _ hs hk (by omega)).mono ?_
  rintro e w' ⟨x, rfl, hg, hs'⟩
  obtain ⟨i, hi, hx⟩ := below_idx x n hn0
  rw [hx]
  clear hx
  have hcell : w'.cell? ⟨b, off + i, none⟩ = some (.int .i64 (L[i]'(by rw [H.out]; exact hi))) := by
    rw [gb_cell hg hb (by simp; omega), HC.out i (by simpa [H.out] using hi)]; simp
  go_wp2_with fail
  go_ret
  exact ⟨_, rfl, List.getElem_mem _, hg, hs'⟩

set_option maxHeartbeats 400000 in
theorem range_any (g k : Nat) (lo hi : Int) (w : World) (hs : Strm w g k) (hk : k ≤ 1000000) (h1 : -1000000000 ≤ lo) (h2 : lo ≤ hi) (h3 : hi ≤ 1000000000) :
    Calls Try.prog 25 #[.pointer (some ⟨g, 0, none⟩), .int .i64 lo, .int .i64 hi] w fun e w' => ∃ x, e = .returned (.int .i64 x) ∧ lo ≤ x ∧ x ≤ hi ∧ w.grownBy w' (some g) ∧ Strm w' g (k + 1) := by
  go_enter Try.func25, Try.ntmps25
  go_wp2_with fail
  refine (next_any g k _ _ hs hk (by omega)).mono ?_
  rintro e w' ⟨x, rfl, hg, hs'⟩
  have b1 := below_lo x (hi - lo + 1)
  have b2 := below_hi x (hi - lo + 1) (by omega)
  go_wp2_with fail
  go_ret
  exact ⟨_, rfl, by omega, by omega, hg, hs'⟩
end Go.Proofs.Ytpddiepfolfnoaa
