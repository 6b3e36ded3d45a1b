/- Contracts: cmp.Compare at int, near.Compare, the reference's CompareOf. -/
import Derived.Test.YtpddiepfolfnoaaComp
namespace Go.Proofs.Ytpddiepfolfnoaa
open Go.RowKit
set_option linter.unusedVariables false

def cmpI (x y : Int) : Int := if x < y then -1 else if y < x then 1 else 0
set_option maxHeartbeats 400000 in
theorem nanI_any (x : Int) (w : World) : Calls Try.prog 75 #[.int .i64 x] w fun e w' => e = .returned (.bool false) ∧ w = w' := by
  go_enter Try.func75, Try.ntmps75
  go_wp2_with fail
  go_ret
  exact ⟨by simp, rfl⟩
set_option maxHeartbeats 400000 in
theorem compareI_any (x y : Int) (w : World) : Calls Try.prog 55 #[.int .i64 x, .int .i64 y] w fun e w' => e = .returned (.int .i64 (cmpI x y)) ∧ w = w' := by
  have HD := Lib.hid (show cmpI x y = if x < y then -1 else if y < x then 1 else 0 from rfl)
  go_enter Try.func55, Try.ntmps55
  go_wp2_with fail
  refine (nanI_any _ _).mono ?_
  rintro e w' ⟨rfl, rfl⟩
  go_wp2_with fail
  refine (nanI_any _ _).mono ?_
  rintro e w' ⟨rfl, rfl⟩
  by_cases p : x < y
  · go_wp2_with fail
    go_ret
    rw [HD.out, if_pos p]
    exact ⟨rfl, rfl⟩
  · by_cases q : y < x
    · go_wp2_with fail
      go_ret
      rw [HD.out, if_neg (by omega), if_pos (by omega)]
      exact ⟨rfl, rfl⟩
    · go_wp2_with fail
      go_ret
      rw [HD.out, if_neg (by omega), if_neg (by omega)]
      exact ⟨rfl, rfl⟩

theorem right_bd {n d : Int} (h : rightF n d = true) : 0 ≤ n ∧ n ≤ 1000000 ∧ 1 ≤ d ∧ d ≤ 1000000 := by
  simp only [rightF, Bool.and_eq_true] at h
  have h1 := inE_true h.1
  have h2 := inE_true h.2.1
  omega
theorem mul_bd {a b : Int} (h1 : 0 ≤ a) (h2 : a ≤ 1000000) (h3 : 0 ≤ b) (h4 : b ≤ 1000000) : 0 ≤ a * b ∧ a * b ≤ 1000000000000 :=
  ⟨Int.mul_nonneg h1 h3, Int.le_trans (Int.mul_le_mul h2 h4 h3 (by decide)) (by decide)⟩

set_option maxRecDepth 100000 in
set_option maxHeartbeats 1000000 in
theorem compareOf_any (n d m c : Int) (w : World) (h1 : rightF n d = true) (h2 : rightF m c = true) :
    Calls Try.prog 28 #[.agg #[.int .i64 n, .int .i64 d], .agg #[.int .i64 m, .int .i64 c]] w fun e w' => e = .returned (.int .i64 (cmpI (n * c) (m * d))) ∧ w.grownBy w' none := by
  obtain ⟨a1, a2, a3, a4⟩ := right_bd h1
  obtain ⟨b1, b2, b3, b4⟩ := right_bd h2
  clear h1 h2
  obtain ⟨r1, r2⟩ := mul_bd a1 a2 (show 0 ≤ c by omega) b4
  obtain ⟨r3, r4⟩ := mul_bd b1 b2 (show 0 ≤ d by omega) a4
  have w1 : wrap64 (n * c) = n * c := IntWalk.wrap64_in _ ⟨by omega, by omega⟩
  have w2 : wrap64 (m * d) = m * d := IntWalk.wrap64_in _ ⟨by omega, by omega⟩
  have w3 : IntKind.i64.wrap (n * c) = n * c := by rw [IntKind.wrap_i64]; omega
  have w4 : IntKind.i64.wrap (m * d) = m * d := by rw [IntKind.wrap_i64]; omega
  go_enter Try.func28, Try.ntmps28
  go_wp2_with fail
  refine (compareI_any _ _ _).mono ?_
  rintro e w' ⟨rfl, rfl⟩
  go_wp2_with fail
  go_ret
  exact ⟨rfl, gb_alloc (gb_alloc (gb_refl _ _) _) _⟩

set_option maxRecDepth 100000 in
set_option maxHeartbeats 2000000 in
theorem compare_any (n d m c : Int) (w : World) :
    Calls Try.prog 26 #[.agg #[.int .i64 n, .int .i64 d], .agg #[.int .i64 m, .int .i64 c]] w fun e w' => ∃ r x, e = .returned (.tuple #[.int .i64 r, .int .i64 x]) ∧ w.grownBy w' none ∧ (rightF n d = true → rightF m c = true → r = cmpI (n * c) (m * d) ∧ x = 0) ∧ ((rightF n d = false ∨ rightF m c = false) → x = 3) := by
  go_enter Try.func26, Try.ntmps26
  go_wp2_with fail
  obtain ⟨W2, hW2⟩ : ∃ W2, W2 = ((w.alloc (.cells #[.int .i64 n, .int .i64 d] 35)).alloc (.cells #[.int .i64 m, .int .i64 c] 35)) := ⟨_, rfl⟩
  rw [← hW2]
  have hgw : w.grownBy W2 none := by rw [hW2]; exact gb_alloc (gb_alloc (gb_refl _ _) _) _
  have hsz : W2.heap.size = w.heap.size + 2 := by rw [hW2]; simp
  have hb1 : W2.heap[w.heap.size]? = some (.cells #[.int .i64 n, .int .i64 d] 35 (0, 0)) := by
    rw [hW2, Below.heap_alloc _ _ _ (by simp)]
    exact heap_alloc_new w _
  have hb2 : W2.heap[w.heap.size + 1]? = some (.cells #[.int .i64 m, .int .i64 c] 35 (0, 0)) := by
    have := heap_alloc_new (w.alloc (.cells #[.int .i64 n, .int .i64 d] 35)) (.cells #[.int .i64 m, .int .i64 c] 35)
    rw [hW2]
    simpa using this
  clear hW2
  refine (right_any n d _).mono ?_
  rintro e w1 ⟨rfl, hg1⟩
  have hb3 := (hg1.block (w.heap.size + 1) (by omega) (by simp)).trans hb2
  have hb4 := (hg1.block w.heap.size (by omega) (by simp)).trans hb1
  have c0 : w1.cell? ⟨w.heap.size + 1, 0, none⟩ = some (.int .i64 m) := by rw [Lib.cell_of_heap hb3]; rfl
  have c1 : w1.cell? ⟨w.heap.size + 1, 1, none⟩ = some (.int .i64 c) := by rw [Lib.cell_of_heap hb3]; rfl
  cases h1 : rightF n d
  · go_wp2_with fail
    go_ret2
    exact ⟨_, _, rfl, hgw.trans hg1, (fun h => absurd (h1.symm.trans h) (by decide)), (fun _ => rfl)⟩
  · go_wp2_with fail
    refine (right_any m c _).mono ?_
    rintro e w2 ⟨rfl, hg2⟩
    have hg3 := hg1.trans hg2
    have hb5 := (hg3.block (w.heap.size + 1) (by omega) (by simp)).trans hb2
    have hb6 := (hg3.block w.heap.size (by omega) (by simp)).trans hb1
    clear c0 c1
    have c0 : w2.cell? ⟨w.heap.size + 1, 0, none⟩ = some (.int .i64 m) := by rw [Lib.cell_of_heap hb5]; rfl
    have c1 : w2.cell? ⟨w.heap.size + 1, 1, none⟩ = some (.int .i64 c) := by rw [Lib.cell_of_heap hb5]; rfl
    have d0 : w2.cell? ⟨w.heap.size, 0, none⟩ = some (.int .i64 n) := by rw [Lib.cell_of_heap hb6]; rfl
    have d1 : w2.cell? ⟨w.heap.size, 1, none⟩ = some (.int .i64 d) := by rw [Lib.cell_of_heap hb6]; rfl
    cases h2 : rightF m c
    · go_wp2_with fail
      go_ret2
      exact ⟨_, _, rfl, hgw.trans hg3, (fun _ h => absurd (h2.symm.trans h) (by decide)), (fun _ => rfl)⟩
    · obtain ⟨a1, a2, a3, a4⟩ := right_bd h1
      obtain ⟨b1, b2, b3, b4⟩ := right_bd h2
      have HH := Lib.hid (And.intro h1 h2)
      clear h1 h2
      obtain ⟨r1, r2⟩ := mul_bd a1 a2 (show 0 ≤ c by omega) b4
      obtain ⟨r3, r4⟩ := mul_bd b1 b2 (show 0 ≤ d by omega) a4
      have x1 : wrap64 (n * c) = n * c := IntWalk.wrap64_in _ ⟨by omega, by omega⟩
      have x2 : wrap64 (m * d) = m * d := IntWalk.wrap64_in _ ⟨by omega, by omega⟩
      have x3 : IntKind.i64.wrap (n * c) = n * c := by rw [IntKind.wrap_i64]; omega
      have x4 : IntKind.i64.wrap (m * d) = m * d := by rw [IntKind.wrap_i64]; omega
      go_wp2_with fail
      refine (compareI_any _ _ _).mono ?_
      rintro e w' ⟨rfl, rfl⟩
      go_wp2_with fail
      go_ret2
      refine ⟨_, _, rfl, hgw.trans hg3, fun _ _ => ⟨rfl, rfl⟩, fun h => ?_⟩
      rcases h with h | h
      · rw [HH.out.1] at h; cases h
      · rw [HH.out.2] at h; cases h
end Go.Proofs.Ytpddiepfolfnoaa
