/- Contract: the reference's FractionRight. Written by gencomp2.py. -/
import Derived.Test.YtpddiepfolfnoaaComp
namespace Go.Proofs.Ytpddiepfolfnoaa
open Go.RowKit
set_option linter.unusedVariables false

set_option maxRecDepth 100000 in
set_option maxHeartbeats 4000000 in
theorem rright_any (n d : Int) (w : World) : Calls Try.prog 27 #[.agg #[.int .i64 n, .int .i64 d]] w fun e w' => e = .returned (.bool (rightF n d)) ∧ w.grownBy w' none := by
  by_cases d1 : 1 ≤ d
  rotate_left
  · have HR := Lib.hid (show rightF n d = false from by simp [rightF, inE]; omega)
    have hx : decide (1 ≤ d) = false := decide_eq_false d1
    have hy : d < 1 := by omega
    go_enter Try.func27, Try.ntmps27
    go_wp2_with fail
    go_quiet (fail)
    go_wp2_with fail
    go_ret
    rw [HR.out]
    exact ⟨rfl, gb_drewN (gb_alloc (gb_refl _ _) _) _⟩
  by_cases d2 : d ≤ 1000000
  rotate_left
  · have HR := Lib.hid (show rightF n d = false from by simp [rightF, inE]; omega)
    have hx : decide (d ≤ 1000000) = false := decide_eq_false d2
    have hy : 1000000 < d := by omega
    go_enter Try.func27, Try.ntmps27
    go_wp2_with fail
    go_quiet (fail)
    go_wp2_with fail
    go_ret
    rw [HR.out]
    exact ⟨rfl, gb_drewN (gb_alloc (gb_refl _ _) _) _⟩
  by_cases n1 : 0 ≤ n
  rotate_left
  · have HR := Lib.hid (show rightF n d = false from by simp [rightF, inE]; omega)
    have hx : decide (0 ≤ n) = false := decide_eq_false n1
    have hy : n < 0 := by omega
    go_enter Try.func27, Try.ntmps27
    go_wp2_with fail
    go_quiet (fail)
    go_wp2_with fail
    go_ret
    rw [HR.out]
    exact ⟨rfl, gb_drewN (gb_alloc (gb_refl _ _) _) _⟩
  by_cases n2 : n ≤ 1000000
  rotate_left
  · have HR := Lib.hid (show rightF n d = false from by simp [rightF, inE]; omega)
    have hx : decide (n ≤ 1000000) = false := decide_eq_false n2
    have hy : 1000000 < n := by omega
    go_enter Try.func27, Try.ntmps27
    go_wp2_with fail
    go_quiet (fail)
    go_wp2_with fail
    go_ret
    rw [HR.out]
    exact ⟨rfl, gb_drewN (gb_alloc (gb_refl _ _) _) _⟩
  obtain ⟨a, rfl⟩ := Int.eq_ofNat_of_zero_le n1
  obtain ⟨b, rfl⟩ := Int.eq_ofNat_of_zero_le (show 0 ≤ d by omega)
  obtain ⟨p1, p2, hF⟩ : ∃ p1 p2, frac a b = (p1, p2) := ⟨_, _, rfl⟩
  have HR := Lib.hid (show rightF a b = decide ((p1 : Int) = a ∧ (p2 : Int) = b) from by
    have i1 : inE (b : Int) 1 1000000 = true := by simp [inE]; omega
    have i2 : inE (a : Int) 0 1000000 = true := by simp [inE]; omega
    simp [rightF, i1, i2, hF])
  have hf : ∀ W, (w.alloc (.cells #[.int .i64 a, .int .i64 b] 35)).grownBy W none → Calls Try.prog 44 #[.int .i64 a, .int .i64 b] W fun e w' => e = .returned (.agg #[.int .i64 p1, .int .i64 p2]) ∧ w.grownBy w' none ∧ w'.cell? ⟨w.heap.size, 0, none⟩ = some (.int .i64 a) ∧ w'.cell? ⟨w.heap.size, 1, none⟩ = some (.int .i64 b) := fun W hW => by
    have := part_any a b W (by omega) (by omega)
    rw [hF] at this
    refine this.mono ?_
    rintro e w2 ⟨rfl, hg2⟩
    have hk2 := kept_new (hW.trans hg2)
    exact ⟨rfl, out_new (hW.trans hg2), by rw [Lib.cell_of_heap hk2]; rfl, by rw [Lib.cell_of_heap hk2]; rfl⟩
  clear hF
  by_cases e1 : p1 = a
  · by_cases e2 : p2 = b
    · subst e1 e2
      have HR := Lib.hid (show rightF p1 p2 = true from by rw [HR.out]; simp)
      go_enter Try.func27, Try.ntmps27
      go_wp2_with fail
      go_region_with (go_at_call 44; refine (hf _ ?_).mono ?_; exact gb_drew (gb_refl _ _); rintro e w2 ⟨rfl, hg2, c0, c1⟩)
      all_goals (go_wp2_with fail; go_ret; rw [HR.out]; exact ⟨rfl, by first | exact hg2 | exact gb_drew hg2⟩)
    · have HR := Lib.hid (show rightF a b = false from by rw [HR.out]; simp; omega)
      have q1 : ((p2 : Int) == (b : Int)) = false := beq_eq_false_iff_ne.2 (by omega)
      have q2 : ¬ (p2 : Int) = (b : Int) := by omega
      go_enter Try.func27, Try.ntmps27
      go_wp2_with fail
      go_region_with (go_at_call 44; refine (hf _ ?_).mono ?_; exact gb_drew (gb_refl _ _); rintro e w2 ⟨rfl, hg2, c0, c1⟩)
      all_goals (go_wp2_with fail; go_ret; rw [HR.out]; exact ⟨rfl, by first | exact hg2 | exact gb_drew hg2⟩)
  · have HR := Lib.hid (show rightF a b = false from by rw [HR.out]; simp; omega)
    have q1 : ((p1 : Int) == (a : Int)) = false := beq_eq_false_iff_ne.2 (by omega)
    have q2 : ¬ (p1 : Int) = (a : Int) := by omega
    go_enter Try.func27, Try.ntmps27
    go_wp2_with fail
    go_region_with (go_at_call 44; refine (hf _ ?_).mono ?_; exact gb_drew (gb_refl _ _); rintro e w2 ⟨rfl, hg2, c0, c1⟩)
    all_goals (go_wp2_with fail; go_ret; rw [HR.out]; exact ⟨rfl, by first | exact hg2 | exact gb_drew hg2⟩)
end Go.Proofs.Ytpddiepfolfnoaa
