/- Contracts: near.rightFraction, Compare; the reference's FractionRight, CompareOf. -/
import Derived.Test.YtpddiepfolfnoaaResem
import Derived.Deep.RegionWith
namespace Go.Proofs.Ytpddiepfolfnoaa
open Go.RowKit
set_option linter.unusedVariables false

def rightF (n d : Int) : Bool := inE d 1 1000000 && (inE n 0 1000000 && decide (((frac n.toNat d.toNat).1 : Int) = n ∧ ((frac n.toNat d.toNat).2 : Int) = d))
theorem in_val {n lo hi : Int} {b : Bool} (h : inE n lo hi = b) (w : World) : Calls Try.prog 56 #[.int .i64 n, .int .i64 lo, .int .i64 hi] w fun e w' => e = .returned (.bool b) ∧ w' = w :=
  (in_any n lo hi w).mono fun _ _ k => ⟨by rw [k.1, h], k.2.symm⟩

set_option maxRecDepth 100000 in
set_option maxHeartbeats 2000000 in
theorem right_any (n d : Int) (w : World) : Calls Try.prog 54 #[.agg #[.int .i64 n, .int .i64 d]] w fun e w' => e = .returned (.bool (rightF n d)) ∧ w.grownBy w' none := by
  cases hd : inE d 1 1000000
  · have HR := Lib.hid (show rightF n d = false from by simp [rightF, hd])
    have hi := in_val hd
    have HD := Lib.hid hd
    clear hd
    go_enter Try.func54, Try.ntmps54
    go_wp2_with fail
    go_quiet (exact (hi _).mono fun _ _ h => ⟨h.1, _, h.2⟩)
    go_wp2_with fail
    go_ret
    rw [HR.out]
    exact ⟨rfl, gb_drewN (gb_alloc (gb_refl _ _) _) _⟩
  · cases hn : inE n 0 1000000
    · have HR := Lib.hid (show rightF n d = false from by simp [rightF, hd, hn])
      have hi := in_val hd
      have hj := in_val hn
      have HD := Lib.hid hd
      have HN := Lib.hid hn
      clear hd hn
      go_enter Try.func54, Try.ntmps54
      go_wp2_with fail
      go_quiet (first | (go_at_call_of 56 (Value.int IntKind.i64 d); exact (hi _).mono fun _ _ h => ⟨h.1, _, h.2⟩) | (go_at_call_of 56 (Value.int IntKind.i64 n); exact (hj _).mono fun _ _ h => ⟨h.1, _, h.2⟩))
      go_wp2_with fail
      go_ret
      rw [HR.out]
      exact ⟨rfl, gb_drewN (gb_alloc (gb_refl _ _) _) _⟩
    · obtain ⟨h1, h2⟩ := inE_true hd
      obtain ⟨h3, h4⟩ := inE_true hn
      obtain ⟨a, rfl⟩ := Int.eq_ofNat_of_zero_le h3
      obtain ⟨b, rfl⟩ := Int.eq_ofNat_of_zero_le (show 0 ≤ d by omega)
      obtain ⟨p1, p2, hF⟩ : ∃ p1 p2, frac a b = (p1, p2) := ⟨_, _, rfl⟩
      have HR := Lib.hid (show rightF a b = decide ((p1 : Int) = a ∧ (p2 : Int) = b) from by simp [rightF, hd, hn, hF])
      have hi := in_val hd
      have hj := in_val hn
      have hf : ∀ W, (w.alloc (.cells #[.int .i64 a, .int .i64 b] 35)).grownBy W none → Calls Try.prog 42 #[.int .i64 a, .int .i64 b] W fun e w' => e = .returned (.agg #[.int .i64 p1, .int .i64 p2]) ∧ w.grownBy w' none ∧ w'.cell? ⟨w.heap.size, 0, none⟩ = some (.int .i64 a) ∧ w'.cell? ⟨w.heap.size, 1, none⟩ = some (.int .i64 b) := fun W hW => by
        have := fraction_any a b W (by omega) (by omega)
        rw [hF] at this
        refine this.mono ?_
        rintro e w2 ⟨rfl, hg2⟩
        have hk2 := kept_new (hW.trans hg2)
        exact ⟨rfl, out_new (hW.trans hg2), by rw [Lib.cell_of_heap hk2]; rfl, by rw [Lib.cell_of_heap hk2]; rfl⟩
      clear hd hn hF
      by_cases e1 : p1 = a
      · by_cases e2 : p2 = b
        · subst e1 e2
          have HR := Lib.hid (show rightF p1 p2 = true from by rw [HR.out]; simp)
          go_enter Try.func54, Try.ntmps54
          go_wp2_with fail
          go_region_with (first
            | (go_at_call_of 56 (Value.int IntKind.i64 (p2 : Int)); refine (hi _).mono ?_; rintro e w' ⟨rfl, rfl⟩)
            | (go_at_call_of 56 (Value.int IntKind.i64 (p1 : Int)); refine (hj _).mono ?_; rintro e w' ⟨rfl, rfl⟩)
            | (go_at_call 42; refine (hf _ ?_).mono ?_; exact gb_drew (gb_refl _ _); rintro e w2 ⟨rfl, hg2, c0, c1⟩))
          all_goals (go_wp2_with fail; go_ret; rw [HR.out]; exact ⟨rfl, by first | exact hg2 | exact gb_drew hg2⟩)

        · have HR := Lib.hid (show rightF a b = false from by rw [HR.out]; simp; omega)
          have n1 : ((p2 : Int) == (b : Int)) = false := beq_eq_false_iff_ne.2 (by omega)
          have n2 : ¬ (p2 : Int) = (b : Int) := by omega
          go_enter Try.func54, Try.ntmps54
          go_wp2_with fail
          go_region_with (first
            | (go_at_call_of 56 (Value.int IntKind.i64 (b : Int)); refine (hi _).mono ?_; rintro e w' ⟨rfl, rfl⟩)
            | (go_at_call_of 56 (Value.int IntKind.i64 (a : Int)); refine (hj _).mono ?_; rintro e w' ⟨rfl, rfl⟩)
            | (go_at_call 42; refine (hf _ ?_).mono ?_; exact gb_drew (gb_refl _ _); rintro e w2 ⟨rfl, hg2, c0, c1⟩))
          all_goals (go_wp2_with fail; go_ret; rw [HR.out]; exact ⟨rfl, by first | exact hg2 | exact gb_drew hg2⟩)

      · have HR := Lib.hid (show rightF a b = false from by rw [HR.out]; simp; omega)
        have n1 : ((p1 : Int) == (a : Int)) = false := beq_eq_false_iff_ne.2 (by omega)
        have n2 : ¬ (p1 : Int) = (a : Int) := by omega
        go_enter Try.func54, Try.ntmps54
        go_wp2_with fail
        go_region_with (first
          | (go_at_call_of 56 (Value.int IntKind.i64 (b : Int)); refine (hi _).mono ?_; rintro e w' ⟨rfl, rfl⟩)
          | (go_at_call_of 56 (Value.int IntKind.i64 (a : Int)); refine (hj _).mono ?_; rintro e w' ⟨rfl, rfl⟩)
          | (go_at_call 42; refine (hf _ ?_).mono ?_; exact gb_drew (gb_refl _ _); rintro e w2 ⟨rfl, hg2, c0, c1⟩))
        all_goals (go_wp2_with fail; go_ret; rw [HR.out]; exact ⟨rfl, by first | exact hg2 | exact gb_drew hg2⟩)

end Go.Proofs.Ytpddiepfolfnoaa
