/- Contracts: near.fraction, the reference's part: the same fraction in lowest terms. -/
import Derived.Test.YtpddiepfolfnoaaHash
import Derived.RegionTactic
import Derived.ChangeAlike
namespace Go.Proofs.Ytpddiepfolfnoaa
open Go.RowKit
set_option linter.unusedVariables false

def frac (n d : Nat) : Nat × Nat := if d = 0 then (1, 1) else (n / Nat.gcd n d, d / Nat.gcd n d)
def frV2 (p : Nat × Nat) : Value := .agg #[.int .i64 p.1, .int .i64 p.2]

set_option maxRecDepth 100000 in
set_option maxHeartbeats 1000000 in
theorem fraction_any (n d : Nat) (w : World) (hn : n ≤ 1000000000000) (hd : d ≤ 1000000000000) :
    Calls Try.prog 42 #[.int .i64 n, .int .i64 d] w fun e w' => e = .returned (frV2 (frac n d)) ∧ w.grownBy w' none := by
  by_cases h0 : d = 0
  · have e0 : ((d : Int) == 0) = true := by simp [h0]
    have HF := Lib.hid (show frac n d = (1, 1) from by simp [frac, h0])
    clear h0
    go_enter Try.func42, Try.ntmps42
    go_wp2_with fail
    exact bodyPost_ret (v := .agg #[.int .i64 1, .int .i64 1]) (by simp [results, Try.results42, go_sem]) rfl ⟨by rw [HF.out]; rfl, gb_alloc (gb_refl _ _) _⟩
  · have e0 : ((d : Int) == 0) = false := beq_eq_false_iff_ne.2 (by omega)
    have HF := Lib.hid (show frac n d = (n / Nat.gcd n d, d / Nat.gcd n d) from by simp [frac, h0])
    have hg0 : 0 < Nat.gcd n d := Nat.gcd_pos_of_pos_right _ (by omega)
    clear h0
    go_enter Try.func42, Try.ntmps42
    go_wp2_with fail
    go_loopw [5, 6] (fun x y wr => ∃ (a b q : Nat), x = .int .i64 a ∧ y = .int .i64 b ∧ a ≤ 1000000000000 ∧ b ≤ 1000000000000 ∧ Nat.gcd a b = Nat.gcd n d ∧ wr = (w.alloc (.cells #[.int .i64 0, .int .i64 0] 35)).drewN q) (fun _ y _ => (intOf y).toNat)
    case atStart => exact ⟨n, d, 0, rfl, rfl, hn, hd, rfl, rfl⟩
    case round =>
      obtain ⟨a, b, q, rfl, rfl, ha, hb, hgc, rfl⟩ := hrel
      have HC := Lib.hid hgc
      clear hgc
      by_cases hb0 : 0 < b
      · have hb1 : (1 : Int) ≤ b := by omega
        go_wp2_with fail
        go_quiet (fail)
        go_wp2_with fail
        refine ⟨⟨b, a % b, _, rfl, by simp, hb, ?_, ?_, World.drewN_drewN _ _ _⟩, ?_⟩
        · exact Nat.le_trans (Nat.le_of_lt (Nat.mod_lt _ hb0)) hb
        · rw [← HC.out, Nat.gcd_comm a b, Nat.gcd_rec b a, Nat.gcd_comm]
        · have : a % b < b := Nat.mod_lt _ hb0
          simp [intOf]; omega
      · have hbz : b = 0 := by omega
        have HA : Hid (a = Nat.gcd n d) := by have := HC.out; rw [hbz, Nat.gcd_zero_right] at this; exact this
        have ha0 : (1 : Int) ≤ a := by have := HA.out; omega
        clear hbz
        go_wp2_with fail
        go_region
        go_wp2_with fail
        have q1 : 0 ≤ (n : Int) / (a : Int) := Int.ediv_nonneg (by omega) (by omega)
        have q2 : (n : Int) / (a : Int) ≤ n := Int.ediv_le_self _ (by omega)
        have q3 : 0 ≤ (d : Int) / (a : Int) := Int.ediv_nonneg (by omega) (by omega)
        have q4 : (d : Int) / (a : Int) ≤ d := Int.ediv_le_self _ (by omega)
        have w1 : wrap64 ((n : Int) / (a : Int)) = (n : Int) / (a : Int) := IntWalk.wrap64_in _ ⟨by omega, by omega⟩
        have w2 : wrap64 ((d : Int) / (a : Int)) = (d : Int) / (a : Int) := IntWalk.wrap64_in _ ⟨by omega, by omega⟩
        refine bodyPost_ret (v := .agg #[.int .i64 ((n : Int) / (a : Int)), .int .i64 ((d : Int) / (a : Int))]) (by simp [results, Try.results42, go_sem, w1, w2]) rfl ⟨?_, ?_⟩
        · rw [HF.out, ← HA.out]; simp [frV2]
        · exact gb_set (gb_set (gb_drewN (gb_alloc (gb_refl _ _) _) _) (.inr (Nat.le_refl _)) _) (.inr (Nat.le_refl _)) _
set_option maxRecDepth 100000 in
set_option maxHeartbeats 1000000 in
theorem part_any (n d : Nat) (w : World) (hn : n ≤ 1000000000000) (hd : d ≤ 1000000000000) :
    Calls Try.prog 44 #[.int .i64 n, .int .i64 d] w fun e w' => e = .returned (frV2 (frac n d)) ∧ w.grownBy w' none := by
  by_cases h0 : d = 0
  · have e0 : ((d : Int) == 0) = true := by simp [h0]
    have HF := Lib.hid (show frac n d = (1, 1) from by simp [frac, h0])
    clear h0
    go_enter Try.func44, Try.ntmps44
    go_wp2_with fail
    exact bodyPost_ret (v := .agg #[.int .i64 1, .int .i64 1]) (by simp [results, Try.results44, go_sem]) rfl ⟨by rw [HF.out]; rfl, gb_alloc (gb_refl _ _) _⟩
  · have e0 : ((d : Int) == 0) = false := beq_eq_false_iff_ne.2 (by omega)
    have HF := Lib.hid (show frac n d = (n / Nat.gcd n d, d / Nat.gcd n d) from by simp [frac, h0])
    have hg0 : 0 < Nat.gcd n d := Nat.gcd_pos_of_pos_right _ (by omega)
    clear h0
    go_enter Try.func44, Try.ntmps44
    go_wp2_with fail
    go_loopw [5, 6] (fun x y wr => ∃ (a b q : Nat), x = .int .i64 a ∧ y = .int .i64 b ∧ a ≤ 1000000000000 ∧ b ≤ 1000000000000 ∧ Nat.gcd a b = Nat.gcd n d ∧ wr = (w.alloc (.cells #[.int .i64 0, .int .i64 0] 35)).drewN q) (fun _ y _ => (intOf y).toNat)
    case atStart => exact ⟨n, d, 0, rfl, rfl, hn, hd, rfl, rfl⟩
    case round =>
      obtain ⟨a, b, q, rfl, rfl, ha, hb, hgc, rfl⟩ := hrel
      have HC := Lib.hid hgc
      clear hgc
      by_cases hb0 : 0 < b
      · have hb1 : (1 : Int) ≤ b := by omega
        go_wp2_with fail
        go_quiet (fail)
        go_wp2_with fail
        refine ⟨⟨b, a % b, _, rfl, by simp, hb, ?_, ?_, World.drewN_drewN _ _ _⟩, ?_⟩
        · exact Nat.le_trans (Nat.le_of_lt (Nat.mod_lt _ hb0)) hb
        · rw [← HC.out, Nat.gcd_comm a b, Nat.gcd_rec b a, Nat.gcd_comm]
        · have : a % b < b := Nat.mod_lt _ hb0
          simp [intOf]; omega
      · have hbz : b = 0 := by omega
        have HA : Hid (a = Nat.gcd n d) := by have := HC.out; rw [hbz, Nat.gcd_zero_right] at this; exact this
        have ha0 : (1 : Int) ≤ a := by have := HA.out; omega
        clear hbz
        go_wp2_with fail
        go_region
        go_wp2_with fail
        have q1 : 0 ≤ (n : Int) / (a : Int) := Int.ediv_nonneg (by omega) (by omega)
        have q2 : (n : Int) / (a : Int) ≤ n := Int.ediv_le_self _ (by omega)
        have q3 : 0 ≤ (d : Int) / (a : Int) := Int.ediv_nonneg (by omega) (by omega)
        have q4 : (d : Int) / (a : Int) ≤ d := Int.ediv_le_self _ (by omega)
        have w1 : wrap64 ((n : Int) / (a : Int)) = (n : Int) / (a : Int) := IntWalk.wrap64_in _ ⟨by omega, by omega⟩
        have w2 : wrap64 ((d : Int) / (a : Int)) = (d : Int) / (a : Int) := IntWalk.wrap64_in _ ⟨by omega, by omega⟩
        refine bodyPost_ret (v := .agg #[.int .i64 ((n : Int) / (a : Int)), .int .i64 ((d : Int) / (a : Int))]) (by simp [results, Try.results44, go_sem, w1, w2]) rfl ⟨?_, ?_⟩
        · rw [HF.out, ← HA.out]; simp [frV2]
        · exact gb_set (gb_set (gb_drewN (gb_alloc (gb_refl _ _) _) _) (.inr (Nat.le_refl _)) _) (.inr (Nat.le_refl _)) _
end Go.Proofs.Ytpddiepfolfnoaa
