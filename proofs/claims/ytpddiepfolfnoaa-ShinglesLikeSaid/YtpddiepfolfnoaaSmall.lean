/- Contracts of small functions: In, When, First, cmp.Or, large. -/
import Derived.Test.YtpddiepfolfnoaaRef
import Derived.Test.YtpddiepfolfnoaaBase
namespace Go.Proofs.Ytpddiepfolfnoaa
open Go.RowKit
set_option linter.unusedVariables false

def inE (n lo hi : Int) : Bool := decide (lo ≤ n) && decide (n ≤ hi)
def whenE (b : Bool) (e : Int) : Int := if b then e else 0
def firstE : List Int → Int
  | [] => 0
  | e :: r => if e = 0 then firstE r else e
theorem firstE_zero (L : List Int) (k : Nat) (hk : k < L.length) (h : L[k] = 0) : firstE (L.drop k) = firstE (L.drop (k + 1)) := by
  rw [List.drop_eq_getElem_cons hk]; simp [firstE, h]
theorem firstE_other (L : List Int) (k : Nat) (hk : k < L.length) (h : L[k] ≠ 0) : firstE (L.drop k) = L[k] := by
  rw [List.drop_eq_getElem_cons hk]; simp [firstE, h]

set_option maxHeartbeats 400000 in
theorem in_any (n lo hi : Int) (w : World) : Calls Try.prog 56 #[.int .i64 n, .int .i64 lo, .int .i64 hi] w fun e w' => e = .returned (.bool (inE n lo hi)) ∧ w = w' := by
  by_cases h1 : lo ≤ n
  · go_enter Try.func56, Try.ntmps56
    go_wp2_with fail
    go_ret
    exact ⟨ret_bool (by simp [inE, h1]), rfl⟩
  · have d1 : decide (lo ≤ n) = false := by simpa using h1
    go_enter Try.func56, Try.ntmps56
    go_wp2_with fail
    go_ret
    exact ⟨ret_bool (by simp [inE]; omega), rfl⟩

set_option maxHeartbeats 400000 in
theorem when_any (b : Bool) (x : Int) (w : World) : Calls Try.prog 39 #[.bool b, .int .i64 x] w fun e w' => e = .returned (.int .i64 (whenE b x)) ∧ w = w' := by
  cases b
  all_goals
    go_enter Try.func39, Try.ntmps39
    go_wp2_with fail
    go_ret
    exact ⟨rfl, rfl⟩

set_option maxHeartbeats 400000 in
theorem first_any (A : Option Addr) (L : List Int) (n c : Nat) (w : World) (hn : L.length = n) (hn1 : n ≤ 1000000) (hr : Rd w 0 A (L.map (.int .i64))) :
    Calls Try.prog 30 #[.slice A n c] w fun e w' => e = .returned (.int .i64 (firstE L)) ∧ w = w' := by
  have H := Lib.hid hn
  clear hn
  have HR := Lib.hid hr
  clear hr
  go_enter Try.func30, Try.ntmps30
  go_wp2_with fail
  go_loop [7] (fun i => ∃ k : Nat, i = .int .i64 k ∧ k ≤ n ∧ firstE L = firstE (L.drop k)) (fun i => n - (intOf i).toNat)
  case atStart => exact ⟨0, rfl, by omega, by simp⟩
  case round =>
    obtain ⟨k, rfl, hk, hf⟩ := hrel
    have HF := Lib.hid hf
    clear hf
    by_cases hlt : k < n
    · have hkl : k < L.length := by rw [H.out]; exact hlt
      obtain ⟨b, off, rfl, _, hb, hcell⟩ := HR.out.at_ (k := k) (by simpa using hkl)
      obtain ⟨x, hx⟩ : ∃ x, L[k] = x := ⟨_, rfl⟩
      rw [List.getElem_map, hx] at hcell
      have HX := Lib.hid hx
      clear hx
      by_cases h0 : x = 0
      · have HW := Lib.hid (firstE_zero L k hkl (by rw [HX.out]; exact h0))
        have e0 : (x != 0) = false := by simp [h0]
        clear h0
        go_wp2_with fail
        exact ⟨⟨k + 1, by go_num, by omega, HF.out.trans HW.out⟩, by simp [intOf]; omega⟩
      · have HW := Lib.hid (firstE_other L k hkl (by rw [HX.out]; exact h0))
        have e0 : (x != 0) = true := by simp [h0]
        clear h0
        go_wp2_with fail
        go_ret
        exact ⟨ret_int (by rw [HF.out, HW.out, HX.out]), rfl⟩
    · go_wp2_with fail
      go_ret
      exact ⟨ret_int (by rw [HF.out, List.drop_eq_nil_of_le (by rw [H.out]; omega)]; rfl), rfl⟩

end Go.Proofs.Ytpddiepfolfnoaa
