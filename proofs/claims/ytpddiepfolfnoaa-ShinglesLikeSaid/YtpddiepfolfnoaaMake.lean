/- Contracts of the makers: what they hand back is within bounds; the stream moves on; nothing else turns. -/
import Derived.Test.YtpddiepfolfnoaaEnv
namespace Go.Proofs.Ytpddiepfolfnoaa
open Go.RowKit
set_option linter.unusedVariables false

def allStr (B : Nat) (l : List Value) : Bool := l.all fun v => match v with | .string s => decide (s.size ≤ B) | _ => false
def allInt (a b : Int) (l : List Value) : Bool := l.all fun v => match v with | .int .i64 x => decide (a ≤ x) && decide (x ≤ b) | _ => false
theorem allStr_spec {B : Nat} {l : List Value} (h : allStr B l = true) : ∃ L : List ByteArray, l = L.map .string ∧ ∀ s ∈ L, s.size ≤ B := by
  induction l with
  | nil => exact ⟨[], rfl, by simp⟩
  | cons v l ih =>
    simp only [allStr, List.all_cons, Bool.and_eq_true] at h
    obtain ⟨L, rfl, hL⟩ := ih h.2
    have h1 := h.1
    split at h1
    · rename_i s
      exact ⟨s :: L, rfl, by simp; exact ⟨by simpa using h1, hL⟩⟩
    · cases h1
theorem allInt_spec {a b : Int} {l : List Value} (h : allInt a b l = true) : ∃ L : List Int, l = L.map (.int .i64) ∧ ∀ s ∈ L, a ≤ s ∧ s ≤ b := by
  induction l with
  | nil => exact ⟨[], rfl, by simp⟩
  | cons v l ih =>
    simp only [allInt, List.all_cons, Bool.and_eq_true] at h
    obtain ⟨L, rfl, hL⟩ := ih h.2
    have h1 := h.1
    split at h1
    · rename_i s
      refine ⟨s :: L, rfl, ?_⟩
      simp only [Bool.and_eq_true, decide_eq_true_eq] at h1
      intro x hx
      simp only [List.mem_cons] at hx
      rcases hx with rfl | hx
      · exact h1
      · exact hL x hx
    · cases h1

theorem one_cells (B g k : Nat) (l : List Value) (n : Nat) (w : World) (hs : Strm w g k) (hk : k ≤ 1000000) (hB : allStr B l = true) (hn : l.length = n) (h0 : 0 < n) (h1 : n ≤ 1000000) :
    Calls Try.prog 29 #[.pointer (some ⟨g, 0, none⟩), .slice (some ⟨w.heap.size, 0, none⟩) n n] (w.alloc (.cells l.toArray 9)) fun e w' => ∃ s, e = .returned (.string s) ∧ s.size ≤ B ∧ w.grownBy w' (some g) ∧ Strm w' g (k + 1) := by
  obtain ⟨L, rfl, hL⟩ := allStr_spec hB
  refine (one_any g k _ L n n _ (hs.alloc _) hk (by simpa using hn) h0 h1 (Rd.new' w _ _ hs.lt)).mono ?_
  rintro e w' ⟨s, rfl, hm, hg, hs'⟩
  exact ⟨s, rfl, hL s hm, (World.grownBy_alloc w _ _).trans hg, hs'⟩
theorem pick_cells (a b : Int) (g k : Nat) (l : List Value) (n : Nat) (w : World) (hs : Strm w g k) (hk : k ≤ 1000000) (hB : allInt a b l = true) (hn : l.length = n) (h0 : 0 < n) (h1 : n ≤ 1000000) :
    Calls Try.prog 7 #[.pointer (some ⟨g, 0, none⟩), .slice (some ⟨w.heap.size, 0, none⟩) n n] (w.alloc (.cells l.toArray 3)) fun e w' => ∃ x, e = .returned (.int .i64 x) ∧ a ≤ x ∧ x ≤ b ∧ w.grownBy w' (some g) ∧ Strm w' g (k + 1) := by
  obtain ⟨L, rfl, hL⟩ := allInt_spec hB
  refine (pick_any g k _ L n n _ (hs.alloc _) hk (by simpa using hn) h0 h1 (Rd.new' w _ _ hs.lt)).mono ?_
  rintro e w' ⟨s, rfl, hm, hg, hs'⟩
  exact ⟨s, rfl, (hL s hm).1, (hL s hm).2, (World.grownBy_alloc w _ _).trans hg, hs'⟩

set_option maxRecDepth 100000 in
set_option maxHeartbeats 1000000 in
theorem prose_any (g k : Nat) (m : Nat) (w : World) (hs : Strm w g k) (hk : k ≤ 900000) (hm : m ≤ 1000) :
    Calls Try.prog 5 #[.pointer (some ⟨g, 0, none⟩), .int .i64 m] w fun e w' => ∃ s, e = .returned (.string s) ∧ s.size ≤ 6 * m ∧ w.grownBy w' (some g) ∧ ∃ k', k' ≤ k + 1 + 2 * m ∧ Strm w' g k' := by
  go_enter Try.func5, Try.ntmps5
  go_wp2_with fail
  refine (next_any g k _ _ hs (by omega) (by omega)).mono ?_
  rintro e w1 ⟨x, rfl, hg1, hs1⟩
  obtain ⟨n, hn, hx⟩ := below_idx x (m + 1) (by omega)
  rw [show ((m + 1 : Nat) : Int) = (m : Int) + 1 from by omega] at hx
  rw [hx]
  clear hx
  go_wp2_with fail
  go_loopw [5, 10] (fun t i wr => ∃ (j : Nat) (s : ByteArray), i = .int .i64 j ∧ t = .string s ∧ j ≤ n ∧ s.size ≤ 6 * j ∧ w.grownBy wr (some g) ∧ ∃ k', k' ≤ k + 1 + 2 * j ∧ Strm wr g k') (fun _ i _ => n - (intOf i).toNat)
  case atStart => exact ⟨0, ⟨#[]⟩, rfl, rfl, by omega, by decide, hg1, k + 1, by omega, hs1⟩
  case round =>
    obtain ⟨j, s, rfl, rfl, hj, hsz, hg, k', hk', hsr⟩ := hrel
    by_cases hlt : j < n
    · go_wp2_with fail
      refine (one_cells 4 g k' _ _ _ hsr (by omega) (by rfl) (by rfl) (by decide) (by decide)).mono ?_
      rintro e w2 ⟨s2, rfl, hs2, hg2, hsr2⟩
      go_wp2_with fail
      refine (one_cells 2 g (k' + 1) _ _ _ hsr2 (by omega) (by rfl) (by rfl) (by decide) (by decide)).mono ?_
      rintro e w3 ⟨s3, rfl, hs3, hg3, hsr3⟩
      go_wp2_with fail
      exact ⟨⟨j + 1, _, by go_num, rfl, by omega, by simp [ByteArray.size_append]; omega, (hg.trans hg2).trans hg3, k' + 1 + 1, by omega, hsr3⟩, by simp [intOf]; omega⟩
    · go_wp2_with fail
      go_ret
      exact ⟨s, rfl, by omega, hg, k', by omega, hsr⟩
end Go.Proofs.Ytpddiepfolfnoaa
