/- Contracts: the maker Numbers, Size. -/
import Derived.Test.YtpddiepfolfnoaaFrac
import Derived.Test.YtpddiepfolfnoaaMake
namespace Go.Proofs.Ytpddiepfolfnoaa
open Go.RowKit
set_option linter.unusedVariables false

theorem own_far {w w' : World} {base : Nat} {e : TypeId} {size n : Nat} {v : Value} {xs : List Value} {g : Nat} (h : w.ownsRow base e size v n xs) (hg : w.grownBy w' (some g)) (hb : g < base) : w'.ownsRow base e size v n xs :=
  h.kept hg (by
    cases hv : v.ownBlock with
    | none => exact .inl rfl
    | some b => right; intro e; injection e with e; have := (h.lt b hv).1; omega)

theorem app_int2 {ops : Array Oper} {rest : List Oper} {o : Oper} {a : Act} {Q : Exit → Act → World → Prop} {w : World} {base : Nat} (hgd : o.guard = none) (s x : Operand)
    (ho : o.op = .call { callee := .builtin .append, args := #[s, x], argTypes := #[22, 22] }) (v : Value) (n : Nat) (xs : List Value) (p : Int)
    (hs : a.eval s = v) (hown : w.ownsRow base 3 1 v n xs) (hx : a.eval x = .slice (some ⟨w.heap.size, 0, none⟩) 1 1) (hn : n ≤ 8000000000000) (hb : base ≤ w.heap.size)
    (h : ∀ v' w', w'.ownsRow base 3 1 v' (n + 1) (xs ++ [.int .i64 p]) → w.grownBy w' v.ownBlock → wpList Try.prog ops Q rest (a.put o.dst v') w') :
    wpList Try.prog ops Q (o :: rest) a (w.alloc (.cells #[.int .i64 p] 3)) := by
  obtain ⟨i0, hi, hz0, hz1, hz2⟩ := info_parts info_int
  refine wpList_append_own _ hgd s x 22 ho base 3 i0 _ 1 8 Try.underlying22 hi hz0 hz1 hz2 rfl (by decide) v n xs hs (hown.alloc _) ⟨w.heap.size, 0, none⟩ 1 1 [.int .i64 p] hx rfl
    (cell_one_new _ _ _) (by intro u hu; simp at hu; subst hu; rfl) (by unfold maxLen; omega) (by omega) (by simp; omega) ?_
  intro v' w' h1 h2 _
  exact h v' w' h1 ((World.grownBy_alloc w _ _).trans h2)

set_option maxRecDepth 100000 in
set_option maxHeartbeats 400000 in
theorem size_any (g k : Nat) (w : World) (hs : Strm w g k) (hk : k ≤ 900000) :
    Calls Try.prog 6 #[.pointer (some ⟨g, 0, none⟩)] w fun e w' => ∃ x, e = .returned (.int .i64 x) ∧ 0 ≤ x ∧ x ≤ 11 ∧ w.grownBy w' (some g) ∧ Strm w' g (k + 2) := by
  go_enter Try.func6, Try.ntmps6
  go_wp2_with fail
  refine (pick_cells 0 11 g k _ _ _ hs (by omega) (by rfl) (by rfl) (by decide) (by decide)).mono ?_
  rintro e w1 ⟨x, rfl, h1, h2, hg1, hs1⟩
  go_wp2_with fail
  refine (pick_cells 0 11 g (k + 1) _ _ _ hs1 (by omega) (by simp [allInt]; omega) (by rfl) (by decide) (by decide)).mono ?_
  rintro e w2 ⟨y, rfl, h3, h4, hg2, hs2⟩
  go_wp2_with fail
  go_ret
  exact ⟨y, rfl, h3, h4, hg1.trans hg2, hs2⟩

set_option maxRecDepth 100000 in
set_option maxHeartbeats 1000000 in
theorem numbers_any (g k : Nat) (size : Int) (w : World) (hs : Strm w g k) (hk : k ≤ 900000) (hz1 : -1000000 ≤ size) (hz2 : size ≤ 1000000) :
    Calls Try.prog 11 #[.pointer (some ⟨g, 0, none⟩), .int .i64 size] w fun e w' => ∃ (A : Option Addr) (c : Nat) (L : List Int), e = .returned (.slice A L.length c) ∧ L.length ≤ c ∧ L.length ≤ 9 ∧ Rd w' (g + 1) A (L.map iv) ∧ w.grownBy w' (some g) ∧ ∃ k', k' ≤ k + 12 ∧ Strm w' g k' := by
  have hgl := hs.lt
  go_enter Try.func11, Try.ntmps11
  go_wp2_with fail
  refine (next_any g k _ _ hs (by omega) (by omega)).mono ?_
  rintro e w1 ⟨x, rfl, hg1, hs1⟩
  obtain ⟨n, hn, hx⟩ : ∃ n : Nat, n ≤ 8 ∧ below x (min (max size 1) 8 + 1) = n := by
    have h1 := below_lo x (min (max size 1) 8 + 1)
    have h2 := below_hi x (min (max size 1) 8 + 1) (by omega)
    exact ⟨(below x (min (max size 1) 8 + 1)).toNat, by omega, by omega⟩
  rw [hx]
  clear hx
  go_wp2_with fail
  go_loopw [5, 12] (fun l i wr => ∃ (j : Nat) (L : List Int), i = .int .i64 j ∧ j ≤ n ∧ L.length = j ∧ wr.ownsRow w.heap.size 3 1 l j (L.map iv) ∧ w.grownBy wr (some g) ∧ Strm wr g (k + 1 + j)) (fun _ i _ => n - (intOf i).toNat)
  case atStart => exact ⟨0, [], rfl, by omega, rfl, World.ownsRow_nil _ _ _ _, hg1, hs1⟩
  case round =>
    obtain ⟨j, L, rfl, hj, hLj, hown, hg, hst⟩ := hrel
    have HL := Lib.hid hLj
    clear hLj
    by_cases hlt : j < n
    · go_wp2_with fail
      refine (next_any g _ _ _ hst (by omega) (by omega)).mono ?_
      rintro e w2 ⟨y, rfl, hg2, hst2⟩
      have hown2 := own_far hown hg2 hgl
      have hg3 : w.grownBy w2 (some g) := hg.trans hg2
      go_wp2_with (at_builtin; refine app_int2 rfl _ _ rfl _ _ _ _ rfl hown2 rfl (by omega) hg3.size ?_; intro v' w4 hown4 hg4)
      exact ⟨⟨j + 1, L ++ [below y 20], by go_num, by omega, by simp [HL.out], by rw [List.map_append]; exact hown4, gb_new hg3 hg4 (fun b hb => (hown2.lt b hb).1), hst2.grow hg4 (fun b hb => by have := (hown2.lt b hb).1; omega)⟩, by simp [intOf]; omega⟩
    · go_wp2_with fail
      refine (sortI_own _ _ _ _ _ hown (by omega)).mono ?_
      rintro e w3 ⟨rfl, hown3, hg3⟩
      have hg4 : w.grownBy w3 (some g) := gb_new hg hg3 (fun b hb => (hown.lt b hb).1)
      have hst3 := hst.grow hg3 (fun b hb => by have := (hown.lt b hb).1; omega)
      go_wp2_with fail
      refine (compactI_own _ _ _ _ _ hown3 (by omega)).mono ?_
      rintro e w5 ⟨v5, rfl, hown5, hg5⟩
      have hg6 : w.grownBy w5 (some g) := gb_new hg4 hg5 (fun b hb => (hown3.lt b hb).1)
      have hst5 := hst3.grow hg5 (fun b hb => by have := (hown3.lt b hb).1; omega)
      have hKl : (Lib.compact (srtI L)).length ≤ 8 := by
        have h1 := Lib.compact_length_le (srtI L)
        rw [srtI_len, HL.out] at h1
        omega
      generalize Lib.compact (srtI L) = K at *
      go_wp2_with fail
      refine (flip_any g _ _ _ hst5 (by omega) (by omega)).mono ?_
      rintro e w6 ⟨bl, rfl, hg7, hst6⟩
      have hown6 := own_far hown5 hg7 hgl
      have hg8 : w.grownBy w6 (some g) := hg6.trans hg7
      cases bl with
      | false =>
        go_wp2_with fail
        go_ret
        obtain ⟨A5, c5, rfl, hc5, hr5⟩ := own_slice hown6
        exact ⟨A5, c5, K, rfl, hc5, by omega, hr5.lower hgl, hg8, _, by omega, hst6⟩
      | true =>
        go_wp2_with fail
        refine (pick_cells (-1) 99 g _ _ _ _ hst6 (by omega) (by rfl) (by rfl) (by decide) (by decide)).mono ?_
        rintro e w7 ⟨y, rfl, _, _, hg9, hst7⟩
        have hown7 := own_far hown6 hg9 hgl
        have hg10 : w.grownBy w7 (some g) := hg8.trans hg9
        go_wp2_with (at_builtin; refine app_int2 rfl _ _ rfl _ _ _ _ rfl hown7 rfl (by omega) hg10.size ?_; intro v' w8 hown8 hg11)
        go_ret
        obtain ⟨A5, c5, rfl, hc5, hr5⟩ := own_slice hown8
        refine ⟨A5, c5, K ++ [y], by simp, by simpa using hc5, by simp; omega, ?_, gb_new hg10 hg11 (fun b hb => (hown7.lt b hb).1), _, ?_, hst7.grow hg11 (fun b hb => by have := (hown7.lt b hb).1; omega)⟩
        · rw [List.map_append]; exact hr5.lower hgl
        · omega
end Go.Proofs.Ytpddiepfolfnoaa
