/- Contracts: cmp.Less, cmp.Compare and slices.BinarySearch at strings; near.shared and the reference's shared. -/
import Derived.Test.YtpddiepfolfnoaaLikeLaw
import Derived.Sort.Walk0
import Derived.BigQuiet
namespace Go.Proofs.Ytpddiepfolfnoaa
open Go.RowKit
set_option linter.unusedVariables false

def cmpS (x y : List UInt8) : Int := if x < y then -1 else if y < x then 1 else 0
theorem ltS (x y : ByteArray) : Op.bytesLess x.toList y.toList = decide (x.data.toList < y.data.toList) := by rw [bytesLess_eq, Lib.toList_data, Lib.toList_data]

set_option maxHeartbeats 400000 in
theorem nanC_any (x : ByteArray) (w : World) : Calls Try.prog 89 #[.string x] w fun e w' => e = .returned (.bool false) ∧ w = w' := by
  go_enter Try.func89, Try.ntmps89
  go_wp2_with fail
  go_ret
  exact ⟨by simp, rfl⟩
set_option maxHeartbeats 400000 in
theorem nanS_any (x : ByteArray) (w : World) : Calls Try.prog 95 #[.string x] w fun e w' => e = .returned (.bool false) ∧ w = w' := by
  go_enter Try.func95, Try.ntmps95
  go_wp2_with fail
  go_ret
  exact ⟨by simp, rfl⟩
set_option maxHeartbeats 400000 in
theorem lessS_any (x y : ByteArray) (w : World) : Calls Try.prog 94 #[.string x, .string y] w fun e w' => e = .returned (.bool (decide (x.data.toList < y.data.toList))) ∧ w = w' := by
  go_enter Try.func94, Try.ntmps94
  go_wp2_with (refine (nanC_any _ _).mono ?_; rintro e w' ⟨rfl, rfl⟩)
  go_ret
  exact ⟨ret_bool (by first | rfl | (simp [ltS])), rfl⟩
set_option maxHeartbeats 400000 in
theorem compareS_any (x y : ByteArray) (w : World) : Calls Try.prog 66 #[.string x, .string y] w fun e w' => e = .returned (.int .i64 (cmpS x.data.toList y.data.toList)) ∧ w = w' := by
  by_cases p : x.data.toList < y.data.toList
  · have h1 : Op.bytesLess x.toList y.toList = true := by rw [ltS]; simp [p]
    have HD := Lib.hid (show cmpS x.data.toList y.data.toList = -1 from by simp [cmpS, p])
    clear p
    go_enter Try.func66, Try.ntmps66
    go_wp2_with fail
    refine (nanC_any _ _).mono ?_
    rintro e w' ⟨rfl, rfl⟩
    go_wp2_with fail
    refine (nanC_any _ _).mono ?_
    rintro e w' ⟨rfl, rfl⟩
    go_wp2_with fail
    go_ret
    rw [HD.out]
    exact ⟨rfl, rfl⟩
  by_cases q : y.data.toList < x.data.toList
  · have h1 : Op.bytesLess x.toList y.toList = false := by rw [ltS]; simp [p]
    have h2 : (x.toList == y.toList) = false := by rw [Lib.toList_data, Lib.toList_data]; exact beq_eq_false_iff_ne.2 (Ne.symm (bs_ne q))
    have HD := Lib.hid (show cmpS x.data.toList y.data.toList = 1 from by simp [cmpS, p, q])
    clear p q
    go_enter Try.func66, Try.ntmps66
    go_wp2_with fail
    refine (nanC_any _ _).mono ?_
    rintro e w' ⟨rfl, rfl⟩
    go_wp2_with fail
    refine (nanC_any _ _).mono ?_
    rintro e w' ⟨rfl, rfl⟩
    go_wp2_with fail
    go_ret
    rw [HD.out]
    exact ⟨rfl, rfl⟩
  · have h1 : Op.bytesLess x.toList y.toList = false := by rw [ltS]; simp [p]
    have h2 : (x.toList == y.toList) = true := by rw [Lib.toList_data, Lib.toList_data]; exact beq_iff_eq.2 (bs_antisymm q p)
    have HD := Lib.hid (show cmpS x.data.toList y.data.toList = 0 from by simp [cmpS, p, q])
    clear p q
    go_enter Try.func66, Try.ntmps66
    go_wp2_with fail
    refine (nanC_any _ _).mono ?_
    rintro e w' ⟨rfl, rfl⟩
    go_wp2_with fail
    refine (nanC_any _ _).mono ?_
    rintro e w' ⟨rfl, rfl⟩
    go_wp2_with fail
    go_ret
    rw [HD.out]
    exact ⟨rfl, rfl⟩

theorem compareS_same (x y : ByteArray) (w : World) : Calls Try.prog 66 #[.string x, .string y] w fun e w' => e = .returned (.int .i64 (cmpS x.data.toList y.data.toList)) ∧ w' = w :=
  (compareS_any x y w).mono fun _ _ h => ⟨h.1, h.2.symm⟩
theorem sv_ex (l : List UInt8) : ∃ t : ByteArray, l = t.data.toList ∧ sv l = .string t := ⟨⟨l.toArray⟩, by simp, rfl⟩

set_option maxRecDepth 100000 in
set_option maxHeartbeats 2000000 in
theorem shared_any (A B : Option Addr) (L M : List (List UInt8)) (n m c d : Nat) (w : World) (hL : L.length = n) (hM : M.length = m) (hrL : Rd w 0 A (L.map sv)) (hrM : Rd w 0 B (M.map sv)) (hn : n ≤ 4000000000) (hm : m ≤ 4000000000)
    (hsL : L.Pairwise (· < ·)) (hsM : M.Pairwise (· < ·)) :
    Calls Try.prog 47 #[.slice A n c, .slice B m d] w fun e w' => e = .returned (.int .i64 (com L M : Nat)) ∧ w.grownBy w' none := by
  have HL := Lib.hid hL
  have HM := Lib.hid hM
  have HS := Lib.hid (And.intro hsL hsM)
  clear hL hM hsL hsM
  go_enter Try.func47, Try.ntmps47
  go_wp2_with fail
  go_loopw [5, 6, 7] (fun cn i j wr => ∃ (q k l r : Nat), cn = .int .i64 q ∧ i = .int .i64 k ∧ j = .int .i64 l ∧ k ≤ n ∧ l ≤ m ∧ q ≤ k ∧ q + com (L.drop k) (M.drop l) = com L M ∧ wr = w.drewN r) (fun _ i j _ => n + m - (intOf i).toNat - (intOf j).toNat)
  case atStart => exact ⟨0, 0, 0, 0, rfl, rfl, rfl, by omega, by omega, by omega, by simp, rfl⟩
  case round =>
    obtain ⟨q, k, l, r, rfl, rfl, rfl, hk, hl, hq, hcom, rfl⟩ := hrel
    have HC := Lib.hid hcom
    clear hcom
    by_cases h1 : k < n
    · by_cases h2 : l < m
      · obtain ⟨b1, o1, rfl, _, _, hc1⟩ := hrL.at_ (k := k) (by simpa [HL.out] using h1)
        obtain ⟨b2, o2, rfl, _, _, hc2⟩ := hrM.at_ (k := l) (by simpa [HM.out] using h2)
        rw [List.getElem_map] at hc1 hc2
        have hkL : k < L.length := by rw [HL.out]; exact h1
        have hlM : l < M.length := by rw [HM.out]; exact h2
        have HP1 := Lib.hid (show (L[k] :: L.drop (k + 1)).Pairwise (· < ·) from by rw [← List.drop_eq_getElem_cons hkL]; exact HS.out.1.drop)
        have HP2 := Lib.hid (show (M[l] :: M.drop (l + 1)).Pairwise (· < ·) from by rw [← List.drop_eq_getElem_cons hlM]; exact HS.out.2.drop)
        have HD1 := Lib.hid (List.drop_eq_getElem_cons hkL)
        have HD2 := Lib.hid (List.drop_eq_getElem_cons hlM)
        obtain ⟨x, hx1, hx2⟩ := sv_ex L[k]
        obtain ⟨y, hy1, hy2⟩ := sv_ex M[l]
        rw [hx2] at hc1
        rw [hy2] at hc2
        rw [hx1] at HP1 HD1
        rw [hy1] at HP2 HD2
        clear hx1 hx2 hy1 hy2
        rw [HD1.out, HD2.out] at HC
        have hv : cmpS x.data.toList y.data.toList = if x.data.toList < y.data.toList then -1 else if y.data.toList < x.data.toList then 1 else 0 := rfl
        by_cases p : x.data.toList < y.data.toList
        · rw [if_pos p] at hv
          rw [com_lt _ _ _ _ HP2.out p, ← HD2.out] at HC
          clear p
          go_wp2_with fail
          go_quiet (exact (compareS_same _ _ _).mono fun _ _ h => ⟨h.1, _, h.2⟩)
          rw [hv]
          go_wp2_with fail
          exact ⟨⟨q, k + 1, l, _, rfl, by go_num, rfl, by omega, by omega, by omega, HC.out, rfl⟩, by simp [intOf]; omega⟩
        · rw [if_neg p] at hv
          by_cases p2 : y.data.toList < x.data.toList
          · rw [if_pos p2] at hv
            rw [com_gt _ _ _ _ HP1.out p2, ← HD1.out] at HC
            clear p p2
            go_wp2_with fail
            go_quiet (exact (compareS_same _ _ _).mono fun _ _ h => ⟨h.1, _, h.2⟩)
            rw [hv]
            go_wp2_with fail
            exact ⟨⟨q, k, l + 1, _, rfl, rfl, by go_num, by omega, by omega, by omega, HC.out, rfl⟩, by simp [intOf]; omega⟩
          · rw [if_neg p2] at hv
            rw [← bs_antisymm p2 p, com_eq _ _ _ HP1.out] at HC
            clear p p2
            go_wp2_with fail
            go_quiet (exact (compareS_same _ _ _).mono fun _ _ h => ⟨h.1, _, h.2⟩)
            rw [hv]
            go_wp2_with fail
            exact ⟨⟨q + 1, k + 1, l + 1, _, by go_num, by go_num, by go_num, by omega, by omega, by omega, by have := HC.out; omega, rfl⟩, by simp [intOf]; omega⟩
      · have HZ := Lib.hid (show q = com L M from by have := HC.out; rw [show M.drop l = [] from List.drop_eq_nil_of_le (by rw [HM.out]; omega), com_nil_right] at this; exact this)
        go_wp2_with fail
        go_ret
        rw [← HZ.out]
        exact ⟨rfl, gb_drewN (gb_refl _ _) _⟩
    · have HZ := Lib.hid (show q = com L M from by have := HC.out; rw [show L.drop k = [] from List.drop_eq_nil_of_le (by rw [HL.out]; omega), com_nil_left] at this; exact this)
      go_wp2_with fail
      go_ret
      rw [← HZ.out]
      exact ⟨rfl, gb_drewN (gb_refl _ _) _⟩
end Go.Proofs.Ytpddiepfolfnoaa
