/- Contracts: slices.BinarySearch at strings, the reference's shared. -/
import Derived.Test.YtpddiepfolfnoaaCmpS
namespace Go.Proofs.Ytpddiepfolfnoaa
open Go.RowKit
set_option linter.unusedVariables false

theorem search_end (M : List (List UInt8)) (x : List UInt8) (lo : Nat) (hs : M.Pairwise (· < ·)) (h1 : ∀ t (h : t < M.length), t < lo → M[t] < x) (h2 : ∀ t (h : t < M.length), lo ≤ t → ¬ M[t] < x) :
    M.contains x = decide (∃ h : lo < M.length, M[lo] = x) := by
  by_cases hm : x ∈ M
  · obtain ⟨t, ht, rfl⟩ := List.getElem_of_mem hm
    have h3 : lo ≤ t := by
      rcases Nat.lt_or_ge t lo with h | h
      · exact absurd (h1 t ht h) (bs_lt_irrefl _)
      · exact h
    have h4 : t = lo := by
      rcases Nat.eq_or_lt_of_le h3 with h | h
      · exact h.symm
      · exact absurd ((List.pairwise_iff_getElem.1 hs) lo t (by omega) ht h) (h2 lo (by omega) (Nat.le_refl _))
    subst h4
    have : ∃ h : t < M.length, M[t] = M[t] := ⟨ht, rfl⟩
    rw [decide_eq_true this]
    simp
  · have : ¬ ∃ h : lo < M.length, M[lo] = x := by
      rintro ⟨h, e⟩
      exact hm (by rw [← e]; exact List.getElem_mem _)
    rw [decide_eq_false this]
    simpa using hm

theorem sv_eq (y x : ByteArray) (h : y.data.toList ≠ x.data.toList) : (y.toList == x.toList) = false := by rw [Lib.toList_data, Lib.toList_data]; exact beq_eq_false_iff_ne.2 h

set_option maxRecDepth 100000 in
set_option maxHeartbeats 2000000 in
theorem searchS_any (B : Option Addr) (M : List (List UInt8)) (m d : Nat) (x : ByteArray) (w : World) (hM : M.length = m) (hrM : Rd w 0 B (M.map sv)) (hs : M.Pairwise (· < ·)) (hm : m ≤ 4000000000) :
    Calls Try.prog 73 #[.slice B m d, .string x] w fun e w' => ∃ k : Int, e = .returned (.tuple #[.int .i64 k, .bool (M.contains x.data.toList)]) ∧ w.grownBy w' none := by
  have HM := Lib.hid hM
  have HS := Lib.hid hs
  clear hM hs
  go_enter Try.func73, Try.ntmps73
  go_wp2_with fail
  go_loopw [7, 8] (fun i j wr => ∃ (lo hi : Nat), i = .int .i64 lo ∧ j = .int .i64 hi ∧ lo ≤ hi ∧ hi ≤ m ∧ (∀ t (h : t < M.length), t < lo → M[t] < x.data.toList) ∧ (∀ t (h : t < M.length), hi ≤ t → ¬ M[t] < x.data.toList) ∧ w.grownBy wr none) (fun i j _ => (intOf j).toNat - (intOf i).toNat)
  case atStart => exact ⟨0, m, rfl, rfl, by omega, by omega, by omega, fun t h1 h2 => by rw [HM.out] at h1; omega, gb_refl _ _⟩
  case round =>
    obtain ⟨lo, hi, rfl, rfl, hlh, hhm, hlo, hhi, hg⟩ := hrel
    have HA := Lib.hid (And.intro hlo hhi)
    clear hlo hhi
    have hrM2 := hrM.pure hg
    by_cases hlt : lo < hi
    · obtain ⟨q, hq⟩ : ∃ q, q = (lo + hi) / 2 := ⟨_, rfl⟩
      have hq1 : lo ≤ q := by omega
      have hq2 : q < hi := by omega
      have hqi : ((lo : Int) + (hi : Int)) / 2 = (q : Int) := by omega
      have hqM : q < M.length := by rw [HM.out]; omega
      obtain ⟨b, off, rfl, _, _, hc⟩ := hrM2.at_ (k := q) (by simpa using hqM)
      rw [List.getElem_map] at hc
      obtain ⟨y, hy1, hy2⟩ := sv_ex M[q]
      rw [hy2] at hc
      have HY := Lib.hid hy1
      clear hy1 hy2 hq
      have hmon : ∀ t (h : t < M.length), t < q → M[t] < M[q] := fun t h h' => (List.pairwise_iff_getElem.1 HS.out) t q h hqM h'
      have hmon2 : ∀ t (h : t < M.length), q < t → M[q] < M[t] := fun t h h' => (List.pairwise_iff_getElem.1 HS.out) q t hqM h h'
      have HN := Lib.hid (And.intro hmon hmon2)
      clear hmon hmon2
      go_wp2_with fail
      refine (lessS_any _ _ _).mono ?_
      rintro e w' ⟨rfl, rfl⟩
      by_cases p : y.data.toList < x.data.toList
      · rw [decide_eq_true p]
        have HP := Lib.hid p
        clear p
        go_wp2_with fail
        refine ⟨⟨q + 1, hi, by go_num, rfl, by omega, hhm, fun t h1 h2 => ?_, HA.out.2, hg⟩, by simp [intOf]; omega⟩
        by_cases e : t = q
        · subst e; rw [HY.out]; exact HP.out
        · exact bs_lt_trans (HN.out.1 t h1 (by omega)) (by rw [HY.out]; exact HP.out)
      · rw [decide_eq_false p]
        have HP := Lib.hid p
        clear p
        go_wp2_with fail
        refine ⟨⟨lo, q, rfl, by go_num, by omega, by omega, HA.out.1, fun t h1 h2 h3 => ?_, hg⟩, by simp [intOf]; omega⟩
        by_cases e : t = q
        · subst e; rw [HY.out] at h3; exact HP.out h3
        · refine HP.out ?_
          rw [← HY.out]
          exact bs_lt_trans (HN.out.2 t h1 (by omega)) h3
    · have hee : hi = lo := by omega
      have HE := Lib.hid (search_end M x.data.toList lo HS.out HA.out.1 (by rw [← hee]; exact HA.out.2))
      by_cases hl : lo < m
      · have hlM : lo < M.length := by rw [HM.out]; exact hl
        obtain ⟨b, off, rfl, _, _, hc⟩ := hrM2.at_ (k := lo) (by simpa using hlM)
        rw [List.getElem_map] at hc
        obtain ⟨y, hy1, hy2⟩ := sv_ex M[lo]
        rw [hy2] at hc
        by_cases hyx : y.data.toList = x.data.toList
        · have HR := Lib.hid (show M.contains x.data.toList = true from by rw [HE.out]; exact decide_eq_true ⟨hlM, by rw [hy1, hyx]⟩)
          have hb : (y.toList == x.toList) = true := by rw [Lib.toList_data, Lib.toList_data]; exact beq_iff_eq.2 hyx
          clear hyx hy1 hy2
          go_wp2_with fail
          go_ret2
          rw [HR.out]
          exact ⟨_, rfl, hg⟩
        · have HR := Lib.hid (show M.contains x.data.toList = false from by rw [HE.out]; exact decide_eq_false (by rintro ⟨_, e⟩; exact hyx (hy1.symm.trans e)))
          have hb := sv_eq y x hyx
          clear hyx hy1 hy2
          go_wp2_with (refine (nanS_any _ _).mono ?_; rintro e w' ⟨rfl, rfl⟩)
          go_ret2
          rw [HR.out]
          exact ⟨_, rfl, hg⟩
      · have HR := Lib.hid (show M.contains x.data.toList = false from by rw [HE.out]; exact decide_eq_false (by rintro ⟨h, _⟩; rw [HM.out] at h; omega))
        go_wp2_with fail
        go_ret2
        rw [HR.out]
        exact ⟨_, rfl, hg⟩

set_option maxRecDepth 100000 in
set_option maxHeartbeats 2000000 in
theorem rshared_any (A B : Option Addr) (L M : List (List UInt8)) (n m c d : Nat) (w : World) (hL : L.length = n) (hM : M.length = m) (hrL : Rd w 0 A (L.map sv)) (hrM : Rd w 0 B (M.map sv)) (hn : n ≤ 4000000000) (hm : m ≤ 4000000000)
    (hsM : M.Pairwise (· < ·)) :
    Calls Try.prog 51 #[.slice A n c, .slice B m d] w fun e w' => e = .returned (.int .i64 (com L M : Nat)) ∧ w.grownBy w' none := by
  have HL := Lib.hid hL
  have HM := Lib.hid hM
  have HS := Lib.hid hsM
  clear hL hM hsM
  go_enter Try.func51, Try.ntmps51
  go_wp2_with fail
  go_loopw [5, 12] (fun cn i wr => ∃ (k : Nat), i = .int .i64 k ∧ k ≤ n ∧ cn = .int .i64 (com (L.take k) M : Nat) ∧ w.grownBy wr none) (fun _ i _ => n - (intOf i).toNat)
  case atStart => exact ⟨0, rfl, by omega, by simp [com_nil_left], gb_refl _ _⟩
  case round =>
    obtain ⟨k, rfl, hk, rfl, hg⟩ := hrel
    have hck : com (L.take k) M ≤ n := Nat.le_trans List.countP_le_length (by rw [List.length_take]; omega)
    by_cases hlt : k < n
    · have hkL : k < L.length := by rw [HL.out]; exact hlt
      obtain ⟨b, off, rfl, _, _, hc⟩ := (hrL.pure hg).at_ (k := k) (by simpa using hkL)
      rw [List.getElem_map] at hc
      have HT := Lib.hid (com_take L M k hkL)
      obtain ⟨y, hy1, hy2⟩ := sv_ex L[k]
      rw [hy2] at hc
      rw [hy1] at HT
      clear hy1 hy2 hkL
      generalize com (L.take k) M = cnt at *
      go_wp2_with fail
      refine (searchS_any B M m d y _ HM.out (hrM.pure hg) HS.out hm).mono ?_
      rintro e w2 ⟨i1, rfl, hg2⟩
      generalize M.contains y.data.toList = p at *
      cases p
      · go_wp2_with fail
        exact ⟨⟨k + 1, by go_num, by omega, by rw [HT.out]; rfl, hg.trans hg2⟩, by simp [intOf]; omega⟩
      · go_wp2_with fail
        exact ⟨⟨k + 1, by go_num, by omega, by rw [HT.out]; simp, hg.trans hg2⟩, by simp [intOf]; omega⟩
    · have HK := Lib.hid (show L.take k = L from List.take_of_length_le (by rw [HL.out]; omega))
      rw [HK.out]
      go_wp2_with fail
      go_ret
      exact ⟨rfl, hg⟩
end Go.Proofs.Ytpddiepfolfnoaa
