/- Contracts of the reference: sorted, ShinglesFault, ShinglesOf, hash64. -/
import Derived.Test.YtpddiepfolfnoaaNears
namespace Go.Proofs.Ytpddiepfolfnoaa
open Go.RowKit
set_option linter.unusedVariables false

theorem clone_any (A : Option Addr) (L : List (List UInt8)) (n c : Nat) (w : World) (hn : L.length = n) (hr : Rd w 0 A (L.map sv)) (hb1 : n ≤ 8000000000000) :
    Calls Try.prog 72 #[.slice A n c] w fun e w' => ∃ v, e = .returned v ∧ w'.ownsRow w.heap.size 9 1 v n (L.map sv) ∧ w.grownBy w' none := by
  by_cases hz : L = []
  · subst hz
    subst hn
    cases A with
    | none =>
      refine (Try.slices_Clone_string_nil 0 c w).mono ?_
      rintro e w' ⟨rfl, rfl⟩
      exact ⟨_, rfl, World.ownsRow_nil _ _ _ _, gb_refl _ _⟩
    | some a =>
      refine (Try.slices_Clone_string_zero a c w).mono ?_
      rintro e w' ⟨v, rfl, ho, _, hb⟩
      exact ⟨v, rfl, ho, gb_of_below hb _⟩
  · obtain ⟨b, off, rfl, hc⟩ := rd_get hr hz
    have hk := Try.slices_Clone_string b off n c (L.map fun l => ⟨l.toArray⟩) w (by simp; omega) (by omega) hc
    refine hk.mono ?_
    rintro e w' ⟨v, rfl, ho, _, hb⟩
    rw [List.take_of_length_le (by simp; omega), List.map_map] at ho
    exact ⟨v, rfl, ho, gb_of_below hb _⟩

set_option maxHeartbeats 400000 in
theorem sorted_any (A : Option Addr) (L : List (List UInt8)) (n c : Nat) (w : World) (hn : L.length = n) (hr : Rd w 0 A (L.map sv)) (hb1 : n ≤ 8000000000000) :
    Calls Try.prog 50 #[.slice A n c] w fun e w' => ∃ B d, e = .returned (.slice B (Lib.compact (srt L)).length d) ∧ (Lib.compact (srt L)).length ≤ d ∧ Rd w' w.heap.size B ((Lib.compact (srt L)).map sv) ∧ w.grownBy w' none := by
  have H := Lib.hid hn
  clear hn
  go_enter Try.func50, Try.ntmps50
  go_wp2_with fail
  refine (clone_any A L n c _ H.out hr hb1).mono ?_
  rintro e w1 ⟨v, rfl, hown, hg1⟩
  go_wp2_with fail
  refine (sort_own _ _ _ _ _ hown hb1).mono ?_
  rintro e w2 ⟨rfl, hown2, hg2⟩
  have hg3 : w.grownBy w2 none := gb_new hg1 hg2 (fun b hb => (hown.lt b hb).1)
  go_wp2_with fail
  refine (compact_own _ _ _ _ _ hown2 hb1).mono ?_
  rintro e w3 ⟨v3, rfl, hown3, hg4⟩
  have hg5 : w.grownBy w3 none := gb_new hg3 hg4 (fun b hb => (hown2.lt b hb).1)
  go_wp2_with fail
  go_ret
  obtain ⟨A3, c3, rfl, hc3, hr3⟩ := own_slice hown3
  exact ⟨A3, c3, rfl, hc3, hr3, hg5⟩

set_option maxHeartbeats 400000 in
theorem shFault_any (s : ByteArray) (k : Int) (w : World) : Calls Try.prog 19 #[.string s, .int .i64 k] w fun e w' => e = .returned (.int .i64 (shErr s k)) ∧ w = w' := by
  by_cases h1 : 20000 < s.size
  · have HE := Lib.hid (show shErr s k = 2 from by simp [shErr, firstE, whenE, h1])
    go_enter Try.func19, Try.ntmps19
    go_wp2_with fail
    go_ret
    exact ⟨ret_int HE.out.symm, rfl⟩
  · by_cases h2 : k < 1
    · have HE := Lib.hid (show shErr s k = 1 from by simp [shErr, firstE, whenE, h1, inE]; omega)
      have d2 : decide (k < 1) = true := by simpa using h2
      go_enter Try.func19, Try.ntmps19
      go_wp2_with fail
      go_ret
      exact ⟨ret_int HE.out.symm, rfl⟩
    · have d2 : decide (k < 1) = false := by simpa using h2
      by_cases h3 : 10 < k
      · have HE := Lib.hid (show shErr s k = 1 from by simp [shErr, firstE, whenE, h1, inE]; omega)
        go_enter Try.func19, Try.ntmps19
        go_wp2_with fail
        go_ret
        exact ⟨ret_int HE.out.symm, rfl⟩
      · have HE := Lib.hid (show shErr s k = 0 from by simp [shErr, firstE, whenE, h1, inE]; omega)
        go_enter Try.func19, Try.ntmps19
        go_wp2_with fail
        go_ret
        exact ⟨ret_int HE.out.symm, rfl⟩

set_option maxRecDepth 100000 in
set_option maxHeartbeats 2000000 in
theorem rshingles_any (s : ByteArray) (k : Nat) (w : World) (hs : s.size ≤ 1000000) (hk1 : 1 ≤ k) (hk2 : k ≤ 10) : Calls Try.prog 21 #[.string s, .int .i64 k] w fun e w' =>
    ∃ A c, e = .returned (.slice A (shg s.data.toList k).length c) ∧ (shg s.data.toList k).length ≤ c ∧ Rd w' w.heap.size A ((shg s.data.toList k).map sv) ∧ w.grownBy w' none := by
  go_enter Try.func21, Try.ntmps21
  go_wp2_with fail
  refine (rwords_any s _ (by omega)).mono ?_
  rintro e w1 ⟨A, c, rfl, hc, hr1, hg1⟩
  have hW := words_le s.data.toList
  have hWs := Lib.hid (words_sz s.data.toList)
  have hsz : s.data.toList.length = s.size := by simp
  rw [hsz] at hW hWs
  have HG := Lib.hid (show shg s.data.toList k = if (Sp.words s.data.toList).length = 0 then [] else Lib.compact (srt (wins (Sp.words s.data.toList) (min k (Sp.words s.data.toList).length))) from rfl)
  clear hsz
  generalize Sp.words s.data.toList = W at *
  by_cases h0 : W.length = 0
  · have e0 : ((W.length : Int) == 0) = true := by simp [h0]
    rw [if_pos h0] at HG
    clear h0
    go_wp2_with fail
    go_ret
    rw [HG.out]
    exact ⟨none, 0, rfl, Nat.le_refl _, Rd.nil, hg1⟩
  · have e0 : ((W.length : Int) == 0) = false := beq_eq_false_iff_ne.2 (by omega)
    have h1 : 1 ≤ W.length := by omega
    rw [if_neg h0] at HG
    clear h0
    obtain ⟨m, hm⟩ : ∃ m : Nat, min k W.length = m := ⟨_, rfl⟩
    rw [hm] at HG
    have hm1 : 1 ≤ m := by omega
    have hm2 : m ≤ W.length := by omega
    have hm3 : m ≤ 10 := by omega
    have hmin : min (k : Int) (W.length : Int) = (m : Int) := by omega
    clear hm
    obtain ⟨b, off, rfl, hlo, hb, hcell⟩ := hr1.open_ (by simp; omega)
    clear hcell
    go_wp2_with fail
    clear hmin
    go_loopw [6, 22] (fun l i wr => ∃ j : Nat, i = .int .i64 j ∧ j ≤ W.length - m + 1 ∧ wr.ownsRow w1.heap.size 9 1 l j (((wins W m).take j).map sv) ∧ w1.grownBy wr none) (fun _ i _ => W.length - m + 1 - (intOf i).toNat)
    case atStart => exact ⟨0, rfl, by omega, World.ownsRow_nil _ _ _ _, gb_refl _ _⟩
    case round =>
      obtain ⟨j, rfl, hj, hown, hg⟩ := hrel
      by_cases hlt : j < W.length - m + 1
      · have hci : ¬ c = j := by omega
        have hjm : j + m ≤ W.length := by omega
        have hwl : ((W.drop j).take m).length = m := by simp; omega
        have hjl : (Lib.join ((W.drop j).take m) [32]).length ≤ 1000000000 := by
          have h := join_len s.size [32] ((W.drop j).take m) (fun l hl => hWs.out l (List.mem_of_mem_drop (List.mem_of_mem_take hl)))
          rw [hwl] at h
          have h2 : m * (s.size + [(32 : UInt8)].length) ≤ 10 * 1000001 := Nat.mul_le_mul hm3 (by simp; omega)
          omega
        have HW := Lib.hid (show (wins W m).take (j + 1) = (wins W m).take j ++ [Lib.join ((W.drop j).take m) [32]] from by
          rw [List.take_succ_eq_append_getElem (by simp [wins]; omega)]; simp [wins])
        have hrd : Rd wr 0 (some ⟨b, off + j, none⟩) (((W.drop j).take m).map sv) := by
          have := ((hr1.pure hg).lower (Nat.zero_le _)).cut j m c (by simpa using hc) (by omega)
          rw [if_neg hci] at this
          simpa [List.map_drop, List.map_take, addr_add] using this
        have Hhw := Lib.hid hwl
        clear hwl
        go_wp2_with fail
        refine (sjoin_any _ ((W.drop j).take m) m (c - j) ⟨#[32]⟩ _ Hhw.out (by omega) hrd hjl (by omega)).mono ?_
        rintro e w2 ⟨rfl, hg2⟩
        have hown2 := hown.kept hg2 (by cases u6.ownBlock <;> simp)
        have hg3 : w1.grownBy w2 none := gb_new hg hg2 (by simp)
        go_wp2_with (at_builtin; refine app_str rfl _ _ rfl _ _ _ _ rfl hown2 rfl (by omega) hg3 ?_; intro v' w4 hown4 hg4)
        exact ⟨⟨j + 1, by go_num, by omega, by rw [HW.out, List.map_append]; exact hown4, hg4⟩, by simp [intOf]; omega⟩
      · have HK := Lib.hid (show (wins W m).take j = wins W m from List.take_of_length_le (by simp [wins]; omega))
        have HL := Lib.hid (show (wins W m).length = j from by simp [wins]; omega)
        rw [HK.out] at hown
        go_wp2_with fail
        obtain ⟨Ax, cx, rfl, hcx, hrx⟩ := own_slice hown
        refine (sorted_any Ax (wins W m) j cx _ HL.out (hrx.lower (Nat.zero_le _)) (by omega)).mono ?_
        rintro e w3 ⟨A3, c3, rfl, hc3, hr3, hg4⟩
        have hg5 : w1.grownBy w3 none := gb_new hg hg4 (by simp)
        go_wp2_with fail
        go_ret
        rw [HG.out]
        exact ⟨A3, c3, rfl, hc3, hr3.lower (Nat.le_trans hg1.size hg.size), hg1.trans hg5⟩

end Go.Proofs.Ytpddiepfolfnoaa
