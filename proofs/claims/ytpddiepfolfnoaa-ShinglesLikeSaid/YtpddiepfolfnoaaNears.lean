/- Contracts: near.shingles, near.Shingles, the law's own nears. -/
import Derived.Test.YtpddiepfolfnoaaShing
namespace Go.Proofs.Ytpddiepfolfnoaa
open Go.RowKit
set_option linter.unusedVariables false

theorem addr_add (b off j : Nat) : (⟨b, off, none⟩ : Addr).add j = ⟨b, off + j, none⟩ := by unfold Addr.add; split <;> simp_all
def wins (W : List (List UInt8)) (k : Nat) : List (List UInt8) := (List.range (W.length - k + 1)).map fun i => Lib.join ((W.drop i).take k) [32]
def shg (t : List UInt8) (k : Nat) : List (List UInt8) := if (Sp.words t).length = 0 then [] else Lib.compact (srt (wins (Sp.words t) (min k (Sp.words t).length)))
theorem join_len (N : Nat) (sep : List UInt8) (L : List (List UInt8)) (h : ∀ l ∈ L, l.length ≤ N) : (Lib.join L sep).length ≤ L.length * (N + sep.length) := by
  cases L with
  | nil => simp [Lib.join_nil]
  | cons x r =>
    rw [Lib.join_cons, List.length_append, Lib.joinTail]
    have hx := h x (by simp)
    have hr : ((r.map (sep ++ ·)).flatten).length ≤ r.length * (N + sep.length) := by
      have hr' : ∀ l ∈ r, l.length ≤ N := fun l hl => h l (by simp [hl])
      clear h hx
      induction r with
      | nil => simp
      | cons y r ih =>
        have h1 := hr' y (by simp)
        have h2 := ih (fun l hl => hr' l (by simp [hl]))
        simp only [List.map_cons, List.flatten_cons, List.length_append, List.length_cons, Nat.add_mul, Nat.one_mul]
        omega
    simp only [List.length_cons, Nat.add_mul, Nat.one_mul]
    omega
theorem words_sz (t : List UInt8) : ∀ l ∈ Sp.words t, l.length ≤ t.length := by
  intro l hl
  simp only [Sp.words, List.mem_map] at hl
  obtain ⟨p, _, rfl⟩ := hl
  simpa [Sp.lowS] using Sp.part_len t p.1 p.2
theorem words_le (t : List UInt8) : (Sp.words t).length ≤ t.length + 1 := by
  simpa [Sp.words] using Sp.spans_len t

set_option maxRecDepth 100000 in
set_option maxHeartbeats 2000000 in
theorem shingles_any (s : ByteArray) (k : Nat) (w : World) (hs : s.size ≤ 1000000) (hk1 : 1 ≤ k) (hk2 : k ≤ 10) : Calls Try.prog 34 #[.string s, .int .i64 k] w fun e w' =>
    ∃ A c, e = .returned (.slice A (shg s.data.toList k).length c) ∧ (shg s.data.toList k).length ≤ c ∧ Rd w' w.heap.size A ((shg s.data.toList k).map sv) ∧ w.grownBy w' none := by
  go_enter Try.func34, Try.ntmps34
  go_wp2_with fail
  refine (words_rd s _ (by omega)).mono ?_
  rintro e w1 ⟨A, c, rfl, hc, hr1, hg1⟩
  have hW := words_le s.data.toList
  have hWs := Lib.hid (words_sz s.data.toList)
  have hsz : s.data.toList.length = s.size := by simp
  rw [hsz] at hW hWs
  have HG := Lib.hid (show shg s.data.toList k = if (Sp.words s.data.toList).length = 0 then [] else Lib.compact (srt (wins (Sp.words s.data.toList) (min k (Sp.words s.data.toList).length))) from rfl)
  clear hsz
  generalize Sp.words s.data.toList = W at *
  by_cases h0 : W.length = 0
  · have e0 : ((W.length : Int) == 0) = true := by simp [h0]
    rw [if_pos h0] at HG
    clear h0
    go_wp2_with fail
    go_ret
    rw [HG.out]
    exact ⟨none, 0, rfl, Nat.le_refl _, Rd.nil, hg1⟩
  · have e0 : ((W.length : Int) == 0) = false := beq_eq_false_iff_ne.2 (by omega)
    have h1 : 1 ≤ W.length := by omega
    rw [if_neg h0] at HG
    clear h0
    obtain ⟨m, hm⟩ : ∃ m : Nat, min k W.length = m := ⟨_, rfl⟩
    rw [hm] at HG
    have hm1 : 1 ≤ m := by omega
    have hm2 : m ≤ W.length := by omega
    have hm3 : m ≤ 10 := by omega
    have hmin : min (k : Int) (W.length : Int) = (m : Int) := by omega
    clear hm
    obtain ⟨b, off, rfl, hlo, hb, hcell⟩ := hr1.open_ (by simp; omega)
    clear hcell
    go_wp2_with fail
    clear hmin
    go_loopw [6, 22] (fun l i wr => ∃ j : Nat, i = .int .i64 j ∧ j ≤ W.length - m + 1 ∧ wr.ownsRow w1.heap.size 9 1 l j (((wins W m).take j).map sv) ∧ w1.grownBy wr none) (fun _ i _ => W.length - m + 1 - (intOf i).toNat)
    case atStart => exact ⟨0, rfl, by omega, World.ownsRow_nil _ _ _ _, gb_refl _ _⟩
    case round =>
      obtain ⟨j, rfl, hj, hown, hg⟩ := hrel
      by_cases hlt : j < W.length - m + 1
      · have hci : ¬ c = j := by omega
        have hjm : j + m ≤ W.length := by omega
        have hwl : ((W.drop j).take m).length = m := by simp; omega
        have hjl : (Lib.join ((W.drop j).take m) [32]).length ≤ 1000000000 := by
          have h := join_len s.size [32] ((W.drop j).take m) (fun l hl => hWs.out l (List.mem_of_mem_drop (List.mem_of_mem_take hl)))
          rw [hwl] at h
          have h2 : m * (s.size + [(32 : UInt8)].length) ≤ 10 * 1000001 := Nat.mul_le_mul hm3 (by simp; omega)
          omega
        have HW := Lib.hid (show (wins W m).take (j + 1) = (wins W m).take j ++ [Lib.join ((W.drop j).take m) [32]] from by
          rw [List.take_succ_eq_append_getElem (by simp [wins]; omega)]; simp [wins])
        have hrd : Rd wr 0 (some ⟨b, off + j, none⟩) (((W.drop j).take m).map sv) := by
          have := ((hr1.pure hg).lower (Nat.zero_le _)).cut j m c (by simpa using hc) (by omega)
          rw [if_neg hci] at this
          simpa [List.map_drop, List.map_take, addr_add] using this
        have Hhw := Lib.hid hwl
        clear hwl
        go_wp2_with fail
        refine (sjoin_any _ ((W.drop j).take m) m (c - j) ⟨#[32]⟩ _ Hhw.out (by omega) hrd hjl (by omega)).mono ?_
        rintro e w2 ⟨rfl, hg2⟩
        have hown2 := hown.kept hg2 (by cases u6.ownBlock <;> simp)
        have hg3 : w1.grownBy w2 none := gb_new hg hg2 (by simp)
        go_wp2_with (at_builtin; refine app_str rfl _ _ rfl _ _ _ _ rfl hown2 rfl (by omega) hg3 ?_; intro v' w4 hown4 hg4)
        exact ⟨⟨j + 1, by go_num, by omega, by rw [HW.out, List.map_append]; exact hown4, hg4⟩, by simp [intOf]; omega⟩
      · have HK := Lib.hid (show (wins W m).take j = wins W m from List.take_of_length_le (by simp [wins]; omega))
        have HL := Lib.hid (show (wins W m).length = j from by simp [wins]; omega)
        rw [HK.out] at hown
        go_wp2_with fail
        refine (sort_own _ _ _ _ _ hown (by omega)).mono ?_
        rintro e w2 ⟨rfl, hown2, hg2⟩
        have hg3 : w1.grownBy w2 none := gb_new hg hg2 (fun b hb => (hown.lt b hb).1)
        go_wp2_with fail
        refine (compact_own _ _ _ _ _ hown2 (by omega)).mono ?_
        rintro e w3 ⟨v3, rfl, hown3, hg4⟩
        have hg5 : w1.grownBy w3 none := gb_new hg3 hg4 (fun b hb => (hown2.lt b hb).1)
        go_wp2_with fail
        go_ret
        obtain ⟨A3, c3, rfl, hc3, hr3⟩ := own_slice hown3
        rw [HG.out]
        exact ⟨A3, c3, rfl, hc3, hr3.lower hg1.size, hg1.trans hg5⟩

set_option maxHeartbeats 400000 in
theorem nlarge_any (s : ByteArray) (w : World) : Calls Try.prog 31 #[.string s] w fun e w' => e = .returned (.int .i64 (whenE (decide (20000 < s.size)) 2)) ∧ w = w' := by
  go_enter Try.func31, Try.ntmps31
  go_wp2_with (go_at_call 39; refine (when_any _ _ _).mono ?_; rintro e w' ⟨rfl, rfl⟩)
  go_ret
  exact ⟨ret_int (by congr 1; simp; omega), rfl⟩
set_option maxHeartbeats 400000 in
theorem kError_any (k : Int) (w : World) : Calls Try.prog 32 #[.int .i64 k] w fun e w' => e = .returned (.int .i64 (whenE (!inE k 1 10) 1)) ∧ w = w' := by
  go_enter Try.func32, Try.ntmps32
  go_wp2_with fail
  refine (in_any _ _ _ _).mono ?_
  rintro e w' ⟨rfl, rfl⟩
  go_wp2_with fail
  refine (when_any _ _ _).mono ?_
  rintro e w' ⟨rfl, rfl⟩
  go_wp2_with fail
  go_ret
  exact ⟨rfl, rfl⟩

def shErr (s : ByteArray) (k : Int) : Int := firstE [whenE (decide (20000 < s.size)) 2, whenE (!inE k 1 10) 1]
def shR (s : ByteArray) (k : Int) : List (List UInt8) := if shErr s k = 0 then shg s.data.toList k.toNat else []
theorem shErr_zero {s : ByteArray} {k : Int} (h : shErr s k = 0) : s.size ≤ 20000 ∧ 1 ≤ k ∧ k ≤ 10 := by
  unfold shErr at h
  by_cases h1 : 20000 < s.size
  · simp [h1, firstE, whenE] at h
  · cases hi : inE k 1 10 with
    | true => simp only [inE, Bool.and_eq_true, decide_eq_true_eq] at hi; omega
    | false => simp [h1, hi, firstE, whenE] at h

set_option maxRecDepth 100000 in
set_option maxHeartbeats 1000000 in
theorem Shingles_any (s : ByteArray) (k : Int) (w : World) (hs : s.size ≤ 1000000000) : Calls Try.prog 16 #[.string s, .int .i64 k] w fun e w' =>
    ∃ A c, e = .returned (.tuple #[.slice A (shR s k).length c, .int .i64 (shErr s k)]) ∧ (shR s k).length ≤ c ∧ Rd w' w.heap.size A ((shR s k).map sv) ∧ w.grownBy w' none := by
  have HE := Lib.hid (show shErr s k = firstE [whenE (decide (20000 < s.size)) 2, whenE (!inE k 1 10) 1] from rfl)
  have HR := Lib.hid (show shR s k = if shErr s k = 0 then shg s.data.toList k.toNat else [] from rfl)
  go_enter Try.func16, Try.ntmps16
  go_wp2_with fail
  refine (nlarge_any _ _).mono ?_
  rintro e w' ⟨rfl, rfl⟩
  go_wp2_with fail
  refine (kError_any _ _).mono ?_
  rintro e w' ⟨rfl, rfl⟩
  generalize whenE (decide (20000 < s.size)) 2 = x at *
  generalize whenE (!inE k 1 10) 1 = y at *
  go_wp2_with fail
  refine (first_any _ [x, y] 2 2 _ rfl (by omega) (Rd.new' _ [.int .i64 x, .int .i64 y] _ (Nat.zero_le _))).mono ?_
  rintro e w' ⟨rfl, rfl⟩
  rw [← HE.out]
  by_cases h0 : shErr s k = 0
  · rw [if_pos h0] at HR
    obtain ⟨h1, h2, h3⟩ := shErr_zero h0
    obtain ⟨m, rfl⟩ := Int.eq_ofNat_of_zero_le (show 0 ≤ k by omega)
    rw [Int.toNat_natCast] at HR
    have e0 : (shErr s (m : Int) != 0) = false := by simp [h0]
    have H0 := Lib.hid h0
    clear h0
    go_wp2_with fail
    refine (shingles_any s m _ (by omega) (by omega) (by omega)).mono ?_
    rintro e w2 ⟨A, c, rfl, hc, hr, hg⟩
    go_wp2_with fail
    go_ret2
    rw [HR.out, H0.out]
    exact ⟨A, c, rfl, hc, hr.lower (by simp), gb_new (gb_alloc (gb_refl _ _) _) hg (by simp)⟩
  · rw [if_neg h0] at HR
    have e0 : (shErr s k != 0) = true := by simp [h0]
    clear h0
    go_wp2_with fail
    go_ret2
    rw [HR.out]
    exact ⟨none, 0, rfl, Nat.le_refl _, Rd.nil, gb_alloc (gb_refl _ _) _⟩

theorem nears_fact1 : shErr ⟨#[97, 32, 98, 32, 99]⟩ 2 = 0 := by decide +kernel
theorem nears_fact2 : shR ⟨#[97, 32, 98, 32, 99]⟩ 2 = [[97, 32, 98], [98, 32, 99]] := by
  have h1 : (Sp.words (⟨#[97, 32, 98, 32, 99]⟩ : ByteArray).data.toList) = [[97], [98], [99]] := by decide +kernel
  have h2 : wins [[97], [98], [99]] 2 = [[97, 32, 98], [98, 32, 99]] := by decide +kernel
  have h3 : srt [[97, 32, 98], [98, 32, 99]] = [[97, 32, 98], [98, 32, 99]] := List.mergeSort_of_pairwise (by decide +kernel)
  have h4 : Lib.compact [[97, 32, 98], [98, 32, 99]] = ([[97, 32, 98], [98, 32, 99]] : List (List UInt8)) := by decide +kernel
  unfold shR shg
  rw [nears_fact1, if_pos rfl, h1]
  show (if ([[97], [98], [99]] : List (List UInt8)).length = 0 then [] else Lib.compact (srt (wins [[97], [98], [99]] 2))) = _
  rw [h2, h3, h4]
  rfl

set_option maxRecDepth 100000 in
set_option maxHeartbeats 1000000 in
theorem nears_any (w : World) : Calls Try.prog 14 #[] w fun e w' => e = .returned (.bool true) ∧ w.grownBy w' none := by
  go_enter Try.func14, Try.ntmps14
  go_wp2_with fail
  refine (Shingles_any _ _ _ (by decide)).mono ?_
  rintro e w1 ⟨A, c, rfl, hc, hr, hg⟩
  rw [nears_fact1]
  rw [nears_fact2] at hc hr ⊢
  go_wp2_with fail
  refine (seq_any _ _ [[97, 32, 98], [98, 32, 99]] [[97, 32, 98], [98, 32, 99]] 2 2 _ _ _ rfl rfl ((hr.alloc _).lower (Nat.zero_le _)) (Rd.new' _ [sv [97, 32, 98], sv [98, 32, 99]] _ (Nat.zero_le _)) (by omega) (by omega)).mono ?_
  rintro e w2 ⟨rfl, hg2⟩
  go_wp2_with fail
  go_ret
  exact ⟨by simp, gb_new (gb_alloc hg _) hg2 (by simp)⟩
end Go.Proofs.Ytpddiepfolfnoaa
