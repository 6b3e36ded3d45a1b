/- Contracts: near.Resemblance, Containment; the reference's LikeOf, ContainmentOf. Written by genresem.py. -/
import Derived.Test.YtpddiepfolfnoaaLike
namespace Go.Proofs.Ytpddiepfolfnoaa
open Go.RowKit
set_option linter.unusedVariables false

def shN (s : ByteArray) (k : Int) : List (List UInt8) := shg s.data.toList k.toNat
def reF (s t : ByteArray) (k : Int) : Nat × Nat := frac (com (shN s k) (shN t k)) ((shN s k).length + (shN t k).length - com (shN s k) (shN t k))
def coF (s t : ByteArray) (k : Int) : Nat × Nat := frac (com (shN s k) (shN t k)) (shN s k).length
def reF0 (s t : ByteArray) (k : Int) : Nat × Nat := if twoErr s t k = 0 then reF s t k else (0, 0)
def coF0 (s t : ByteArray) (k : Int) : Nat × Nat := if twoErr s t k = 0 then coF s t k else (0, 0)
theorem shN_facts (s : ByteArray) (k : Int) : (shN s k).length ≤ s.size + 2 ∧ (shN s k).Pairwise (· < ·) := ⟨show (shg s.data.toList k.toNat).length ≤ s.size + 2 from by simpa using shg_le s.data.toList k.toNat, shg_sorted _ _⟩
theorem twoErr_zero {s t : ByteArray} {k : Int} (h : twoErr s t k = 0) : s.size ≤ 20000 ∧ 1 ≤ k ∧ k ≤ 10 ∧ t.size ≤ 20000 := by
  unfold twoErr at h
  by_cases h1 : 20000 < s.size
  · simp [whenE, firstE, h1] at h
  · by_cases h2 : inE k 1 10 = true
    · by_cases h3 : 20000 < t.size
      · simp [whenE, firstE, h1, h2, h3] at h
      · have := inE_true h2
        omega
    · simp [whenE, firstE, h1, h2] at h

set_option maxRecDepth 100000 in
set_option maxHeartbeats 1000000 in
theorem Resemblance_any (s t : ByteArray) (k : Int) (w : World) : Calls Try.prog 17 #[.string s, .string t, .int .i64 k] w fun e w' => e = .returned (.tuple #[frV2 (reF0 s t k), .int .i64 (twoErr s t k)]) ∧ w.grownBy w' none := by
  go_enter Try.func17, Try.ntmps17
  go_wp2_with fail
  refine (two_any s t k _).mono ?_
  rintro e w1 ⟨rfl, hg1⟩
  by_cases h0 : twoErr s t k = 0
  · obtain ⟨h1, h2, h3, h4⟩ := twoErr_zero h0
    have e0 : (twoErr s t k != 0) = false := by simp [h0]
    have H0 := Lib.hid h0
    have HZ := Lib.hid (show reF0 s t k = reF s t k from if_pos h0)
    clear h0
    obtain ⟨hX1, hX2⟩ := shN_facts s k
    obtain ⟨hY1, hY2⟩ := shN_facts t k
    have HX := Lib.hid (And.intro hX2 hY2)
    clear hX2 hY2
    obtain ⟨m, rfl⟩ := Int.eq_ofNat_of_zero_le (show 0 ≤ k by omega)
    have hSP : reF s t m = frac (com (shN s m) (shN t m)) ((shN s m).length + (shN t m).length - com (shN s m) (shN t m)) := rfl
    have HSP := Lib.hid hSP
    clear hSP
    have eX : shg s.data.toList m = shN s m := rfl
    have eY : shg t.data.toList m = shN t m := rfl

    generalize shN s m = X at *
    generalize shN t m = Y at *
    go_wp2_with fail
    have hk1 := shingles_any s m
    rw [eX] at hk1
    refine (hk1 _ (by omega) (by omega) (by omega)).mono ?_
    clear hk1
    rintro e w2 ⟨A2, c2, rfl, hc2, hr2, hg2⟩
    go_wp2_with fail
    have hk1 := shingles_any t m
    rw [eY] at hk1
    refine (hk1 _ (by omega) (by omega) (by omega)).mono ?_
    clear hk1
    rintro e w3 ⟨A3, c3, rfl, hc3, hr3, hg3⟩
    go_wp2_with fail
    refine (like_any A2 A3 X Y _ _ _ _ _ rfl rfl ((hr2.pure hg3).lower (Nat.zero_le _)) (hr3.lower (Nat.zero_le _)) (by omega) (by omega) HX.out.1 HX.out.2).mono ?_
    rintro e w4 ⟨rfl, hg4⟩
    have hg := ((hg1.trans hg2).trans hg3).trans hg4
    have hblk := kept_new hg
    have hgo := out_new hg
    rw [← HSP.out]
    obtain ⟨p1, p2, hF⟩ : ∃ p1 p2, reF s t m = (p1, p2) := ⟨_, _, rfl⟩
    have HF := Lib.hid hF
    rw [hF, show frV2 (p1, p2) = .agg #[.int .i64 p1, .int .i64 p2] from rfl]
    clear hF
    obtain ⟨f0, f1, z0, z1⟩ := two_facts hblk
    obtain ⟨s0, s1⟩ := two_set hblk (.int .i64 p1) (.int .i64 p2)
    go_wp2_with fail
    refine bodyPost_ret (v := .tuple #[.agg #[.int .i64 p1, .int .i64 p2], .int .i64 0]) (by simp [results, Try.results17, go_sem, s0, s1]) rfl ⟨?_, gb_two hgo _ _⟩
    rw [HZ.out, HF.out, H0.out]; rfl
  · have e0 : (twoErr s t k != 0) = true := by simp [h0]
    have HZ := Lib.hid (show reF0 s t k = (0, 0) from if_neg h0)
    clear h0
    have hblk := kept_new hg1
    have hgo := out_new hg1
    obtain ⟨f0, f1, z0, z1⟩ := two_facts hblk
    obtain ⟨s0, s1⟩ := two_set hblk (.int .i64 0) (.int .i64 0)
    go_wp2_with fail
    refine bodyPost_ret (v := .tuple #[.agg #[.int .i64 0, .int .i64 0], .int .i64 (twoErr s t k)]) (by simp [results, Try.results17, go_sem, s0, s1]) rfl ⟨?_, gb_two hgo _ _⟩
    rw [HZ.out]; rfl

set_option maxRecDepth 100000 in
set_option maxHeartbeats 1000000 in
theorem Containment_any (s t : ByteArray) (k : Int) (w : World) : Calls Try.prog 18 #[.string s, .string t, .int .i64 k] w fun e w' => e = .returned (.tuple #[frV2 (coF0 s t k), .int .i64 (twoErr s t k)]) ∧ w.grownBy w' none := by
  go_enter Try.func18, Try.ntmps18
  go_wp2_with fail
  refine (two_any s t k _).mono ?_
  rintro e w1 ⟨rfl, hg1⟩
  by_cases h0 : twoErr s t k = 0
  · obtain ⟨h1, h2, h3, h4⟩ := twoErr_zero h0
    have e0 : (twoErr s t k != 0) = false := by simp [h0]
    have H0 := Lib.hid h0
    have HZ := Lib.hid (show coF0 s t k = coF s t k from if_pos h0)
    clear h0
    obtain ⟨hX1, hX2⟩ := shN_facts s k
    obtain ⟨hY1, hY2⟩ := shN_facts t k
    have HX := Lib.hid (And.intro hX2 hY2)
    clear hX2 hY2
    obtain ⟨m, rfl⟩ := Int.eq_ofNat_of_zero_le (show 0 ≤ k by omega)
    have hSP : coF s t m = frac (com (shN s m) (shN t m)) (shN s m).length := rfl
    have HSP := Lib.hid hSP
    clear hSP
    have eX : shg s.data.toList m = shN s m := rfl
    have eY : shg t.data.toList m = shN t m := rfl

    generalize shN s m = X at *
    generalize shN t m = Y at *
    go_wp2_with fail
    have hk1 := shingles_any s m
    rw [eX] at hk1
    refine (hk1 _ (by omega) (by omega) (by omega)).mono ?_
    clear hk1
    rintro e w2 ⟨A2, c2, rfl, hc2, hr2, hg2⟩
    go_wp2_with fail
    have hk1 := shingles_any t m
    rw [eY] at hk1
    refine (hk1 _ (by omega) (by omega) (by omega)).mono ?_
    clear hk1
    rintro e w3 ⟨A3, c3, rfl, hc3, hr3, hg3⟩
    go_wp2_with fail
    refine (shared_any A2 A3 X Y _ _ _ _ _ rfl rfl ((hr2.pure hg3).lower (Nat.zero_le _)) (hr3.lower (Nat.zero_le _)) (by omega) (by omega) HX.out.1 HX.out.2).mono ?_
    rintro e w5 ⟨rfl, hg5⟩
    have hcc : com X Y ≤ X.length := List.countP_le_length
    generalize com X Y = cc at *
    go_wp2_with fail
    refine (fraction_any cc X.length _ (by omega) (by omega)).mono ?_
    rintro e w4 ⟨rfl, hg6⟩
    have hg4 := hg5.trans hg6
    have hg := ((hg1.trans hg2).trans hg3).trans hg4
    have hblk := kept_new hg
    have hgo := out_new hg
    rw [← HSP.out]
    obtain ⟨p1, p2, hF⟩ : ∃ p1 p2, coF s t m = (p1, p2) := ⟨_, _, rfl⟩
    have HF := Lib.hid hF
    rw [hF, show frV2 (p1, p2) = .agg #[.int .i64 p1, .int .i64 p2] from rfl]
    clear hF
    obtain ⟨f0, f1, z0, z1⟩ := two_facts hblk
    obtain ⟨s0, s1⟩ := two_set hblk (.int .i64 p1) (.int .i64 p2)
    go_wp2_with fail
    refine bodyPost_ret (v := .tuple #[.agg #[.int .i64 p1, .int .i64 p2], .int .i64 0]) (by simp [results, Try.results18, go_sem, s0, s1]) rfl ⟨?_, gb_two hgo _ _⟩
    rw [HZ.out, HF.out, H0.out]; rfl
  · have e0 : (twoErr s t k != 0) = true := by simp [h0]
    have HZ := Lib.hid (show coF0 s t k = (0, 0) from if_neg h0)
    clear h0
    have hblk := kept_new hg1
    have hgo := out_new hg1
    obtain ⟨f0, f1, z0, z1⟩ := two_facts hblk
    obtain ⟨s0, s1⟩ := two_set hblk (.int .i64 0) (.int .i64 0)
    go_wp2_with fail
    refine bodyPost_ret (v := .tuple #[.agg #[.int .i64 0, .int .i64 0], .int .i64 (twoErr s t k)]) (by simp [results, Try.results18, go_sem, s0, s1]) rfl ⟨?_, gb_two hgo _ _⟩
    rw [HZ.out]; rfl

set_option maxRecDepth 100000 in
set_option maxHeartbeats 1000000 in
theorem rLikeOf_any (s t : ByteArray) (m : Nat) (w : World) (hs : s.size ≤ 20000) (ht : t.size ≤ 20000) (h1 : 1 ≤ m) (h2 : m ≤ 10) : Calls Try.prog 22 #[.string s, .string t, .int .i64 m] w fun e w' => e = .returned (frV2 (reF s t m)) ∧ w.grownBy w' none := by
  obtain ⟨hX1, hX2⟩ := shN_facts s m
  obtain ⟨hY1, hY2⟩ := shN_facts t m
  have HX := Lib.hid (And.intro hX2 hY2)
  have HU := Lib.hid (like_len (shN s m) (shN t m) hX2 hY2)
  clear hX2 hY2
  have HSP := Lib.hid (show reF s t m = frac (com (shN s m) (shN t m)) ((shN s m).length + (shN t m).length - com (shN s m) (shN t m)) from rfl)
  have eX : shg s.data.toList m = shN s m := rfl
  have eY : shg t.data.toList m = shN t m := rfl
  generalize shN s m = X at *
  generalize shN t m = Y at *
  go_enter Try.func22, Try.ntmps22
  go_wp2_with fail
  have hk1 := rshingles_any s m
  rw [eX] at hk1
  refine (hk1 _ (by omega) (by omega) (by omega)).mono ?_
  clear hk1
  rintro e w2 ⟨A2, c2, rfl, hc2, hr2, hg2⟩
  go_wp2_with fail
  have hk1 := rshingles_any t m
  rw [eY] at hk1
  refine (hk1 _ (by omega) (by omega) (by omega)).mono ?_
  clear hk1
  rintro e w3 ⟨A3, c3, rfl, hc3, hr3, hg3⟩
  go_wp2_with fail
  refine (rshared_any A2 A3 X Y _ _ _ _ _ rfl rfl ((hr2.pure hg3).lower (Nat.zero_le _)) (hr3.lower (Nat.zero_le _)) (by omega) (by omega) HX.out.2).mono ?_
  rintro e w4 ⟨rfl, hg4⟩
  have hcc : com X Y ≤ X.length := List.countP_le_length
  go_wp2_with fail
  refine (concatS_any _ A2 A3 _ _ _ _ X Y _ rfl rfl ((((hr2.pure hg3).pure hg4).lower (Nat.zero_le _)).alloc _) (((hr3.pure hg4).lower (Nat.zero_le _)).alloc _) (by omega) (by omega) (Rd.new' _ [.slice A2 X.length c2, .slice A3 Y.length c3] _ (Nat.zero_le _))).mono ?_
  rintro e w5 ⟨v5, rfl, hown5, hg5⟩
  have hg5' : w4.grownBy w5 none := (gb_alloc (gb_refl _ _) _).trans hg5
  obtain ⟨A5, c5, rfl, hc5, hr5⟩ := own_slice hown5
  go_wp2_with fail
  refine (sorted_any A5 (X ++ Y) _ c5 _ (by simp) (hr5.lower (Nat.zero_le _)) (by omega)).mono ?_
  rintro e w6 ⟨B6, d6, rfl, hd6, hr6, hg6⟩
  have hUl := HU.out.1
  have hlen : (Lib.compact (srt (X ++ Y))).length = X.length + Y.length - com X Y := hUl
  rw [hlen]
  clear hlen hUl
  generalize com X Y = cc at *
  go_wp2_with fail
  refine (part_any cc (X.length + Y.length - cc) _ (by omega) (by omega)).mono ?_
  rintro e w7 ⟨rfl, hg7⟩
  have hg := ((((hg2.trans hg3).trans hg4).trans hg5').trans hg6).trans hg7
  have hblk := kept_new hg
  have hgo := out_new hg
  rw [← HSP.out]
  obtain ⟨p1, p2, hF⟩ : ∃ p1 p2, reF s t m = (p1, p2) := ⟨_, _, rfl⟩
  have HF := Lib.hid hF
  rw [hF, show frV2 (p1, p2) = .agg #[.int .i64 p1, .int .i64 p2] from rfl]
  clear hF
  obtain ⟨f0, f1, z0, z1⟩ := two_facts hblk
  obtain ⟨s0, s1⟩ := two_set hblk (.int .i64 p1) (.int .i64 p2)
  go_wp2_with fail
  refine bodyPost_ret (v := .agg #[.int .i64 p1, .int .i64 p2]) (by simp [results, Try.results22, go_sem, s0, s1]) rfl ⟨?_, gb_two hgo _ _⟩
  rw [HF.out]; rfl

set_option maxRecDepth 100000 in
set_option maxHeartbeats 1000000 in
theorem rContainmentOf_any (s t : ByteArray) (m : Nat) (w : World) (hs : s.size ≤ 20000) (ht : t.size ≤ 20000) (h1 : 1 ≤ m) (h2 : m ≤ 10) : Calls Try.prog 23 #[.string s, .string t, .int .i64 m] w fun e w' => e = .returned (frV2 (coF s t m)) ∧ w.grownBy w' none := by
  obtain ⟨hX1, hX2⟩ := shN_facts s m
  obtain ⟨hY1, hY2⟩ := shN_facts t m
  have HX := Lib.hid (And.intro hX2 hY2)
  have HU := Lib.hid (like_len (shN s m) (shN t m) hX2 hY2)
  clear hX2 hY2
  have HSP := Lib.hid (show coF s t m = frac (com (shN s m) (shN t m)) (shN s m).length from rfl)
  have eX : shg s.data.toList m = shN s m := rfl
  have eY : shg t.data.toList m = shN t m := rfl
  generalize shN s m = X at *
  generalize shN t m = Y at *
  go_enter Try.func23, Try.ntmps23
  go_wp2_with fail
  have hk1 := rshingles_any s m
  rw [eX] at hk1
  refine (hk1 _ (by omega) (by omega) (by omega)).mono ?_
  clear hk1
  rintro e w2 ⟨A2, c2, rfl, hc2, hr2, hg2⟩
  go_wp2_with fail
  have hk1 := rshingles_any t m
  rw [eY] at hk1
  refine (hk1 _ (by omega) (by omega) (by omega)).mono ?_
  clear hk1
  rintro e w3 ⟨A3, c3, rfl, hc3, hr3, hg3⟩
  go_wp2_with fail
  refine (rshared_any A2 A3 X Y _ _ _ _ _ rfl rfl ((hr2.pure hg3).lower (Nat.zero_le _)) (hr3.lower (Nat.zero_le _)) (by omega) (by omega) HX.out.2).mono ?_
  rintro e w4 ⟨rfl, hg4⟩
  have hcc : com X Y ≤ X.length := List.countP_le_length
  generalize com X Y = cc at *
  go_wp2_with fail
  refine (part_any cc X.length _ (by omega) (by omega)).mono ?_
  rintro e w7 ⟨rfl, hg7⟩
  have hg := ((hg2.trans hg3).trans hg4).trans hg7
  have hblk := kept_new hg
  have hgo := out_new hg
  rw [← HSP.out]
  obtain ⟨p1, p2, hF⟩ : ∃ p1 p2, coF s t m = (p1, p2) := ⟨_, _, rfl⟩
  have HF := Lib.hid hF
  rw [hF, show frV2 (p1, p2) = .agg #[.int .i64 p1, .int .i64 p2] from rfl]
  clear hF
  obtain ⟨f0, f1, z0, z1⟩ := two_facts hblk
  obtain ⟨s0, s1⟩ := two_set hblk (.int .i64 p1) (.int .i64 p2)
  go_wp2_with fail
  refine bodyPost_ret (v := .agg #[.int .i64 p1, .int .i64 p2]) (by simp [results, Try.results23, go_sem, s0, s1]) rfl ⟨?_, gb_two hgo _ _⟩
  rw [HF.out]; rfl
end Go.Proofs.Ytpddiepfolfnoaa
