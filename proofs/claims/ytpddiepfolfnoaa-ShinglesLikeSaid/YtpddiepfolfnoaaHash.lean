/- Contracts: the reference's hash64; near.Sketch. -/
import Derived.Test.YtpddiepfolfnoaaShRef
import Derived.Test.YtpddiepfolfnoaaInts
import Derived.Laws.BitsAllLaws
import Derived.Laws.Bits64
import Derived.Laws.Shifts
namespace Go.Proofs.Ytpddiepfolfnoaa
open Go.RowKit
set_option linter.unusedVariables false

theorem rd_take {w : World} {lo : Nat} {A : Option Addr} {xs : List Value} (h : Rd w lo A xs) (n : Nat) : Rd w lo A (xs.take n) := fun hx => by
  obtain ⟨b, off, e1, e2, e3, e4⟩ := h (by intro e; apply hx; rw [e, List.take_nil])
  refine ⟨b, off, e1, e2, e3, fun j u hu => e4 j u ?_⟩
  rw [List.getElem?_take] at hu
  split at hu
  · exact hu
  · cases hu
def hstep (x : Int) (c : UInt8) : Int := IntKind.u64.wrap (bits BinOp.xor IntKind.u64 x (IntKind.u64.wrap ↑c.toNat) * 1099511628211)
def hashL (l : List UInt8) : Int := l.foldl hstep 14695981039346656037
def hv (l : List UInt8) : Int := hashL l / 2
theorem hashL_snoc (s : ByteArray) (k : Nat) (h : k < s.size) : hashL (s.data.toList.take (k + 1)) = hstep (hashL (s.data.toList.take k)) s[k] := by
  rw [List.take_succ_eq_append_getElem (by simpa using h)]
  simp [hashL]
  rfl
theorem wrap_u64_bd (x : Int) : 0 ≤ IntKind.u64.wrap x ∧ IntKind.u64.wrap x < 18446744073709551616 := by
  rw [IntKind.wrap_u64]; omega
theorem hashL_bd (l : List UInt8) : 0 ≤ hashL l ∧ hashL l < 18446744073709551616 := by
  have : ∀ (l : List UInt8) (x : Int), (0 ≤ x ∧ x < 18446744073709551616) → 0 ≤ l.foldl hstep x ∧ l.foldl hstep x < 18446744073709551616 := by
    intro l
    induction l with
    | nil => intro x h; exact h
    | cons c l ih => intro x _; exact ih _ (wrap_u64_bd _)
  exact this l _ (by omega)

set_option maxRecDepth 100000 in
set_option maxHeartbeats 1000000 in
theorem hash_any (s : ByteArray) (w : World) (hs : s.size ≤ 1000000000) : Calls Try.prog 37 #[.string s] w fun e w' => e = .returned (.int .u64 (hashL s.data.toList)) ∧ w = w' := by
  go_enter Try.func37, Try.ntmps37
  go_wp2_with fail
  go_loop [3, 4] (fun h i => ∃ k : Nat, i = .int .i64 k ∧ k ≤ s.size ∧ h = .int .u64 (hashL (s.data.toList.take k))) (fun _ i => s.size - (intOf i).toNat)
  case atStart => exact ⟨0, rfl, by omega, rfl⟩
  case round =>
    obtain ⟨k, rfl, hk, rfl⟩ := hrel
    by_cases hlt : k < s.size
    · have HS := Lib.hid (hashL_snoc s k hlt)
      obtain ⟨c, hc⟩ : ∃ c, s[k] = c := ⟨_, rfl⟩
      rw [hc] at HS
      generalize hashL (s.data.toList.take k) = x at *
      go_wp2_with fail
      exact ⟨⟨k + 1, by go_num, by omega, by rw [HS.out]; rfl⟩, by simp [intOf]; omega⟩
    · have HK := Lib.hid (show s.data.toList.take k = s.data.toList from List.take_of_length_le (by simp; omega))
      go_wp2_with fail
      go_ret
      rw [HK.out]
      exact ⟨rfl, rfl⟩

set_option maxHeartbeats 400000 in
theorem sizeError_any (k : Int) (w : World) : Calls Try.prog 33 #[.int .i64 k] w fun e w' => e = .returned (.int .i64 (whenE (!inE k 1 200) 1)) ∧ w = w' := by
  go_enter Try.func33, Try.ntmps33
  go_wp2_with fail
  refine (in_any _ _ _ _).mono ?_
  rintro e w' ⟨rfl, rfl⟩
  go_wp2_with fail
  refine (when_any _ _ _).mono ?_
  rintro e w' ⟨rfl, rfl⟩
  go_wp2_with fail
  go_ret
  exact ⟨rfl, rfl⟩

def skErr (s : ByteArray) (k size : Int) : Int := firstE [whenE (decide (20000 < s.size)) 2, whenE (!inE k 1 10) 1, whenE (!inE size 1 200) 1]
def skR (s : ByteArray) (k size : Int) : List Int := if skErr s k size = 0 then (Lib.compact (srtI ((shg s.data.toList k.toNat).map hv))).take size.toNat else []
theorem skErr_zero {s : ByteArray} {k z : Int} (h : skErr s k z = 0) : s.size ≤ 20000 ∧ 1 ≤ k ∧ k ≤ 10 ∧ 1 ≤ z ∧ z ≤ 200 := by
  unfold skErr at h
  by_cases h1 : 20000 < s.size
  · simp [h1, firstE, whenE] at h
  · cases hi : inE k 1 10 with
    | true =>
      cases hj : inE z 1 200 with
      | true => simp only [inE, Bool.and_eq_true, decide_eq_true_eq] at hi hj; omega
      | false => simp [h1, hi, hj, firstE, whenE] at h
    | false => simp [h1, hi, firstE, whenE] at h

theorem shg_le (t : List UInt8) (k : Nat) : (shg t k).length ≤ t.length + 2 := by
  unfold shg
  split
  · simp
  · have h1 := Lib.compact_length_le (srt (wins (Sp.words t) (min k (Sp.words t).length)))
    have h2 := words_le t
    rw [srt_len] at h1
    have h3 : (wins (Sp.words t) (min k (Sp.words t).length)).length = (Sp.words t).length - min k (Sp.words t).length + 1 := by simp [wins]
    omega
theorem mem_compact {α : Type} [Inhabited α] [DecidableEq α] (L : List α) (x : α) (h : x ∈ Lib.compact L) : x ∈ L := by
  unfold Lib.compact Lib.compactUpTo at h
  simp only [List.mem_map, List.mem_filter, List.mem_range] at h
  obtain ⟨i, ⟨hi, _⟩, rfl⟩ := h
  simp [hi]
theorem shg_sz (t : List UInt8) (k : Nat) (hk : k ≤ 10) : ∀ l ∈ shg t k, l.length ≤ 10 * (t.length + 1) := by
  intro l hl
  unfold shg at hl
  split at hl
  · simp at hl
  · have h1 := mem_compact _ _ hl
    unfold srt at h1
    rw [List.mem_mergeSort] at h1
    simp only [wins, List.mem_map] at h1
    obtain ⟨i, _, rfl⟩ := h1
    have h2 := join_len t.length [32] (((Sp.words t).drop i).take (min k (Sp.words t).length)) (fun l hl => words_sz t l (List.mem_of_mem_drop (List.mem_of_mem_take hl)))
    refine Nat.le_trans h2 (Nat.mul_le_mul ?_ (by simp))
    rw [List.length_take]
    omega

set_option maxRecDepth 100000 in
set_option maxHeartbeats 2000000 in
theorem Sketch_any (s : ByteArray) (k size : Int) (w : World) (hs : s.size ≤ 1000000000) : Calls Try.prog 8 #[.string s, .int .i64 k, .int .i64 size] w fun e w' =>
    ∃ A c, e = .returned (.tuple #[.slice A (skR s k size).length c, .int .i64 (skErr s k size)]) ∧ (skR s k size).length ≤ c ∧ Rd w' w.heap.size A ((skR s k size).map iv) ∧ w.grownBy w' none := by
  have HE := Lib.hid (show skErr s k size = firstE [whenE (decide (20000 < s.size)) 2, whenE (!inE k 1 10) 1, whenE (!inE size 1 200) 1] from rfl)
  have HR := Lib.hid (show skR s k size = if skErr s k size = 0 then (Lib.compact (srtI ((shg s.data.toList k.toNat).map hv))).take size.toNat else [] from rfl)
  go_enter Try.func8, Try.ntmps8
  go_wp2_with fail
  refine (nlarge_any _ _).mono ?_
  rintro e w' ⟨rfl, rfl⟩
  go_wp2_with fail
  refine (kError_any _ _).mono ?_
  rintro e w' ⟨rfl, rfl⟩
  go_wp2_with fail
  refine (sizeError_any _ _).mono ?_
  rintro e w' ⟨rfl, rfl⟩
  generalize whenE (decide (20000 < s.size)) 2 = x at *
  generalize whenE (!inE k 1 10) 1 = y at *
  generalize whenE (!inE size 1 200) 1 = z at *
  go_wp2_with fail
  refine (first_any _ [x, y, z] 3 3 _ rfl (by omega) (Rd.new' _ [.int .i64 x, .int .i64 y, .int .i64 z] _ (Nat.zero_le _))).mono ?_
  rintro e w' ⟨rfl, rfl⟩
  rw [← HE.out]
  by_cases h0 : skErr s k size = 0
  · rw [if_pos h0] at HR
    obtain ⟨h1, h2, h3, h4, h5⟩ := skErr_zero h0
    obtain ⟨m, rfl⟩ := Int.eq_ofNat_of_zero_le (show 0 ≤ k by omega)
    obtain ⟨sz, rfl⟩ := Int.eq_ofNat_of_zero_le (show 0 ≤ size by omega)
    rw [Int.toNat_natCast, Int.toNat_natCast] at HR
    have e0 : (skErr s (m : Int) (sz : Int) != 0) = false := by simp [h0]
    have H0 := Lib.hid h0
    clear h0
    go_wp2_with fail
    refine (shingles_any s m _ (by omega) (by omega) (by omega)).mono ?_
    rintro e w2 ⟨A, c, rfl, hc, hr, hg⟩
    have hGl : (shg s.data.toList m).length ≤ s.size + 2 := by simpa using shg_le s.data.toList m
    have hGs := Lib.hid (shg_sz s.data.toList m (by omega))
    have hsz : s.data.toList.length = s.size := by simp
    rw [hsz] at hGs
    clear hsz
    generalize shg s.data.toList m = G at *
    have hgw : w.grownBy w2 none := gb_new (gb_alloc (gb_refl _ _) _) hg (by simp)
    clear hg
    go_wp2_with fail
    go_loopw [9, 29] (fun l i wr => ∃ j : Nat, i = .int .i64 j ∧ j ≤ G.length ∧ wr.ownsRow w2.heap.size 3 1 l j (((G.take j).map hv).map iv) ∧ w2.grownBy wr none) (fun _ i _ => G.length - (intOf i).toNat)
    case atStart => exact ⟨0, rfl, by omega, World.ownsRow_nil _ _ _ _, gb_refl _ _⟩
    case round =>
      obtain ⟨j, rfl, hj, hown, hgj⟩ := hrel
      by_cases hlt : j < G.length
      · obtain ⟨b, off, rfl, hlo, hb, hcell⟩ := (hr.pure hgj).at_ (k := j) (by simpa using hlt)
        obtain ⟨t, ht, ht2⟩ : ∃ t : ByteArray, G[j] = t.data.toList ∧ sv G[j] = .string t := ⟨⟨G[j].toArray⟩, by simp, rfl⟩
        have hts : t.size ≤ 1000000 := by
          have := hGs.out G[j] (List.getElem_mem _)
          rw [ht] at this
          simp at this
          have h8 : t.data.size = t.size := rfl
          omega
        rw [List.getElem_map, ht2] at hcell
        have HT := Lib.hid (show (G.take (j + 1)).map hv = (G.take j).map hv ++ [hv t.data.toList] from by rw [List.take_succ_eq_append_getElem hlt, ht]; simp)
        clear ht ht2
        go_wp2_with fail
        go_loop [12, 35] (fun h i => ∃ q : Nat, i = .int .i64 q ∧ q ≤ t.size ∧ h = .int .u64 (hashL (t.data.toList.take q))) (fun _ i => t.size - (intOf i).toNat)
        case atStart => exact ⟨0, rfl, by omega, rfl⟩
        case round =>
          obtain ⟨q, rfl, hq, rfl⟩ := hrel
          by_cases hlq : q < t.size
          · have HS := Lib.hid (hashL_snoc t q hlq)
            obtain ⟨cc, hcc⟩ : ∃ cc, t[q] = cc := ⟨_, rfl⟩
            rw [hcc] at HS
            generalize hashL (t.data.toList.take q) = xx at *
            go_wp2_with fail
            exact ⟨⟨q + 1, by go_num, by omega, by rw [HS.out]; rfl⟩, by simp [intOf]; omega⟩
          · have HK := Lib.hid (show hv t.data.toList = hashL (t.data.toList.take q) / 2 from by rw [List.take_of_length_le (by simp; omega)]; rfl)
            obtain ⟨hb1, hb2⟩ := hashL_bd (t.data.toList.take q)
            generalize hashL (t.data.toList.take q) = xx at *
            go_wp2_with (at_builtin; refine app_int rfl _ _ rfl _ _ _ _ rfl hown rfl (by omega) hgj ?_; intro v' w4 hown4 hg4)
            exact ⟨⟨j + 1, by go_num, by omega, by rw [HT.out, List.map_append, HK.out]; exact hown4, hg4⟩, by simp [intOf]; omega⟩
      · have HJ := Lib.hid (show G.take j = G from List.take_of_length_le (by omega))
        rw [HJ.out] at hown
        go_wp2_with fail
        refine (sortI_own _ _ _ _ _ hown (by omega)).mono ?_
        rintro e w3 ⟨rfl, hown3, hg3⟩
        have hg4 : w2.grownBy w3 none := gb_new hgj hg3 (fun b hb => (hown.lt b hb).1)
        go_wp2_with fail
        refine (compactI_own _ _ _ _ _ hown3 (by omega)).mono ?_
        rintro e w5 ⟨v5, rfl, hown5, hg5⟩
        have hg6 : w2.grownBy w5 none := gb_new hg4 hg5 (fun b hb => (hown3.lt b hb).1)
        obtain ⟨A5, c5, rfl, hc5, hr5⟩ := own_slice hown5
        generalize Lib.compact (srtI (G.map hv)) = K at *
        obtain ⟨mm, hmm⟩ : ∃ mm : Nat, min sz K.length = mm := ⟨_, rfl⟩
        have hmin : min (sz : Int) (K.length : Int) = (mm : Int) := by omega
        have hm1 : mm ≤ K.length := by omega
        have HL := Lib.hid (show (K.take sz).length = mm from by rw [List.length_take]; exact hmm)
        clear hmm
        go_wp2_with fail
        go_ret2
        rw [HR.out, H0.out, HL.out]
        exact ⟨A5, c5, rfl, by omega, by rw [List.map_take]; exact (rd_take hr5 sz).lower hgw.size, hgw.trans hg6⟩
  · rw [if_neg h0] at HR
    have e0 : (skErr s k size != 0) = true := by simp [h0]
    clear h0
    go_wp2_with fail
    go_ret2
    rw [HR.out]
    exact ⟨none, 0, rfl, Nat.le_refl _, Rd.nil, gb_alloc (gb_refl _ _) _⟩

set_option maxRecDepth 100000 in
set_option maxHeartbeats 2000000 in
theorem rSketch_any (s : ByteArray) (k size : Int) (w : World) (hs : s.size ≤ 1000000000) : Calls Try.prog 9 #[.string s, .int .i64 k, .int .i64 size] w fun e w' =>
    ∃ A c, e = .returned (.tuple #[.slice A (skR s k size).length c, .int .i64 (skErr s k size)]) ∧ (skR s k size).length ≤ c ∧ Rd w' w.heap.size A ((skR s k size).map iv) ∧ w.grownBy w' none := by
  have HR := Lib.hid (show skR s k size = if skErr s k size = 0 then (Lib.compact (srtI ((shg s.data.toList k.toNat).map hv))).take size.toNat else [] from rfl)
  by_cases hF : shErr s k = 0
  · obtain ⟨h1, h2, h3⟩ := shErr_zero hF
    have e1 : (shErr s k != 0) = false := by simp [hF]
    have hi1 : inE k 1 10 = true := by simp [inE]; omega
    by_cases hz : inE size 1 200 = true
    · have h0 : skErr s k size = 0 := by simp [skErr, firstE, whenE, hz, hi1]; omega
      rw [if_pos h0] at HR
      obtain ⟨_, _, _, h4, h5⟩ := skErr_zero h0
      obtain ⟨m, rfl⟩ := Int.eq_ofNat_of_zero_le (show 0 ≤ k by omega)
      obtain ⟨sz, rfl⟩ := Int.eq_ofNat_of_zero_le (show 0 ≤ size by omega)
      rw [Int.toNat_natCast, Int.toNat_natCast] at HR
      have H0 := Lib.hid h0
      clear h0 hz hi1 hF
      have d1 : decide ((sz : Int) < 1) = false := by simp; omega
      go_enter Try.func9, Try.ntmps9
      go_wp2_with fail
      refine (shFault_any _ _ _).mono ?_
      rintro e w' ⟨rfl, rfl⟩
      go_wp2_with fail
      refine (rshingles_any s m _ (by omega) (by omega) (by omega)).mono ?_
      rintro e w2 ⟨A, c, rfl, hc, hr, hgw⟩
      have hGl : (shg s.data.toList m).length ≤ s.size + 2 := by simpa using shg_le s.data.toList m
      have hGs := Lib.hid (shg_sz s.data.toList m (by omega))
      have hsz : s.data.toList.length = s.size := by simp
      rw [hsz] at hGs
      clear hsz
      generalize shg s.data.toList m = G at *
      go_wp2_with fail
      go_loopw [9, 28] (fun l i wr => ∃ j : Nat, i = .int .i64 j ∧ j ≤ G.length ∧ wr.ownsRow w2.heap.size 3 1 l j (((G.take j).map hv).map iv) ∧ w2.grownBy wr none) (fun _ i _ => G.length - (intOf i).toNat)
      case atStart => exact ⟨0, rfl, by omega, World.ownsRow_nil _ _ _ _, gb_refl _ _⟩
      case round =>
        obtain ⟨j, rfl, hj, hown, hgj⟩ := hrel
        by_cases hlt : j < G.length
        · obtain ⟨b, off, rfl, hlo, hb, hcell⟩ := (hr.pure hgj).at_ (k := j) (by simpa using hlt)
          obtain ⟨t, ht, ht2⟩ : ∃ t : ByteArray, G[j] = t.data.toList ∧ sv G[j] = .string t := ⟨⟨G[j].toArray⟩, by simp, rfl⟩
          have hts : t.size ≤ 1000000 := by
            have := hGs.out G[j] (List.getElem_mem _)
            rw [ht] at this
            simp at this
            have h8 : t.data.size = t.size := rfl
            omega
          rw [List.getElem_map, ht2] at hcell
          have HT := Lib.hid (show (G.take (j + 1)).map hv = (G.take j).map hv ++ [hv t.data.toList] from by rw [List.take_succ_eq_append_getElem hlt, ht]; simp)
          have HK := Lib.hid (show hv t.data.toList = hashL t.data.toList / 2 from rfl)
          clear ht ht2
          go_wp2_with fail
          refine (hash_any t _ (by omega)).mono ?_
          rintro e w' ⟨rfl, rfl⟩
          obtain ⟨hb1, hb2⟩ := hashL_bd t.data.toList
          generalize hashL t.data.toList = xx at *
          go_wp2_with (at_builtin; refine app_int rfl _ _ rfl _ _ _ _ rfl hown rfl (by omega) hgj ?_; intro v' w4 hown4 hg4)
          exact ⟨⟨j + 1, by go_num, by omega, by rw [HT.out, List.map_append, HK.out]; exact hown4, hg4⟩, by simp [intOf]; omega⟩
        · have HJ := Lib.hid (show G.take j = G from List.take_of_length_le (by omega))
          rw [HJ.out] at hown
          go_wp2_with fail
          refine (sortI_own _ _ _ _ _ hown (by omega)).mono ?_
          rintro e w3 ⟨rfl, hown3, hg3⟩
          have hg4 : w2.grownBy w3 none := gb_new hgj hg3 (fun b hb => (hown.lt b hb).1)
          go_wp2_with fail
          refine (compactI_own _ _ _ _ _ hown3 (by omega)).mono ?_
          rintro e w5 ⟨v5, rfl, hown5, hg5⟩
          have hg6 : w2.grownBy w5 none := gb_new hg4 hg5 (fun b hb => (hown3.lt b hb).1)
          obtain ⟨A5, c5, rfl, hc5, hr5⟩ := own_slice hown5
          generalize Lib.compact (srtI (G.map hv)) = K at *
          obtain ⟨mm, hmm⟩ : ∃ mm : Nat, min sz K.length = mm := ⟨_, rfl⟩
          have hmin : min (sz : Int) (K.length : Int) = (mm : Int) := by omega
          have hm1 : mm ≤ K.length := by omega
          have HL := Lib.hid (show (K.take sz).length = mm from by rw [List.length_take]; exact hmm)
          clear hmm
          go_wp2_with fail
          go_ret2
          rw [HR.out, H0.out, HL.out]
          exact ⟨A5, c5, rfl, by omega, by rw [List.map_take]; exact (rd_take hr5 sz).lower hgw.size, hgw.trans hg6⟩
    · have hz' : inE size 1 200 = false := by simpa using hz
      have h0 : skErr s k size = 1 := by simp [skErr, firstE, whenE, hz', hi1]; omega
      rw [if_neg (by rw [h0]; decide)] at HR
      have H0 := Lib.hid h0
      have hor : size < 1 ∨ (¬ size < 1 ∧ 200 < size) := by simp [inE] at hz'; omega
      clear h0 hz hz' hF
      rcases hor with hlo | ⟨hnlo, hhi⟩
      · have d1 : decide (size < 1) = true := by simpa using hlo
        go_enter Try.func9, Try.ntmps9
        go_wp2_with fail
        refine (shFault_any _ _ _).mono ?_
        rintro e w' ⟨rfl, rfl⟩
        go_wp2_with fail
        go_ret2
        rw [HR.out, H0.out]
        exact ⟨none, 0, rfl, Nat.le_refl _, Rd.nil, gb_refl _ _⟩
      · have d1 : decide (size < 1) = false := by simpa using hnlo
        go_enter Try.func9, Try.ntmps9
        go_wp2_with fail
        refine (shFault_any _ _ _).mono ?_
        rintro e w' ⟨rfl, rfl⟩
        go_wp2_with fail
        go_ret2
        rw [HR.out, H0.out]
        exact ⟨none, 0, rfl, Nat.le_refl _, Rd.nil, gb_refl _ _⟩
  · have e1 : (shErr s k != 0) = true := by simp [hF]
    have h0 : skErr s k size = shErr s k := by
      unfold shErr at hF
      unfold skErr shErr
      by_cases h1 : 20000 < s.size
      · simp [firstE, whenE, h1]
      · cases hi : inE k 1 10 with
        | true => simp [firstE, whenE, h1, hi] at hF
        | false => simp [firstE, whenE, h1]
    rw [h0, if_neg hF] at HR
    have H0 := Lib.hid h0
    clear h0 hF
    go_enter Try.func9, Try.ntmps9
    go_wp2_with fail
    refine (shFault_any _ _ _).mono ?_
    rintro e w' ⟨rfl, rfl⟩
    go_wp2_with fail
    go_ret2
    rw [HR.out, H0.out]
    exact ⟨none, 0, rfl, Nat.le_refl _, Rd.nil, gb_refl _ _⟩
end Go.Proofs.Ytpddiepfolfnoaa
