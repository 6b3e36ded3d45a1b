/- near.Estimate and the reference's EstimateOf: the same fraction, the same fault. -/
import Derived.Test.YtpddiepfolfnoaaConc
namespace Go.Proofs.Ytpddiepfolfnoaa
open Go.RowKit
set_option linter.unusedVariables false

def chkAt (L : List Int) (k : Nat) : Int := firstE [whenE (decide (L.getD k 0 < 0)) 1, whenE (decide (0 < k) && decide (L.getD k 0 ≤ L.getD (k - 1) 0)) 7]
def chkTo (L : List Int) : Nat → Int
  | 0 => 0
  | k + 1 => if chkTo L k = 0 then chkAt L k else chkTo L k
def oneErr (L : List Int) (z : Int) : Int := if z < L.length then 2 else chkTo L L.length
def estErr (L M : List Int) (z : Int) : Int := if inE z 1 200 = true then (if oneErr L z = 0 then oneErr M z else oneErr L z) else 1
def both (L M : List Int) (x : Int) : Bool := L.contains x && M.contains x
def estU (L M : List Int) (z : Nat) : List Int := (Lib.compact (srtI (L ++ M))).take z
def estF (L M : List Int) (z : Int) : Nat × Nat := if estErr L M z = 0 then frac ((estU L M z.toNat).countP (both L M)) (estU L M z.toNat).length else (0, 0)

theorem chkTo_stay (L : List Int) (e : Int) (h : e ≠ 0) (k : Nat) (hk : chkTo L k = e) : ∀ n, k ≤ n → chkTo L n = e := by
  intro n hn
  induction n with
  | zero => obtain rfl : k = 0 := by omega
            exact hk
  | succ n ih =>
    by_cases h1 : k = n + 1
    · subst h1; exact hk
    · have := ih (by omega)
      simp only [chkTo]
      rw [if_neg (by rw [this]; exact h), this]
theorem chkTo_zero (L : List Int) (n : Nat) (h : chkTo L n = 0) : ∀ j, j < n → chkAt L j = 0 := by
  intro j hj
  have h1 : chkTo L (j + 1) = 0 := by
    by_cases h2 : chkTo L (j + 1) = 0
    · exact h2
    · exact absurd ((chkTo_stay L _ h2 (j + 1) rfl n hj).symm.trans h) h2
  have h0 : chkTo L j = 0 := by
    by_cases h2 : chkTo L j = 0
    · exact h2
    · exact absurd ((chkTo_stay L _ h2 j rfl n (by omega)).symm.trans h) h2
  simpa [chkTo, h0] using h1
theorem chkAt_zero {L : List Int} {k : Nat} (h : chkAt L k = 0) (hk : 0 < k) : L.getD (k - 1) 0 < L.getD k 0 := by
  unfold chkAt at h
  generalize L.getD k 0 = x at *
  generalize L.getD (k - 1) 0 = y at *
  by_cases h1 : x < 0
  · simp [whenE, firstE, h1] at h
  · by_cases h2 : x ≤ y
    · simp [whenE, firstE, h1, h2, hk] at h
    · omega
theorem chk_sorted (L : List Int) (h : chkTo L L.length = 0) : L.Pairwise (· ≤ ·) := by
  have h1 := chkTo_zero L _ h
  have h2 : ∀ d i, i + d < L.length → L.getD i 0 ≤ L.getD (i + d) 0 := by
    intro d
    induction d with
    | zero => intro i _; exact Int.le_refl _
    | succ d ih =>
      intro i hi
      have := ih i (by omega)
      have h3 := chkAt_zero (h1 (i + d + 1) (by omega)) (by omega)
      rw [Nat.add_sub_cancel] at h3
      show _ ≤ L.getD (i + d + 1) 0
      omega
  rw [List.pairwise_iff_getElem]
  intro i j hi hj hij
  have := h2 (j - i) i (by omega)
  rw [show i + (j - i) = j by omega] at this
  simpa [List.getD, hi, hj] using this
theorem inE_true {z a b : Int} (h : inE z a b = true) : a ≤ z ∧ z ≤ b := by
  simp [inE] at h
  omega

theorem own_lower {w : World} {base base' : Nat} {e : TypeId} {size : Nat} {v : Value} {n : Nat} {xs : List Value} (h : w.ownsRow base e size v n xs) (hb : base' ≤ base) : w.ownsRow base' e size v n xs :=
  ⟨h.1, h.2.imp id fun ⟨g, cap, cur, e1, e2, r⟩ => ⟨g, cap, cur, e1, Nat.le_trans hb e2, r⟩⟩
theorem two_facts {w : World} {g : Nat} {t : TypeId} (h : w.heap[g]? = some (.cells #[.int .i64 0, .int .i64 0] t (0, 0))) :
    w.cell? ⟨g, 0, none⟩ = some (.int .i64 0) ∧ w.cell? ⟨g, 1, none⟩ = some (.int .i64 0) ∧ w.frozen? ⟨g, 0, none⟩ = false ∧ w.frozen? ⟨g, 1, none⟩ = false :=
  ⟨by rw [Lib.cell_of_heap h]; rfl, by rw [Lib.cell_of_heap h]; rfl, Lib.frozen_of_heap h 0, Lib.frozen_of_heap h 1⟩
theorem set_heap {w : World} {g i : Nat} {t : TypeId} {cs : Array Value} (h : w.heap[g]? = some (.cells cs t (0, 0))) (u : Value) : (w.setCell ⟨g, i, none⟩ u).heap[g]? = some (.cells (cs.setIfInBounds i u) t (0, 0)) := by
  simp [World.setCell, Array.getElem?_modify, h]
theorem two_set {w : World} {g : Nat} {t : TypeId} (h : w.heap[g]? = some (.cells #[.int .i64 0, .int .i64 0] t (0, 0))) (x y : Value) :
    (w.setCell ⟨g, 0, none⟩ x).cell? ⟨g, 0, none⟩ = some x ∧ ((w.setCell ⟨g, 0, none⟩ x).setCell ⟨g, 1, none⟩ y).cell? ⟨g, 1, none⟩ = some y := by
  have h1 := set_heap (i := 0) h x
  have h2 := set_heap (i := 1) h1 y
  exact ⟨by rw [Lib.cell_of_heap h1]; rfl, by rw [Lib.cell_of_heap h2]; rfl⟩
theorem count_take (p : Int → Bool) (U : List Int) (j : Nat) (h : j < U.length) : (U.take (j + 1)).countP p = (U.take j).countP p + if p (U.getD j 0) then 1 else 0 := by
  have h3 : U.getD j 0 = U[j] := by simp [List.getD, h]
  rw [List.take_succ_eq_append_getElem h, List.countP_append, List.countP_singleton, h3]

set_option maxRecDepth 100000 in
set_option maxHeartbeats 4000000 in
theorem Estimate_any (A B : Option Addr) (L M : List Int) (n m c d : Nat) (z : Int) (w : World) (hL : L.length = n) (hM : M.length = m) (hrL : Rd w 0 A (L.map iv)) (hrM : Rd w 0 B (M.map iv)) (hn : n ≤ 4000000) (hm : m ≤ 4000000) :
    Calls Try.prog 12 #[.slice A n c, .slice B m d, .int .i64 z] w fun e w' => e = .returned (.tuple #[frV2 (estF L M z), .int .i64 (estErr L M z)]) ∧ w.grownBy w' none := by
  have HL := Lib.hid hL
  have HM := Lib.hid hM
  clear hL hM
  go_enter Try.func12, Try.ntmps12
  go_wp2_with fail
  refine (sizeError_any z _).mono ?_
  rintro e w' ⟨rfl, rfl⟩
  by_cases hz : inE z 1 200 = true
  · have e0 : (whenE (!inE z 1 200) 1 != 0) = false := by simp [whenE, hz]
    have HE := Lib.hid (show estErr L M z = if oneErr L z = 0 then oneErr M z else oneErr L z from by simp [estErr, hz])
    obtain ⟨hz1, hz2⟩ := inE_true hz
    clear hz
    generalize whenE (!inE z 1 200) 1 = x at *
    obtain ⟨sz, rfl⟩ := Int.eq_ofNat_of_zero_le (show 0 ≤ z by omega)
    go_wp2_with fail
    obtain ⟨W2, hW2⟩ : ∃ W2, W2 = ((w.alloc (.cells #[.int .i64 0, .int .i64 0] 35)).alloc (.cells #[.slice A n c, .slice B m d] 22)) := ⟨_, rfl⟩
    rw [← hW2]
    have hgw : w.grownBy W2 none := by rw [hW2]; exact gb_alloc (gb_alloc (gb_refl _ _) _) _
    have hsz : W2.heap.size = w.heap.size + 2 := by rw [hW2]; simp
    have hrow : Rd W2 0 (some ⟨w.heap.size + 1, 0, none⟩) [.slice A n c, .slice B m d] := by
      rw [hW2]
      have := Rd.new' (lo := 0) (w.alloc (.cells #[.int .i64 0, .int .i64 0] 35)) [.slice A n c, .slice B m d] 22 (Nat.zero_le _)
      simpa using this
    have hblk : W2.heap[w.heap.size]? = some (.cells #[.int .i64 0, .int .i64 0] 35 (0, 0)) := by
      rw [hW2, Below.heap_alloc _ _ _ (by simp)]
      exact heap_alloc_new w _
    have HW := Lib.hid hW2
    clear hW2
    have fr0 : estErr L M sz ≠ 0 → estF L M sz = (0, 0) := fun h => by simp [estF, h]
    have HF0 := Lib.hid fr0
    clear fr0
    go_loopw [32] (fun i wr => ∃ k : Nat, i = .int .i64 k ∧ k ≤ 2 ∧ W2.grownBy wr none ∧ (1 ≤ k → oneErr L sz = 0) ∧ (2 ≤ k → oneErr M sz = 0)) (fun i _ => 2 - (intOf i).toNat)
    case atStart => exact ⟨0, rfl, by omega, gb_refl _ _, by omega, by omega⟩
    case round =>
      rename World => wo
      obtain ⟨k, rfl, hk, hg, hk1, hk2⟩ := hrel
      have HK := Lib.hid (And.intro hk1 hk2)
      clear hk1 hk2
      have hgr := hgw.trans hg
      have hblk2 : wo.heap[w.heap.size]? = some (.cells #[.int .i64 0, .int .i64 0] 35 (0, 0)) := (hg.block _ (by omega) (by simp)).trans hblk
      obtain ⟨f0, f1, z0, z1⟩ := two_facts hblk2
      by_cases hlt : k < 2
      · obtain ⟨b, off, hA, _, hb, hcell⟩ := (hrow.pure hg).at_ (k := k) (by simpa using hlt)
        obtain ⟨X, AX, nX, cX, hX1, hX2, hX3, hX4, hX5, hX6⟩ : ∃ (X : List Int) (AX : Option Addr) (nX cX : Nat), [Value.slice A n c, Value.slice B m d][k]'(by simpa using hlt) = .slice AX nX cX ∧ X.length = nX ∧ Rd wo 0 AX (X.map iv) ∧ nX ≤ 4000000 ∧ (k = 0 → X = L) ∧ (k = 1 → X = M) := by
          rcases k with _ | _ | k
          · exact ⟨L, A, n, c, rfl, HL.out, hrL.pure hgr, hn, fun _ => rfl, by simp⟩
          · exact ⟨M, B, m, d, rfl, HM.out, hrM.pure hgr, hm, by simp, fun _ => rfl⟩
          · omega
        rw [hX1] at hcell
        injection hA with hA
        injection hA with hA1 hA2
        subst hA1
        have hoff : off = 0 := hA2.symm
        subst hoff
        rw [Nat.zero_add] at hcell
        have HX := Lib.hid (And.intro hX2 (And.intro hX5 hX6))
        have HO := Lib.hid (show oneErr X sz = if (sz : Int) < nX then 2 else chkTo X nX from by rw [← hX2]; rfl)
        clear hX1 hX2 hX5 hX6 hA2
        -- what a fault of this list says of the call
        have HB := Lib.hid (show oneErr X sz ≠ 0 → estErr L M sz = oneErr X sz ∧ estF L M sz = (0, 0) from by
          intro h
          have h2 : estErr L M sz = oneErr X sz := by
            rw [HE.out]
            rcases k with _ | _ | k
            · obtain rfl := HX.out.2.1 rfl; rw [if_neg h]
            · obtain rfl := HX.out.2.2 rfl; rw [if_pos (HK.out.1 (by omega))]
            · omega
          exact ⟨h2, HF0.out (by rw [h2]; exact h)⟩)
        have HN := Lib.hid (show oneErr X sz = 0 → (1 ≤ k + 1 → oneErr L sz = 0) ∧ (2 ≤ k + 1 → oneErr M sz = 0) from by
          intro h
          rcases k with _ | _ | k
          · obtain rfl := HX.out.2.1 rfl; exact ⟨fun _ => h, by omega⟩
          · obtain rfl := HX.out.2.2 rfl; exact ⟨fun _ => HK.out.1 (by omega), fun _ => h⟩
          · omega)
        by_cases hbig : sz < nX
        · have HO2 := Lib.hid (show oneErr X sz = 2 from by rw [HO.out, if_pos (by omega)])
          obtain ⟨s0, s1⟩ := two_set hblk2 (.int .i64 0) (.int .i64 0)
          go_wp2_with fail
          refine bodyPost_ret (v := .tuple #[.agg #[.int .i64 0, .int .i64 0], .int .i64 2]) (by simp [results, Try.results12, go_sem, s0, s1]) rfl ⟨?_, ?_⟩
          · obtain ⟨q1, q2⟩ := HB.out (by rw [HO2.out]; decide)
            rw [q1, q2, HO2.out]; rfl
          · exact gb_set (gb_set hgr (.inr (Nat.le_refl _)) _) (.inr (Nat.le_refl _)) _
        · have HO2 := Lib.hid (show oneErr X sz = chkTo X nX from by rw [HO.out, if_neg (by omega)])
          go_wp2_with fail
          clear f0 f1 z0 z1 hcell
          go_loopw [43] (fun i wq => ∃ j : Nat, i = .int .i64 j ∧ j ≤ nX ∧ wo.grownBy wq none ∧ chkTo X j = 0) (fun i _ => nX - (intOf i).toNat)
          case atStart => exact ⟨0, rfl, by omega, gb_refl _ _, rfl⟩
          case round =>
            obtain ⟨j, rfl, hj, hgq, hcj⟩ := hrel
            have HJ := Lib.hid hcj
            clear hcj
            by_cases hjl : j < nX
            · have hXne : X ≠ [] := by intro e; have := HX.out.1; rw [e] at this; simp at this; omega
              obtain ⟨bX, oX, rfl, hcX⟩ := rdI_get (hX3.pure hgq) hXne
              have hx := hcX j (by rw [HX.out.1]; exact hjl)
              have hy := hcX (j - 1) (by rw [HX.out.1]; omega)
              have HC := Lib.hid (show chkAt X j = firstE [whenE (decide (X.getD j 0 < 0)) 1, whenE (decide (0 < j) && decide (X.getD j 0 ≤ X.getD (j - 1) 0)) 7] from rfl)
              clear hcX hXne
              generalize X.getD j 0 = x1 at *
              generalize X.getD (j - 1) 0 = y1 at *
              -- both ways of the second test meet here
              have hmeet : ∃ b2 : Bool, b2 = (decide (0 < j) && decide (x1 ≤ y1)) := ⟨_, rfl⟩
              obtain ⟨b2, hb2⟩ := hmeet
              rw [← hb2] at HC
              by_cases hj0 : 0 < j
              · have hb3 : decide (x1 ≤ y1) = b2 := by rw [hb2]; simp [hj0]
                have HB3 := Lib.hid hb3
                clear hb2 hb3
                have hmx : max (j : Int) 1 = j := by omega
                obtain ⟨q, hq⟩ : ∃ q, j = q + 1 := ⟨j - 1, by omega⟩
                have hq2 : (j : Int) - 1 = (q : Int) := by omega
                rw [show j - 1 = q by omega] at hy
                clear hq
                go_wp2_with fail
                refine (when_any _ _ _).mono ?_
                rintro e w' ⟨rfl, rfl⟩
                go_wp2_with fail
                rw [HB3.out]
                refine (when_any _ _ _).mono ?_
                rintro e w' ⟨rfl, rfl⟩
                generalize whenE (decide (x1 < 0)) 1 = p1 at *
                generalize whenE b2 7 = p2 at *
                go_wp2_with fail
                refine (first_any _ [p1, p2] 2 2 _ rfl (by omega) (Rd.new' _ [.int .i64 p1, .int .i64 p2] _ (Nat.zero_le _))).mono ?_
                rintro e wp ⟨rfl, hwp⟩
                have hgp : wo.grownBy wp none := by rw [← hwp]; exact gb_alloc hgq _
                clear hwp
                rw [← HC.out]
                by_cases hz0 : chkAt X j = 0
                · have e1 : (chkAt X j != 0) = false := by simp [hz0]
                  have HZ := Lib.hid hz0
                  clear hz0
                  go_wp2_with fail
                  exact ⟨⟨j + 1, by go_num, by omega, hgp, by simp only [chkTo]; rw [if_pos HJ.out]; exact HZ.out⟩, by simp [intOf]; omega⟩
                · have e1 : (chkAt X j != 0) = true := by simp [hz0]
                  have HZ := Lib.hid (show oneErr X sz = chkAt X j from by rw [HO2.out]; exact chkTo_stay X _ hz0 (j + 1) (by simp only [chkTo]; rw [if_pos HJ.out]) _ hjl)
                  have HZ2 := Lib.hid hz0
                  clear hz0
                  have hblk3 := (hgp.block w.heap.size (by have := hg.size; omega) (by simp)).trans hblk2
                  obtain ⟨f0, f1, z0, z1⟩ := two_facts hblk3
                  obtain ⟨s0, s1⟩ := two_set hblk3 (.int .i64 0) (.int .i64 0)
                  go_wp2_with fail
                  refine bodyPost_ret (v := .tuple #[.agg #[.int .i64 0, .int .i64 0], .int .i64 (chkAt X j)]) (by simp [results, Try.results12, go_sem, s0, s1]) rfl ⟨?_, ?_⟩
                  · obtain ⟨q1, q2⟩ := HB.out (by rw [HZ.out]; exact HZ2.out)
                    rw [q1, q2, HZ.out]; rfl
                  · exact gb_set (gb_set (hgr.trans hgp) (.inr (Nat.le_refl _)) _) (.inr (Nat.le_refl _)) _
              · have hb3 : b2 = false := by rw [hb2]; simp [hj0]
                subst hb3
                clear hb2
                go_wp2_with fail
                refine (when_any _ _ _).mono ?_
                rintro e w' ⟨rfl, rfl⟩
                go_wp2_with fail
                refine (when_any _ _ _).mono ?_
                rintro e w' ⟨rfl, rfl⟩
                generalize whenE (decide (x1 < 0)) 1 = p1 at *
                generalize whenE false 7 = p2 at *
                go_wp2_with fail
                refine (first_any _ [p1, p2] 2 2 _ rfl (by omega) (Rd.new' _ [.int .i64 p1, .int .i64 p2] _ (Nat.zero_le _))).mono ?_
                rintro e wp ⟨rfl, hwp⟩
                have hgp : wo.grownBy wp none := by rw [← hwp]; exact gb_alloc hgq _
                clear hwp
                rw [← HC.out]
                by_cases hz0 : chkAt X j = 0
                · have e1 : (chkAt X j != 0) = false := by simp [hz0]
                  have HZ := Lib.hid hz0
                  clear hz0
                  go_wp2_with fail
                  exact ⟨⟨j + 1, by go_num, by omega, hgp, by simp only [chkTo]; rw [if_pos HJ.out]; exact HZ.out⟩, by simp [intOf]; omega⟩
                · have e1 : (chkAt X j != 0) = true := by simp [hz0]
                  have HZ := Lib.hid (show oneErr X sz = chkAt X j from by rw [HO2.out]; exact chkTo_stay X _ hz0 (j + 1) (by simp only [chkTo]; rw [if_pos HJ.out]) _ hjl)
                  have HZ2 := Lib.hid hz0
                  clear hz0
                  have hblk3 := (hgp.block w.heap.size (by have := hg.size; omega) (by simp)).trans hblk2
                  obtain ⟨f0, f1, z0, z1⟩ := two_facts hblk3
                  obtain ⟨s0, s1⟩ := two_set hblk3 (.int .i64 0) (.int .i64 0)
                  go_wp2_with fail
                  refine bodyPost_ret (v := .tuple #[.agg #[.int .i64 0, .int .i64 0], .int .i64 (chkAt X j)]) (by simp [results, Try.results12, go_sem, s0, s1]) rfl ⟨?_, ?_⟩
                  · obtain ⟨q1, q2⟩ := HB.out (by rw [HZ.out]; exact HZ2.out)
                    rw [q1, q2, HZ.out]; rfl
                  · exact gb_set (gb_set (hgr.trans hgp) (.inr (Nat.le_refl _)) _) (.inr (Nat.le_refl _)) _
            · have hje : j = nX := by omega
              go_wp2_with fail
              exact ⟨⟨k + 1, by go_num, by omega, hg.trans hgq, HN.out (by rw [HO2.out, ← hje]; exact HJ.out)⟩, by simp [intOf]; omega⟩
      · have hke : k = 2 := by omega
        have hE0 : estErr L M sz = 0 := by rw [HE.out, if_pos (HK.out.1 (by omega))]; exact HK.out.2 (by omega)
        have HFr := Lib.hid (show estF L M sz = frac ((estU L M sz).countP (both L M)) (estU L M sz).length from by simp [estF, hE0])
        have hsL : L.Pairwise (· ≤ ·) := chk_sorted L (by
          have := HK.out.1 (by omega)
          unfold oneErr at this
          split at this
          · simp at this
          · exact this)
        have hsM : M.Pairwise (· ≤ ·) := chk_sorted M (by
          have := HK.out.2 (by omega)
          unfold oneErr at this
          split at this
          · simp at this
          · exact this)
        have HS := Lib.hid (And.intro hsL hsM)
        have HE0 := Lib.hid hE0
        clear hsL hsM hE0 hke
        go_wp2_with fail
        clear f0 f1 z0 z1
        refine (concatI_any _ A B n m c d L M _ HL.out HM.out ((hrL.pure hgr).alloc _) ((hrM.pure hgr).alloc _) hn hm (Rd.new' _ [.slice A n c, .slice B m d] _ (Nat.zero_le _))).mono ?_
        rintro e w3 ⟨v3, rfl, hown3, hg3⟩
        have hg4 : wo.grownBy w3 none := (gb_alloc (gb_refl _ _) _).trans hg3
        have hown3 := own_lower hown3 (show wo.heap.size ≤ _ from by simp)
        clear hg3
        go_wp2_with fail
        refine (sortI_own _ _ _ _ _ hown3 (by omega)).mono ?_
        rintro e w4 ⟨rfl, hown4, hg5⟩
        have hg6 : wo.grownBy w4 none := gb_new hg4 hg5 (fun b hb => (hown3.lt b hb).1)
        go_wp2_with fail
        refine (compactI_own _ _ _ _ _ hown4 (by omega)).mono ?_
        rintro e w5 ⟨v5, rfl, hown5, hg7⟩
        have hg8 : wo.grownBy w5 none := gb_new hg6 hg7 (fun b hb => (hown4.lt b hb).1)
        obtain ⟨A5, c5, rfl, hc5, hr5⟩ := own_slice hown5
        have HU := Lib.hid (show estU L M sz = (Lib.compact (srtI (L ++ M))).take sz from rfl)
        clear hown3 hown4 hown5 hg5 hg6 hg7 hg4
        generalize Lib.compact (srtI (L ++ M)) = K at *
        obtain ⟨mm, hmm⟩ : ∃ mm : Nat, min sz K.length = mm := ⟨_, rfl⟩
        have hmin : min (sz : Int) (K.length : Int) = (mm : Int) := by omega
        have hm1 : mm ≤ K.length := by omega
        have hm2 : mm ≤ 200 := by omega
        have HLn := Lib.hid (show (estU L M sz).length = mm from by rw [HU.out, List.length_take]; exact hmm)
        clear hmm
        have hrU : Rd w5 0 A5 ((estU L M sz).map iv) := by rw [HU.out, List.map_take]; exact (rd_take hr5 sz).lower (Nat.zero_le _)
        clear hr5
        generalize estU L M sz = U at *
        go_wp2_with fail
        go_loopw [15, 88] (fun cn i wq => ∃ j : Nat, i = .int .i64 j ∧ j ≤ mm ∧ cn = .int .i64 ((U.take j).countP (both L M) : Nat) ∧ w5.grownBy wq none) (fun _ i _ => mm - (intOf i).toNat)
        case atStart => exact ⟨0, rfl, by omega, by simp, gb_refl _ _⟩
        case round =>
          obtain ⟨j, rfl, hj, rfl, hgq⟩ := hrel
          have hcj : (U.take j).countP (both L M) ≤ mm := Nat.le_trans List.countP_le_length (by rw [List.length_take]; omega)
          have hgA := (hgr.trans hg8).trans hgq
          by_cases hjl : j < mm
          · have hUl : j < U.length := by rw [HLn.out]; exact hjl
            obtain ⟨bU, oU, rfl, hcU⟩ := rdI_get (hrU.pure hgq) (by intro e; rw [e] at hUl; simp at hUl)
            have hx := hcU j hUl
            have HT := Lib.hid (count_take (both L M) U j hUl)
            clear hcU hUl
            generalize (U.take j).countP (both L M) = cnt at *
            generalize U.getD j 0 = x1 at *
            have HB := Lib.hid (show both L M x1 = (L.contains x1 && M.contains x1) from rfl)
            rename World => wq
            go_wp2_with fail
            refine (searchI_any A L n c x1 _ HL.out (hrL.pure hgA) HS.out.1 (by omega)).mono ?_
            rintro e w6 ⟨i1, rfl, hg9⟩
            generalize L.contains x1 = p at *
            have hgA2 := hgA.trans hg9
            go_wp2_with fail
            refine (searchI_any B M m d x1 _ HM.out (hrM.pure hgA2) HS.out.2 (by omega)).mono ?_
            rintro e w7 ⟨i2, rfl, hg10⟩
            generalize M.contains x1 = q at *
            rw [HB.out] at HT
            cases p <;> cases q
            · go_wp2_with fail
              exact ⟨⟨j + 1, by go_num, by omega, by rw [HT.out]; rfl, (hgq.trans hg9).trans hg10⟩, by simp [intOf]; omega⟩
            · go_wp2_with fail
              exact ⟨⟨j + 1, by go_num, by omega, by rw [HT.out]; rfl, (hgq.trans hg9).trans hg10⟩, by simp [intOf]; omega⟩
            · go_wp2_with fail
              exact ⟨⟨j + 1, by go_num, by omega, by rw [HT.out]; rfl, (hgq.trans hg9).trans hg10⟩, by simp [intOf]; omega⟩
            · go_wp2_with fail
              exact ⟨⟨j + 1, by go_num, by omega, by rw [HT.out]; simp, (hgq.trans hg9).trans hg10⟩, by simp [intOf]; omega⟩
          · have hjU : U.take j = U := List.take_of_length_le (by rw [HLn.out]; omega)
            rw [hjU] at hcj ⊢
            clear hjU
            rename World => wq
            rw [HLn.out] at HFr
            generalize U.countP (both L M) = cnt at *
            go_wp2_with fail
            refine (fraction_any cnt mm _ (by omega) (by omega)).mono ?_
            rintro e w6 ⟨rfl, hg9⟩
            have hgE := hgA.trans hg9
            have hblk3 := ((((hg8.trans hgq).trans hg9).block w.heap.size (by have := hg.size; omega) (by simp))).trans hblk2
            rw [← HFr.out]
            obtain ⟨p1, p2, hF⟩ : ∃ p1 p2, estF L M sz = (p1, p2) := ⟨_, _, rfl⟩
            rw [hF]
            have HF := Lib.hid hF
            clear hF
            rw [show frV2 (p1, p2) = .agg #[.int .i64 p1, .int .i64 p2] from rfl]
            obtain ⟨f0, f1, z0, z1⟩ := two_facts hblk3
            obtain ⟨s0, s1⟩ := two_set hblk3 (.int .i64 p1) (.int .i64 p2)
            go_wp2_with fail
            refine bodyPost_ret (v := .tuple #[.agg #[.int .i64 p1, .int .i64 p2], .int .i64 0]) (by simp [results, Try.results12, go_sem, s0, s1]) rfl ⟨?_, ?_⟩
            · rw [HE0.out, HF.out]; rfl
            · exact gb_set (gb_set hgE (.inr (Nat.le_refl _)) _) (.inr (Nat.le_refl _)) _
  · have HE := Lib.hid (show estErr L M z = 1 from by simp [estErr, hz])
    have HF := Lib.hid (show estF L M z = (0, 0) from by simp [estF, HE.out])
    have e0 : whenE (!inE z 1 200) 1 = 1 := by simp [whenE, hz]
    clear hz
    rw [e0]
    clear e0
    go_wp2_with fail
    refine bodyPost_ret (v := .tuple #[.agg #[.int .i64 0, .int .i64 0], .int .i64 1]) (by simp [results, Try.results12, go_sem]) rfl ⟨?_, ?_⟩
    · rw [HE.out, HF.out]; rfl
    · exact gb_alloc (gb_refl _ _) _
end Go.Proofs.Ytpddiepfolfnoaa
