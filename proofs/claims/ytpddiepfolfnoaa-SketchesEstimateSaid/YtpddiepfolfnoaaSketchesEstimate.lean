/- The walk of chaselaw1.SketchesEstimate: it returns true, and turns nothing that was there. -/
import Derived.Test.YtpddiepfolfnoaaRow
import Derived.Test.YtpddiepfolfnoaaEstR
namespace Go.Proofs.Ytpddiepfolfnoaa
open Go.RowKit
set_option linter.unusedVariables false

theorem skR_le (s : ByteArray) (k z : Int) : (skR s k z).length ≤ 200 := by
  unfold skR
  split
  · rename_i h
    obtain ⟨_, _, _, _, h5⟩ := skErr_zero h
    rw [List.length_take]
    omega
  · exact Nat.zero_le _

set_option maxRecDepth 100000 in
set_option maxHeartbeats 4000000 in
theorem sketchesEstimate_walk (a0 : Option Addr) (len0 cap0 : Nat) (z0 : List Int) (w : World) (h0 : IsRow .i64 w a0 len0 cap0 z0) :
    Calls Try.prog 3 #[.slice a0 len0 cap0] w fun e w' => e = .returned (.bool true) ∧ Below w.heap.size w w' := by
  have hst := strm_new h0
  clear h0
  obtain ⟨g, hg⟩ : ∃ g, g = w.heap.size := ⟨_, rfl⟩
  have hgl : g ≤ w.heap.size := by omega
  go_enter Try.func3, Try.ntmps3
  go_wp2_with fail
  have hgw0 : w.grownBy (w.alloc (.cells #[.slice a0 len0 cap0, .int .i64 0] 25)) none := gb_alloc (gb_refl _ _) _
  have hnw : ∀ b, some g = some b → w.heap.size ≤ b := by intro b e; injection e with e; omega
  rw [← hg] at hst ⊢
  have HG := Lib.hid hg
  have HN := Lib.hid hnw
  clear hg hnw
  generalize w.alloc (.cells #[.slice a0 len0 cap0, .int .i64 0] 25) = w0 at *
  refine (prose_any g 0 12 _ hst (by omega) (by omega)).mono ?_
  rintro e w1 ⟨s, rfl, hs1, hg1, k1, hk1, hst1⟩
  have hgw1 : w.grownBy w1 none := gb_new hgw0 hg1 HN.out
  clear hst hg1 hgw0
  go_wp2_with fail
  refine (size_any g k1 _ hst1 (by omega)).mono ?_
  rintro e w2 ⟨k, rfl, hk2, hk3, hg2, hst2⟩
  have hgw2 : w.grownBy w2 none := gb_new hgw1 hg2 HN.out
  clear hst1 hg2 hgw1
  go_wp2_with fail
  refine (pick_cells 0 201 g _ _ _ _ hst2 (by omega) (by rfl) (by rfl) (by decide) (by decide)).mono ?_
  rintro e w3 ⟨z, rfl, hz1, hz2, hg3, hst3⟩
  have hgw3 : w.grownBy w3 none := gb_new hgw2 hg3 HN.out
  clear hst2 hg3 hgw2
  go_wp2_with fail
  refine (Sketch_any s k z _ (by omega)).mono ?_
  rintro e w4 ⟨A4, c4, rfl, hc4, hr4, hg4⟩
  go_wp2_with fail
  refine (rSketch_any s k z _ (by omega)).mono ?_
  rintro e w5 ⟨A5, c5, rfl, hc5, hr5, hg5⟩
  have hle := skR_le s k z
  have hs5 := (hst3.pure hg4).pure hg5
  have hgw5 := (hgw3.trans hg4).trans hg5
  have hr4' := (hr4.pure hg5).lower (Nat.zero_le _)
  have hr5' := hr5.lower (Nat.zero_le _)
  have he1 : (skErr s k z != skErr s k z) = false := by simp
  generalize skErr s k z = E at *
  generalize skR s k z = R at *
  go_wp2_with fail
  refine (seqI_any A4 A5 R R _ _ _ _ _ rfl rfl hr4' hr5' rfl (by omega)).mono ?_
  rintro e w6 ⟨rfl, hg6⟩
  have hs6 := hs5.pure hg6
  have hgw6 := hgw5.trans hg6
  clear hr4 hr5 hr4' hr5' hs5 hgw5 hgw3 hst3 hg4 hg5 hg6
  go_wp2_with fail
  refine (numbers_any g _ z _ hs6 (by omega) (by omega) (by omega)).mono ?_
  rintro e w7 ⟨A7, c7, L, rfl, hc7, hL, hr7, hg7, k7, hk7, hs7⟩
  have hgw7 : w.grownBy w7 none := gb_new hgw6 hg7 HN.out
  clear hs6 hgw6 hg7
  go_wp2_with fail
  refine (numbers_any g _ z _ hs7 (by omega) (by omega) (by omega)).mono ?_
  rintro e w8 ⟨A8, c8, M, rfl, hc8, hM, hr8, hg8, k8, hk8, hs8⟩
  have hgw8 : w.grownBy w8 none := gb_new hgw7 hg8 HN.out
  have hrL := (hr7.far hg8 (by omega)).lower (Nat.zero_le _)
  have hrM := hr8.lower (Nat.zero_le _)
  clear hs7 hs8 hg8 hr7 hr8 hgw7
  go_wp2_with fail
  refine (Estimate_any A7 A8 L M _ _ c7 c8 z _ rfl rfl hrL hrM (by omega) (by omega)).mono ?_
  rintro e w9 ⟨rfl, hg9⟩
  obtain ⟨p1, p2, hF⟩ : ∃ p1 p2, estF L M z = (p1, p2) := ⟨_, _, rfl⟩
  have HF := Lib.hid (show frV2 (estF L M z) = .agg #[.int .i64 p1, .int .i64 p2] from by rw [hF]; rfl)
  clear hF
  rw [HF.out]
  go_wp2_with fail
  have hgw9 : w.grownBy (w9.alloc (.cells #[.int .i64 p1, .int .i64 p2] 35)) none := gb_alloc (hgw8.trans hg9) _
  have hb9 : (w9.alloc (.cells #[.int .i64 p1, .int .i64 p2] 35)).heap[w9.heap.size]? = some (.cells #[.int .i64 p1, .int .i64 p2] 35 (0, 0)) := heap_alloc_new w9 _
  have hl9 : w9.heap.size < (w9.alloc (.cells #[.int .i64 p1, .int .i64 p2] 35)).heap.size := by simp
  have hrL9 := (hrL.pure hg9).alloc (.cells #[.int .i64 p1, .int .i64 p2] 35)
  have hrM9 := (hrM.pure hg9).alloc (.cells #[.int .i64 p1, .int .i64 p2] 35)
  generalize w9.alloc (.cells #[.int .i64 p1, .int .i64 p2] 35) = v9 at *
  generalize w9.heap.size = g9 at *
  clear hg9 hgw8 hrL hrM
  refine (rEstimate_any A7 A8 L M _ _ c7 c8 z _ rfl rfl hrL9 hrM9 (by omega) (by omega)).mono ?_
  rintro e w10 ⟨rfl, hg10⟩
  have hb10 := (hg10.block g9 hl9 (by simp)).trans hb9
  have hl10 : g9 < w10.heap.size := Nat.lt_of_lt_of_le hl9 hg10.size
  have hgw10 := hgw9.trans hg10
  clear hb9 hl9 hg10 hgw9 hrL9 hrM9
  rw [HF.out]
  have hee : (estErr L M z == estErr L M z) = true := by simp
  generalize estErr L M z = er at *
  go_wp2_with fail
  have hgw11 : w.grownBy (w10.alloc (.cells #[.int .i64 p1, .int .i64 p2] 35)) none := gb_alloc hgw10 _
  have hb11 : (w10.alloc (.cells #[.int .i64 p1, .int .i64 p2] 35)).heap[w10.heap.size]? = some (.cells #[.int .i64 p1, .int .i64 p2] 35 (0, 0)) := heap_alloc_new w10 _
  have hb12 := (Below.heap_alloc w10 (.cells #[.int .i64 p1, .int .i64 p2] 35) g9 hl10).trans hb10
  have hl11 : w10.heap.size < (w10.alloc (.cells #[.int .i64 p1, .int .i64 p2] 35)).heap.size := by simp
  generalize w10.alloc (.cells #[.int .i64 p1, .int .i64 p2] 35) = v10 at *
  generalize w10.heap.size = g10 at *
  refine (nears_any _).mono ?_
  rintro e w11 ⟨rfl, hg11⟩
  have hb13 := (hg11.block g10 hl11 (by simp)).trans hb11
  have hb14 := (hg11.block g9 (by omega) (by simp)).trans hb12
  have hgE := hgw11.trans hg11
  clear hb10 hb11 hb12 hg11 hgw11 hgw10
  have c0 : w11.cell? ⟨g9, 0, none⟩ = some (.int .i64 p1) := by rw [Lib.cell_of_heap hb14]; rfl
  have c1 : w11.cell? ⟨g9, 1, none⟩ = some (.int .i64 p2) := by rw [Lib.cell_of_heap hb14]; rfl
  have d0 : w11.cell? ⟨g10, 0, none⟩ = some (.int .i64 p1) := by rw [Lib.cell_of_heap hb13]; rfl
  have d1 : w11.cell? ⟨g10, 1, none⟩ = some (.int .i64 p2) := by rw [Lib.cell_of_heap hb13]; rfl
  go_wp2_with fail
  go_ret
  exact ⟨rfl, gb_to_below hgE⟩
end Go.Proofs.Ytpddiepfolfnoaa
