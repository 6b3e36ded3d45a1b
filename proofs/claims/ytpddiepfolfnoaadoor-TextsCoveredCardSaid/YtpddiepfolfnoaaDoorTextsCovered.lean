
/- The law TextsCovered: it returns true. -/
import Derived.Test.YtpddiepfolfnoaaDoorM8
namespace Go.Proofs.YtpddiepfolfnoaaDoor
open Go.RowKit
set_option linter.unusedVariables false
set_option linter.unusedSimpArgs false
set_option linter.defProp false

/- paperchase/chaselaw1.TextsCovered -/
def ir_chaselaw1_TextsCovered : IC :=
  (.seq (.reg [⟨some 2, .mov (.c (.bool false)), none⟩])
    (.seq (.reg [⟨some 17, .mov (.t 0), none⟩,
      ⟨some 18, .bld [.nl 1, .int .i64 0] [(0, 1, .t 17)], none⟩,
      ⟨some 19, .box 25 (.t 18), none⟩,
      ⟨some 3, .mov (.t 19), none⟩])
    (.seq (.reg [⟨some 20, .mov (.t 3), none⟩,
      ⟨some 21, .call 36 [.t 20], none⟩,
      ⟨some 4, .mov (.t 21), none⟩])
    (.seq (.reg [⟨some 22, .mov (.t 3), none⟩,
      ⟨some 23, .mov (.t 4), none⟩,
      ⟨some 24, .sln (.t 23), none⟩,
      ⟨some 25, .mn (.t 24) (.c (.int .i64 60)), none⟩,
      ⟨some 26, .call 21 [.t 22, .t 25], none⟩,
      ⟨some 5, .mov (.t 26), none⟩])
    (.seq (.reg [⟨some 28, .mov (.t 4), none⟩,
      ⟨some 29, .mov (.t 5), none⟩,
      ⟨none, .fz (.t 28), none⟩,
      ⟨none, .fz (.t 29), none⟩,
      ⟨some 30, .call 43 [.t 28, .t 29], none⟩,
      ⟨some 27, .mov (.t 30), none⟩,
      ⟨some 31, .ext 0 (.t 27), none⟩,
      ⟨some 32, .ext 1 (.t 27), none⟩,
      ⟨some 6, .mov (.t 31), none⟩,
      ⟨some 7, .mov (.t 32), none⟩])
    (.seq (.reg [⟨some 34, .mov (.t 4), none⟩,
      ⟨some 35, .mov (.t 5), none⟩,
      ⟨some 36, .call 44 [.t 34, .t 35], none⟩,
      ⟨some 33, .mov (.t 36), none⟩,
      ⟨some 37, .ext 0 (.t 33), none⟩,
      ⟨some 38, .ext 1 (.t 33), none⟩,
      ⟨some 8, .mov (.t 37), none⟩,
      ⟨some 9, .mov (.t 38), none⟩])
    (.seq (.reg [⟨some 40, .mov (.t 4), none⟩,
      ⟨some 41, .mov (.t 5), none⟩,
      ⟨none, .fz (.t 40), none⟩,
      ⟨none, .fz (.t 41), none⟩,
      ⟨some 42, .call 45 [.t 40, .t 41], none⟩,
      ⟨some 39, .mov (.t 42), none⟩,
      ⟨some 43, .ext 0 (.t 39), none⟩,
      ⟨some 44, .ext 1 (.t 39), none⟩,
      ⟨some 10, .mov (.t 43), none⟩,
      ⟨some 11, .mov (.t 44), none⟩])
    (.seq (.reg [⟨some 46, .mov (.t 4), none⟩,
      ⟨some 47, .mov (.t 5), none⟩,
      ⟨none, .fz (.t 46), none⟩,
      ⟨none, .fz (.t 47), none⟩,
      ⟨some 48, .call 46 [.t 46, .t 47], none⟩,
      ⟨some 45, .mov (.t 48), none⟩,
      ⟨some 49, .ext 0 (.t 45), none⟩,
      ⟨some 50, .ext 1 (.t 45), none⟩,
      ⟨some 12, .mov (.t 49), none⟩,
      ⟨some 13, .mov (.t 50), none⟩])
    (.seq (.seq (.reg [⟨some 51, .mov (.t 4), none⟩,
      ⟨some 52, .mov (.t 5), none⟩,
      ⟨some 53, .call 47 [.t 51, .t 52], none⟩,
      ⟨some 14, .mov (.t 53), none⟩])
    (.seq (.reg [⟨some 54, .mov (.t 14), none⟩,
      ⟨some 55, .bin .neq (.t 54) (.c (.int .i64 0)), none⟩])
    (.cond (.t 55) (.seq (.reg [⟨some 56, .call 17 [], none⟩,
      ⟨some 57, .mov (.t 56), none⟩,
      ⟨some 58, .mov (.t 7), (some (57, true))⟩,
      ⟨some 59, .mov (.t 14), (some (57, true))⟩,
      ⟨some 60, .bin .eql (.t 58) (.t 59), (some (57, true))⟩,
      ⟨some 61, .pick (.t 57) (.t 60) (.c (.bool false)), none⟩,
      ⟨some 62, .mov (.t 61), none⟩,
      ⟨some 63, .mov (.t 9), (some (62, true))⟩,
      ⟨some 64, .mov (.t 14), (some (62, true))⟩,
      ⟨some 65, .bin .eql (.t 63) (.t 64), (some (62, true))⟩,
      ⟨some 66, .pick (.t 62) (.t 65) (.c (.bool false)), none⟩,
      ⟨some 67, .mov (.t 66), none⟩,
      ⟨some 68, .mov (.t 11), (some (67, true))⟩,
      ⟨some 69, .mov (.t 14), (some (67, true))⟩,
      ⟨some 70, .bin .eql (.t 68) (.t 69), (some (67, true))⟩,
      ⟨some 71, .pick (.t 67) (.t 70) (.c (.bool false)), none⟩,
      ⟨some 72, .mov (.t 71), none⟩,
      ⟨some 73, .mov (.t 13), (some (72, true))⟩,
      ⟨some 74, .mov (.t 14), (some (72, true))⟩,
      ⟨some 75, .bin .eql (.t 73) (.t 74), (some (72, true))⟩,
      ⟨some 76, .pick (.t 72) (.t 75) (.c (.bool false)), none⟩,
      ⟨some 2, .mov (.t 76), none⟩])
    .ret) .skip)))
    (.seq (.reg [⟨some 78, .mov (.t 4), none⟩,
      ⟨some 79, .mov (.t 5), none⟩,
      ⟨none, .fz (.t 78), none⟩,
      ⟨none, .fz (.t 79), none⟩,
      ⟨some 80, .call 48 [.t 78, .t 79], none⟩,
      ⟨some 77, .mov (.t 80), none⟩,
      ⟨some 81, .ext 0 (.t 77), none⟩,
      ⟨some 82, .ext 1 (.t 77), none⟩,
      ⟨some 15, .mov (.t 81), none⟩,
      ⟨some 16, .mov (.t 82), none⟩])
    (.seq (.reg [⟨some 83, .call 17 [], none⟩,
      ⟨some 84, .mov (.t 83), none⟩,
      ⟨some 85, .mov (.t 7), (some (84, true))⟩,
      ⟨some 86, .bin .eql (.t 85) (.c (.int .i64 0)), (some (84, true))⟩,
      ⟨some 87, .pick (.t 84) (.t 86) (.c (.bool false)), none⟩,
      ⟨some 88, .mov (.t 87), none⟩,
      ⟨some 89, .mov (.t 9), (some (88, true))⟩,
      ⟨some 90, .bin .eql (.t 89) (.c (.int .i64 0)), (some (88, true))⟩,
      ⟨some 91, .pick (.t 88) (.t 90) (.c (.bool false)), none⟩,
      ⟨some 92, .mov (.t 91), none⟩,
      ⟨some 93, .mov (.t 11), (some (92, true))⟩,
      ⟨some 94, .bin .eql (.t 93) (.c (.int .i64 0)), (some (92, true))⟩,
      ⟨some 95, .pick (.t 92) (.t 94) (.c (.bool false)), none⟩,
      ⟨some 96, .mov (.t 95), none⟩,
      ⟨some 97, .mov (.t 6), (some (96, true))⟩,
      ⟨some 98, .mov (.t 4), (some (96, true))⟩,
      ⟨some 99, .mov (.t 5), (some (96, true))⟩,
      ⟨none, .fz (.t 98), none⟩,
      ⟨none, .fz (.t 99), none⟩,
      ⟨some 100, .call 49 [.t 98, .t 99], (some (96, true))⟩,
      ⟨some 101, .call 27 [.t 97, .t 100], (some (96, true))⟩,
      ⟨some 102, .pick (.t 96) (.t 101) (.c (.bool false)), none⟩,
      ⟨some 103, .mov (.t 102), none⟩,
      ⟨some 104, .mov (.t 8), (some (103, true))⟩,
      ⟨some 105, .mov (.t 4), (some (103, true))⟩,
      ⟨some 106, .mov (.t 5), (some (103, true))⟩,
      ⟨some 107, .call 50 [.t 105, .t 106], (some (103, true))⟩,
      ⟨some 108, .bin .eql (.t 104) (.t 107), (some (103, true))⟩,
      ⟨some 109, .pick (.t 103) (.t 108) (.c (.bool false)), none⟩,
      ⟨some 110, .mov (.t 109), none⟩,
      ⟨some 111, .mov (.t 10), (some (110, true))⟩,
      ⟨some 112, .mov (.t 4), (some (110, true))⟩,
      ⟨some 113, .mov (.t 5), (some (110, true))⟩,
      ⟨none, .fz (.t 112), none⟩,
      ⟨none, .fz (.t 113), none⟩,
      ⟨some 114, .call 51 [.t 112, .t 113], (some (110, true))⟩,
      ⟨some 115, .call 18 [.t 111, .t 114], (some (110, true))⟩,
      ⟨some 116, .pick (.t 110) (.t 115) (.c (.bool false)), none⟩,
      ⟨some 117, .mov (.t 116), none⟩,
      ⟨some 118, .mov (.t 13), (some (117, true))⟩,
      ⟨some 119, .mov (.t 16), (some (117, true))⟩,
      ⟨some 120, .bin .eql (.t 118) (.t 119), (some (117, true))⟩,
      ⟨some 121, .pick (.t 117) (.t 120) (.c (.bool false)), none⟩,
      ⟨some 122, .mov (.t 121), none⟩,
      ⟨some 123, .mov (.t 12), (some (122, true))⟩,
      ⟨some 124, .mov (.t 15), (some (122, true))⟩,
      ⟨some 125, .call 27 [.t 123, .t 124], (some (122, true))⟩,
      ⟨some 126, .pick (.t 122) (.t 125) (.c (.bool false)), none⟩,
      ⟨some 2, .mov (.t 126), none⟩])
    .ret)))))))))))
def rs_chaselaw1_TextsCovered : List IRes := [.t 2]
theorem ck_chaselaw1_TextsCovered : chkF Tryd.prog Tryd.f7 ir_chaselaw1_TextsCovered rs_chaselaw1_TextsCovered 127 = true := by kernel_rfl

theorem fewF_len (l : List (Int × Int)) : (fewF l).1.length ≤ 1000 := by
  unfold fewF
  split
  · simp
  · simp only; omega
theorem text_valid {s : List UInt8} (h : textE s = true) : Lib.validD s = true := by
  simp only [textE, visE, Bool.and_eq_true] at h
  exact h.1.2
theorem seenF_len (s : List UInt8) (l : List (Int × Int)) (hs : s.length ≤ 20001) : (seenF s l).length ≤ 1000000000 := by
  unfold seenF
  rw [List.length_flatMap]
  have hR := tab_spans_len s.length (fun j => !cov (pointsF s l) j)
  have : ∀ R : List (Int × Int), (R.map fun g => (wordsF (prt s g)).length).sum ≤ R.length * (s.length + 1) := by
    intro R
    induction R with
    | nil => simp
    | cons r R ih =>
      have h1 := wordsF_len (prt s r)
      have h2 := prt_len s r
      simp only [List.map_cons, List.sum_cons, List.length_cons, Nat.succ_mul]
      omega
  refine Nat.le_trans (this _) ?_
  refine Nat.le_trans (Nat.mul_le_mul (Nat.le_trans hR hs) (show s.length + 1 ≤ 20002 by omega)) (by decide)
theorem textsCovered_ok (z : List Int) (hl : z.length ≤ 9223372036854775807) : PCall Tryd.prog E0 7 [ints z] (· = .bool true) := by
  refine pcallF mixed Tryd.func7 ck_chaselaw1_TextsCovered ?_
  simp only [a0, l0, OS.ao, List.map_cons, List.map_nil, List.length_cons, List.length_nil, List.cons_append, List.nil_append, Nat.reduceSub, Nat.reduceAdd, List.replicate_succ, List.replicate_zero, ir_chaselaw1_TextsCovered, rs_chaselaw1_TextsCovered, ZZ, Za, Zb, Zc, Zd, Ze, Zf, Zg, Zh, rd, AV.un, AV.unA, AV.ad, Zi, Zj, Zk, Zl, Zm, Zn, Zo, Zp, Zq, Zr, Zs, Zt, Zu, Zv, Zw, Zx, Zy, Zz, Zaa, Zab, Zac, Zad, wk1, wk, Zae, Zaf, Zag, Zah, Zai, Zaj, Zak, Zal, AV.kill, AO.kill, AV.thaw, AO.thaw, Zam, Zan, Zao, Zap, Zaq, Zar, Zas, Zat, Zau, ite_true, ite_false, reduceCtorEq, Nat.reduceAdd, Nat.reduceMul, Nat.reduceLeDiff, Nat.reduceLT, Nat.reduceEqDiff, forall_const]
  simp only [ints, ZZ, Za, Zb, Zc, Zd, Ze, Zf, Zg, Zh, rd, AV.un, AV.unA, AV.ad, Zi, Zj, Zk, Zl, Zm, Zn, Zo, Zp, Zq, Zr, Zs, Zt, Zu, Zv, Zw, Zx, Zy, Zz, Zaa, Zab, Zac, Zad, wk1, wk, Zae, Zaf, Zag, Zah, Zai, Zaj, Zak, Zal, AV.kill, AO.kill, AV.thaw, AO.thaw, Zam, Zan, Zao, Zap, Zaq, Zar, Zas, Zat, Zau, ite_true, ite_false, reduceCtorEq, Nat.reduceAdd, Nat.reduceMul, Nat.reduceLeDiff, Nat.reduceLT, Nat.reduceEqDiff, forall_const]
  refine useS (k := .l 19) (Memo_ok z 0 (by omega) hl) rfl rfl rfl (by simp only [ZZ, Za, Zb, Zc, Zd, Ze, Zf, Zg, Zh, rd, AV.un, AV.unA, AV.ad, Zi, Zj, Zk, Zl, Zm, Zn, Zo, Zp, Zq, Zr, Zs, Zt, Zu, Zv, Zw, Zx, Zy, Zz, Zaa, Zab, Zac, Zad, wk1, wk, Zae, Zaf, Zag, Zah, Zai, Zaj, Zak, Zal, AV.kill, AO.kill, AV.thaw, AO.thaw, Zam, Zan, Zao, Zap, Zaq, Zar, Zas, Zat, Zau, ite_true, ite_false, reduceCtorEq, Nat.reduceAdd, Nat.reduceMul, Nat.reduceLeDiff, Nat.reduceLT, Nat.reduceEqDiff, forall_const]) ?_
  rintro x cs' ⟨t, k1, rfl, ht, rfl, hk1⟩
  simp only [ZZ, Za, Zb, Zc, Zd, Ze, Zf, Zg, Zh, rd, AV.un, AV.unA, AV.ad, Zi, Zj, Zk, Zl, Zm, Zn, Zo, Zp, Zq, Zr, Zs, Zt, Zu, Zv, Zw, Zx, Zy, Zz, Zaa, Zab, Zac, Zad, wk1, wk, Zae, Zaf, Zag, Zah, Zai, Zaj, Zak, Zal, AV.kill, AO.kill, AV.thaw, AO.thaw, Zam, Zan, Zao, Zap, Zaq, Zar, Zas, Zat, Zau, ite_true, ite_false, reduceCtorEq, Nat.reduceAdd, Nat.reduceMul, Nat.reduceLeDiff, Nat.reduceLT, Nat.reduceEqDiff, forall_const]
  refine useSF (k := .l 19) (AnySpans_ok z k1 (min (t.length : Int) 60) (by omega) hl (by omega) (by omega)) rfl rfl rfl (by simp only [ZZ, Za, Zb, Zc, Zd, Ze, Zf, Zg, Zh, rd, AV.un, AV.unA, AV.ad, Zi, Zj, Zk, Zl, Zm, Zn, Zo, Zp, Zq, Zr, Zs, Zt, Zu, Zv, Zw, Zx, Zy, Zz, Zaa, Zab, Zac, Zad, wk1, wk, Zae, Zaf, Zag, Zah, Zai, Zaj, Zak, Zal, AV.kill, AO.kill, AV.thaw, AO.thaw, Zam, Zan, Zao, Zap, Zaq, Zar, Zas, Zat, Zau, ite_true, ite_false, reduceCtorEq, Nat.reduceAdd, Nat.reduceMul, Nat.reduceLeDiff, Nat.reduceLT, Nat.reduceEqDiff, forall_const]) ?_
  rintro es cs' ⟨c, k2, rfl, hc, rfl, hk2⟩
  simp only [ZZ, Za, Zb, Zc, Zd, Ze, Zf, Zg, Zh, rd, AV.un, AV.unA, AV.ad, Zi, Zj, Zk, Zl, Zm, Zn, Zo, Zp, Zq, Zr, Zs, Zt, Zu, Zv, Zw, Zx, Zy, Zz, Zaa, Zab, Zac, Zad, wk1, wk, Zae, Zaf, Zag, Zah, Zai, Zaj, Zak, Zal, AV.kill, AO.kill, AV.thaw, AO.thaw, Zam, Zan, Zao, Zap, Zaq, Zar, Zas, Zat, Zau, ite_true, ite_false, reduceCtorEq, Nat.reduceAdd, Nat.reduceMul, Nat.reduceLeDiff, Nat.reduceLT, Nat.reduceEqDiff, forall_const]
  refine use1 (Widen_ok t c (by omega) (by omega)) rfl (.inl rfl) ?_
  simp only [ZZ, Za, Zb, Zc, Zd, Ze, Zf, Zg, Zh, rd, AV.un, AV.unA, AV.ad, Zi, Zj, Zk, Zl, Zm, Zn, Zo, Zp, Zq, Zr, Zs, Zt, Zu, Zv, Zw, Zx, Zy, Zz, Zaa, Zab, Zac, Zad, wk1, wk, Zae, Zaf, Zag, Zah, Zai, Zaj, Zak, Zal, AV.kill, AO.kill, AV.thaw, AO.thaw, Zam, Zan, Zao, Zap, Zaq, Zar, Zas, Zat, Zau, ite_true, ite_false, reduceCtorEq, Nat.reduceAdd, Nat.reduceMul, Nat.reduceLeDiff, Nat.reduceLT, Nat.reduceEqDiff, forall_const]
  refine use1 (Redact_ok t c (by omega) (by omega)) rfl (.inl rfl) ?_
  simp only [ZZ, Za, Zb, Zc, Zd, Ze, Zf, Zg, Zh, rd, AV.un, AV.unA, AV.ad, Zi, Zj, Zk, Zl, Zm, Zn, Zo, Zp, Zq, Zr, Zs, Zt, Zu, Zv, Zw, Zx, Zy, Zz, Zaa, Zab, Zac, Zad, wk1, wk, Zae, Zaf, Zag, Zah, Zai, Zaj, Zak, Zal, AV.kill, AO.kill, AV.thaw, AO.thaw, Zam, Zan, Zao, Zap, Zaq, Zar, Zas, Zat, Zau, ite_true, ite_false, reduceCtorEq, Nat.reduceAdd, Nat.reduceMul, Nat.reduceLeDiff, Nat.reduceLT, Nat.reduceEqDiff, forall_const]
  refine use1 (Seen_ok t c (by omega) (by omega)) rfl (.inl rfl) ?_
  simp only [ZZ, Za, Zb, Zc, Zd, Ze, Zf, Zg, Zh, rd, AV.un, AV.unA, AV.ad, Zi, Zj, Zk, Zl, Zm, Zn, Zo, Zp, Zq, Zr, Zs, Zt, Zu, Zv, Zw, Zx, Zy, Zz, Zaa, Zab, Zac, Zad, wk1, wk, Zae, Zaf, Zag, Zah, Zai, Zaj, Zak, Zal, AV.kill, AO.kill, AV.thaw, AO.thaw, Zam, Zan, Zao, Zap, Zaq, Zar, Zas, Zat, Zau, ite_true, ite_false, reduceCtorEq, Nat.reduceAdd, Nat.reduceMul, Nat.reduceLeDiff, Nat.reduceLT, Nat.reduceEqDiff, forall_const]
  refine use1 (Leaks_ok t c (by omega) (by omega)) rfl (.inl rfl) ?_
  by_cases h : tErr t c = 0
  · obtain ⟨h1, h2, h3⟩ := tErr_zero h
    have hb := spansF_in h3
    have hv := text_valid h2
    simp only [if_pos h]
    simp only [ZZ, Za, Zb, Zc, Zd, Ze, Zf, Zg, Zh, rd, AV.un, AV.unA, AV.ad, Zi, Zj, Zk, Zl, Zm, Zn, Zo, Zp, Zq, Zr, Zs, Zt, Zu, Zv, Zw, Zx, Zy, Zz, Zaa, Zab, Zac, Zad, wk1, wk, Zae, Zaf, Zag, Zah, Zai, Zaj, Zak, Zal, AV.kill, AO.kill, AV.thaw, AO.thaw, Zam, Zan, Zao, Zap, Zaq, Zar, Zas, Zat, Zau, ite_true, ite_false, reduceCtorEq, Nat.reduceAdd, Nat.reduceMul, Nat.reduceLeDiff, Nat.reduceLT, Nat.reduceEqDiff, forall_const]
    refine use1 (CoverFault_ok t c (by omega) (by omega)) rfl (.inl rfl) ?_
    rw [h]
    simp only [ZZ, Za, Zb, Zc, Zd, Ze, Zf, Zg, Zh, rd, AV.un, AV.unA, AV.ad, Zi, Zj, Zk, Zl, Zm, Zn, Zo, Zp, Zq, Zr, Zs, Zt, Zu, Zv, Zw, Zx, Zy, Zz, Zaa, Zab, Zac, Zad, wk1, wk, Zae, Zaf, Zag, Zah, Zai, Zaj, Zak, Zal, AV.kill, AO.kill, AV.thaw, AO.thaw, Zam, Zan, Zao, Zap, Zaq, Zar, Zas, Zat, Zau, ite_true, ite_false, reduceCtorEq, Nat.reduceAdd, Nat.reduceMul, Nat.reduceLeDiff, Nat.reduceLT, Nat.reduceEqDiff, forall_const]
    refine br ?_ ?_
    · intro h5
      simp at h5
    · intro _
      simp only [ZZ, Za, Zb, Zc, Zd, Ze, Zf, Zg, Zh, rd, AV.un, AV.unA, AV.ad, Zi, Zj, Zk, Zl, Zm, Zn, Zo, Zp, Zq, Zr, Zs, Zt, Zu, Zv, Zw, Zx, Zy, Zz, Zaa, Zab, Zac, Zad, wk1, wk, Zae, Zaf, Zag, Zah, Zai, Zaj, Zak, Zal, AV.kill, AO.kill, AV.thaw, AO.thaw, Zam, Zan, Zao, Zap, Zaq, Zar, Zas, Zat, Zau, ite_true, ite_false, reduceCtorEq, Nat.reduceAdd, Nat.reduceMul, Nat.reduceLeDiff, Nat.reduceLT, Nat.reduceEqDiff, forall_const]
      refine use1 (LeaksOf_ok t c (by omega) (by omega) hv hb) rfl (.inl rfl) ?_
      simp only [ZZ, Za, Zb, Zc, Zd, Ze, Zf, Zg, Zh, rd, AV.un, AV.unA, AV.ad, Zi, Zj, Zk, Zl, Zm, Zn, Zo, Zp, Zq, Zr, Zs, Zt, Zu, Zv, Zw, Zx, Zy, Zz, Zaa, Zab, Zac, Zad, wk1, wk, Zae, Zaf, Zag, Zah, Zai, Zaj, Zak, Zal, AV.kill, AO.kill, AV.thaw, AO.thaw, Zam, Zan, Zao, Zap, Zaq, Zar, Zas, Zat, Zau, ite_true, ite_false, reduceCtorEq, Nat.reduceAdd, Nat.reduceMul, Nat.reduceLeDiff, Nat.reduceLT, Nat.reduceEqDiff, forall_const]
      refine use1 privileges_ok rfl (.inl rfl) ?_
      simp only [ZZ, Za, Zb, Zc, Zd, Ze, Zf, Zg, Zh, rd, AV.un, AV.unA, AV.ad, Zi, Zj, Zk, Zl, Zm, Zn, Zo, Zp, Zq, Zr, Zs, Zt, Zu, Zv, Zw, Zx, Zy, Zz, Zaa, Zab, Zac, Zad, wk1, wk, Zae, Zaf, Zag, Zah, Zai, Zaj, Zak, Zal, AV.kill, AO.kill, AV.thaw, AO.thaw, Zam, Zan, Zao, Zap, Zaq, Zar, Zas, Zat, Zau, ite_true, ite_false, reduceCtorEq, Nat.reduceAdd, Nat.reduceMul, Nat.reduceLeDiff, Nat.reduceLT, Nat.reduceEqDiff, forall_const]
      ((repeat' (with_reducible apply And.intro)) <;> try ((first | first | assumption | trivial | exact (fun hq => by rw [hq]; rfl) | exact i64_of (by omega) (by omega) | omega | (simp; done) | (simp; omega) | (intro hsc; have hs0 := hsc; (try have hsd := of_decide_eq_true hsc); (try simp only [Bool.not_eq_true', Bool.or_eq_false_iff, Bool.and_eq_true, Bool.or_eq_true, decide_eq_true_eq, decide_eq_false_iff_not] at hsc); (repeat' (with_reducible apply And.intro)) <;> (first | assumption | trivial | exact (fun hq => by rw [hq]; rfl) | exact i64_of (by omega) (by omega) | omega | (simp; done) | (simp; omega) | (intro hse; simp [hse, hs0]; done) | (intro hse; simp only [hse, hs0, Bool.true_and, Bool.and_true, Bool.not_false, Bool.not_true, Bool.and_self]; done))))))
      refine useG (fun _ => WidenOf_ok t c (by omega) (by omega) hb) rfl (.inl rfl) ?_
      simp only [ZZ, Za, Zb, Zc, Zd, Ze, Zf, Zg, Zh, rd, AV.un, AV.unA, AV.ad, Zi, Zj, Zk, Zl, Zm, Zn, Zo, Zp, Zq, Zr, Zs, Zt, Zu, Zv, Zw, Zx, Zy, Zz, Zaa, Zab, Zac, Zad, wk1, wk, Zae, Zaf, Zag, Zah, Zai, Zaj, Zak, Zal, AV.kill, AO.kill, AV.thaw, AO.thaw, Zam, Zan, Zao, Zap, Zaq, Zar, Zas, Zat, Zau, ite_true, ite_false, reduceCtorEq, Nat.reduceAdd, Nat.reduceMul, Nat.reduceLeDiff, Nat.reduceLT, Nat.reduceEqDiff, forall_const]
      ((repeat' (with_reducible apply And.intro)) <;> try ((first | first | assumption | trivial | exact (fun hq => by rw [hq]; rfl) | exact i64_of (by omega) (by omega) | omega | (simp; done) | (simp; omega) | (intro hsc; have hs0 := hsc; (try have hsd := of_decide_eq_true hsc); (try simp only [Bool.not_eq_true', Bool.or_eq_false_iff, Bool.and_eq_true, Bool.or_eq_true, decide_eq_true_eq, decide_eq_false_iff_not] at hsc); (repeat' (with_reducible apply And.intro)) <;> (first | assumption | trivial | exact (fun hq => by rw [hq]; rfl) | exact i64_of (by omega) (by omega) | omega | (simp; done) | (simp; omega) | (intro hse; simp [hse, hs0]; done) | (intro hse; simp only [hse, hs0, Bool.true_and, Bool.and_true, Bool.not_false, Bool.not_true, Bool.and_self]; done))))))
      refine useG (fun _ => EqualS_ok _ _ (by unfold widenF; have := tab_spans_len t.length (cov (c.map (widF t))); omega)) rfl (.inl rfl) ?_
      simp only [ZZ, Za, Zb, Zc, Zd, Ze, Zf, Zg, Zh, rd, AV.un, AV.unA, AV.ad, Zi, Zj, Zk, Zl, Zm, Zn, Zo, Zp, Zq, Zr, Zs, Zt, Zu, Zv, Zw, Zx, Zy, Zz, Zaa, Zab, Zac, Zad, wk1, wk, Zae, Zaf, Zag, Zah, Zai, Zaj, Zak, Zal, AV.kill, AO.kill, AV.thaw, AO.thaw, Zam, Zan, Zao, Zap, Zaq, Zar, Zas, Zat, Zau, ite_true, ite_false, reduceCtorEq, Nat.reduceAdd, Nat.reduceMul, Nat.reduceLeDiff, Nat.reduceLT, Nat.reduceEqDiff, forall_const]
      ((repeat' (with_reducible apply And.intro)) <;> try ((first | first | assumption | trivial | exact (fun hq => by rw [hq]; rfl) | exact i64_of (by omega) (by omega) | omega | (simp; done) | (simp; omega) | (intro hsc; have hs0 := hsc; (try have hsd := of_decide_eq_true hsc); (try simp only [Bool.not_eq_true', Bool.or_eq_false_iff, Bool.and_eq_true, Bool.or_eq_true, decide_eq_true_eq, decide_eq_false_iff_not] at hsc); (repeat' (with_reducible apply And.intro)) <;> (first | assumption | trivial | exact (fun hq => by rw [hq]; rfl) | exact i64_of (by omega) (by omega) | omega | (simp; done) | (simp; omega) | (intro hse; simp [hse, hs0]; done) | (intro hse; simp only [hse, hs0, Bool.true_and, Bool.and_true, Bool.not_false, Bool.not_true, Bool.and_self]; done))))))
      refine useG (fun _ => RedactOf_ok t c (by omega) (by omega) hv hb) rfl (.inl rfl) ?_
      simp only [ZZ, Za, Zb, Zc, Zd, Ze, Zf, Zg, Zh, rd, AV.un, AV.unA, AV.ad, Zi, Zj, Zk, Zl, Zm, Zn, Zo, Zp, Zq, Zr, Zs, Zt, Zu, Zv, Zw, Zx, Zy, Zz, Zaa, Zab, Zac, Zad, wk1, wk, Zae, Zaf, Zag, Zah, Zai, Zaj, Zak, Zal, AV.kill, AO.kill, AV.thaw, AO.thaw, Zam, Zan, Zao, Zap, Zaq, Zar, Zas, Zat, Zau, ite_true, ite_false, reduceCtorEq, Nat.reduceAdd, Nat.reduceMul, Nat.reduceLeDiff, Nat.reduceLT, Nat.reduceEqDiff, forall_const]
      ((repeat' (with_reducible apply And.intro)) <;> try ((first | first | assumption | trivial | exact (fun hq => by rw [hq]; rfl) | exact i64_of (by omega) (by omega) | omega | (simp; done) | (simp; omega) | (intro hsc; have hs0 := hsc; (try have hsd := of_decide_eq_true hsc); (try simp only [Bool.not_eq_true', Bool.or_eq_false_iff, Bool.and_eq_true, Bool.or_eq_true, decide_eq_true_eq, decide_eq_false_iff_not] at hsc); (repeat' (with_reducible apply And.intro)) <;> (first | assumption | trivial | exact (fun hq => by rw [hq]; rfl) | exact i64_of (by omega) (by omega) | omega | (simp; done) | (simp; omega) | (intro hse; simp [hse, hs0]; done) | (intro hse; simp only [hse, hs0, Bool.true_and, Bool.and_true, Bool.not_false, Bool.not_true, Bool.and_self]; done))))))
      refine useG (fun _ => SeenOf_ok t c (by omega) (by omega) hv hb) rfl (.inl rfl) ?_
      simp only [ZZ, Za, Zb, Zc, Zd, Ze, Zf, Zg, Zh, rd, AV.un, AV.unA, AV.ad, Zi, Zj, Zk, Zl, Zm, Zn, Zo, Zp, Zq, Zr, Zs, Zt, Zu, Zv, Zw, Zx, Zy, Zz, Zaa, Zab, Zac, Zad, wk1, wk, Zae, Zaf, Zag, Zah, Zai, Zaj, Zak, Zal, AV.kill, AO.kill, AV.thaw, AO.thaw, Zam, Zan, Zao, Zap, Zaq, Zar, Zas, Zat, Zau, ite_true, ite_false, reduceCtorEq, Nat.reduceAdd, Nat.reduceMul, Nat.reduceLeDiff, Nat.reduceLT, Nat.reduceEqDiff, forall_const]
      ((repeat' (with_reducible apply And.intro)) <;> try ((first | first | assumption | trivial | exact (fun hq => by rw [hq]; rfl) | exact i64_of (by omega) (by omega) | omega | (simp; done) | (simp; omega) | (intro hsc; have hs0 := hsc; (try have hsd := of_decide_eq_true hsc); (try simp only [Bool.not_eq_true', Bool.or_eq_false_iff, Bool.and_eq_true, Bool.or_eq_true, decide_eq_true_eq, decide_eq_false_iff_not] at hsc); (repeat' (with_reducible apply And.intro)) <;> (first | assumption | trivial | exact (fun hq => by rw [hq]; rfl) | exact i64_of (by omega) (by omega) | omega | (simp; done) | (simp; omega) | (intro hse; simp [hse, hs0]; done) | (intro hse; simp only [hse, hs0, Bool.true_and, Bool.and_true, Bool.not_false, Bool.not_true, Bool.and_self]; done))))))
      refine useG (fun _ => EqualT_ok _ _ (seenF_len t c ht)) rfl (.inl rfl) ?_
      simp only [ZZ, Za, Zb, Zc, Zd, Ze, Zf, Zg, Zh, rd, AV.un, AV.unA, AV.ad, Zi, Zj, Zk, Zl, Zm, Zn, Zo, Zp, Zq, Zr, Zs, Zt, Zu, Zv, Zw, Zx, Zy, Zz, Zaa, Zab, Zac, Zad, wk1, wk, Zae, Zaf, Zag, Zah, Zai, Zaj, Zak, Zal, AV.kill, AO.kill, AV.thaw, AO.thaw, Zam, Zan, Zao, Zap, Zaq, Zar, Zas, Zat, Zau, ite_true, ite_false, reduceCtorEq, Nat.reduceAdd, Nat.reduceMul, Nat.reduceLeDiff, Nat.reduceLT, Nat.reduceEqDiff, forall_const]
      ((repeat' (with_reducible apply And.intro)) <;> try ((first | first | assumption | trivial | exact (fun hq => by rw [hq]; rfl) | exact i64_of (by omega) (by omega) | omega | (simp; done) | (simp; omega) | (intro hsc; have hs0 := hsc; (try have hsd := of_decide_eq_true hsc); (try simp only [Bool.not_eq_true', Bool.or_eq_false_iff, Bool.and_eq_true, Bool.or_eq_true, decide_eq_true_eq, decide_eq_false_iff_not] at hsc); (repeat' (with_reducible apply And.intro)) <;> (first | assumption | trivial | exact (fun hq => by rw [hq]; rfl) | exact i64_of (by omega) (by omega) | omega | (simp; done) | (simp; omega) | (intro hse; simp [hse, hs0]; done) | (intro hse; simp only [hse, hs0, Bool.true_and, Bool.and_true, Bool.not_false, Bool.not_true, Bool.and_self]; done))))))
      refine useG (fun _ => EqualS_ok _ _ (by have := fewF_len (leaksF t c); omega)) rfl (.inl rfl) ?_
      simp only [ZZ, Za, Zb, Zc, Zd, Ze, Zf, Zg, Zh, rd, AV.un, AV.unA, AV.ad, Zi, Zj, Zk, Zl, Zm, Zn, Zo, Zp, Zq, Zr, Zs, Zt, Zu, Zv, Zw, Zx, Zy, Zz, Zaa, Zab, Zac, Zad, wk1, wk, Zae, Zaf, Zag, Zah, Zai, Zaj, Zak, Zal, AV.kill, AO.kill, AV.thaw, AO.thaw, Zam, Zan, Zao, Zap, Zaq, Zar, Zas, Zat, Zau, ite_true, ite_false, reduceCtorEq, Nat.reduceAdd, Nat.reduceMul, Nat.reduceLeDiff, Nat.reduceLT, Nat.reduceEqDiff, forall_const]
      ((repeat' (with_reducible apply And.intro)) <;> try ((first | first | assumption | trivial | exact (fun hq => by rw [hq]; rfl) | exact i64_of (by omega) (by omega) | omega | (simp; done) | (simp; omega) | (intro hsc; have hs0 := hsc; (try have hsd := of_decide_eq_true hsc); (try simp only [Bool.not_eq_true', Bool.or_eq_false_iff, Bool.and_eq_true, Bool.or_eq_true, decide_eq_true_eq, decide_eq_false_iff_not] at hsc); (repeat' (with_reducible apply And.intro)) <;> (first | assumption | trivial | exact (fun hq => by rw [hq]; rfl) | exact i64_of (by omega) (by omega) | omega | (simp; done) | (simp; omega) | (intro hse; simp [hse, hs0]; done) | (intro hse; simp only [hse, hs0, Bool.true_and, Bool.and_true, Bool.not_false, Bool.not_true, Bool.and_self]; done))))))
  · simp only [if_neg h]
    simp only [ZZ, Za, Zb, Zc, Zd, Ze, Zf, Zg, Zh, rd, AV.un, AV.unA, AV.ad, Zi, Zj, Zk, Zl, Zm, Zn, Zo, Zp, Zq, Zr, Zs, Zt, Zu, Zv, Zw, Zx, Zy, Zz, Zaa, Zab, Zac, Zad, wk1, wk, Zae, Zaf, Zag, Zah, Zai, Zaj, Zak, Zal, AV.kill, AO.kill, AV.thaw, AO.thaw, Zam, Zan, Zao, Zap, Zaq, Zar, Zas, Zat, Zau, ite_true, ite_false, reduceCtorEq, Nat.reduceAdd, Nat.reduceMul, Nat.reduceLeDiff, Nat.reduceLT, Nat.reduceEqDiff, forall_const]
    refine use1 (CoverFault_ok t c (by omega) (by omega)) rfl (.inl rfl) ?_
    simp only [ZZ, Za, Zb, Zc, Zd, Ze, Zf, Zg, Zh, rd, AV.un, AV.unA, AV.ad, Zi, Zj, Zk, Zl, Zm, Zn, Zo, Zp, Zq, Zr, Zs, Zt, Zu, Zv, Zw, Zx, Zy, Zz, Zaa, Zab, Zac, Zad, wk1, wk, Zae, Zaf, Zag, Zah, Zai, Zaj, Zak, Zal, AV.kill, AO.kill, AV.thaw, AO.thaw, Zam, Zan, Zao, Zap, Zaq, Zar, Zas, Zat, Zau, ite_true, ite_false, reduceCtorEq, Nat.reduceAdd, Nat.reduceMul, Nat.reduceLeDiff, Nat.reduceLT, Nat.reduceEqDiff, forall_const]
    refine br ?_ ?_
    · intro _
      simp only [ZZ, Za, Zb, Zc, Zd, Ze, Zf, Zg, Zh, rd, AV.un, AV.unA, AV.ad, Zi, Zj, Zk, Zl, Zm, Zn, Zo, Zp, Zq, Zr, Zs, Zt, Zu, Zv, Zw, Zx, Zy, Zz, Zaa, Zab, Zac, Zad, wk1, wk, Zae, Zaf, Zag, Zah, Zai, Zaj, Zak, Zal, AV.kill, AO.kill, AV.thaw, AO.thaw, Zam, Zan, Zao, Zap, Zaq, Zar, Zas, Zat, Zau, ite_true, ite_false, reduceCtorEq, Nat.reduceAdd, Nat.reduceMul, Nat.reduceLeDiff, Nat.reduceLT, Nat.reduceEqDiff, forall_const]
      refine use1 privileges_ok rfl (.inl rfl) ?_
      simp only [ZZ, Za, Zb, Zc, Zd, Ze, Zf, Zg, Zh, rd, AV.un, AV.unA, AV.ad, Zi, Zj, Zk, Zl, Zm, Zn, Zo, Zp, Zq, Zr, Zs, Zt, Zu, Zv, Zw, Zx, Zy, Zz, Zaa, Zab, Zac, Zad, wk1, wk, Zae, Zaf, Zag, Zah, Zai, Zaj, Zak, Zal, AV.kill, AO.kill, AV.thaw, AO.thaw, Zam, Zan, Zao, Zap, Zaq, Zar, Zas, Zat, Zau, ite_true, ite_false, reduceCtorEq, Nat.reduceAdd, Nat.reduceMul, Nat.reduceLeDiff, Nat.reduceLT, Nat.reduceEqDiff, forall_const]
      ((repeat' (with_reducible apply And.intro)) <;> try ((first | first | assumption | trivial | exact (fun hq => by rw [hq]; rfl) | exact i64_of (by omega) (by omega) | omega | (simp; done) | (simp; omega) | (intro hsc; have hs0 := hsc; (try have hsd := of_decide_eq_true hsc); (try simp only [Bool.not_eq_true', Bool.or_eq_false_iff, Bool.and_eq_true, Bool.or_eq_true, decide_eq_true_eq, decide_eq_false_iff_not] at hsc); (repeat' (with_reducible apply And.intro)) <;> (first | assumption | trivial | exact (fun hq => by rw [hq]; rfl) | exact i64_of (by omega) (by omega) | omega | (simp; done) | (simp; omega) | (intro hse; simp [hse, hs0]; done) | (intro hse; simp only [hse, hs0, Bool.true_and, Bool.and_true, Bool.not_false, Bool.not_true, Bool.and_self]; done))))))
    · intro h5
      exact absurd (by simpa using h5) h
theorem textsCovered_walk (a0 : Option Addr) (len0 cap0 : Nat) (z0 : List Int) (w : World) (h0 : IsRow .i64 w a0 len0 cap0 z0) (he : E0.ok w ∧ ∀ b, E0.bl b → b < w.heap.size) :
    Calls Tryd.prog 7 #[.slice a0 len0 cap0] w fun e w' => e = .returned (.bool true) ∧ Below w.heap.size w w' :=
  walk_of textsCovered_ok a0 len0 cap0 z0 w h0 he.1 he.2
end Go.Proofs.YtpddiepfolfnoaaDoor
