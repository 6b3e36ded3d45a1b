/- The law ShinglesLike: it returns true. -/
import Derived.Test.YtpddiepfolfnoaaM3
namespace Go.Proofs.Ytpddiepfolfnoaa
open Go.RowKit
set_option linter.unusedVariables false
set_option linter.unusedSimpArgs false
set_option linter.defProp false

/- paperchase/chaselaw1.ShinglesLike -/
def ir_chaselaw1_ShinglesLike : IC :=
  (.seq (.reg [⟨some 2, .mov (.c (.bool false)), none⟩])
    (.seq (.reg [⟨some 18, .mov (.t 0), none⟩,
      ⟨some 19, .bld [.nl 1, .int .i64 0] [(0, 1, .t 18)], none⟩,
      ⟨some 20, .box 25 (.t 19), none⟩,
      ⟨some 3, .mov (.t 20), none⟩])
    (.seq (.reg [⟨some 21, .mov (.t 3), none⟩,
      ⟨some 22, .call 5 [.t 21, .c (.int .i64 12)], none⟩,
      ⟨some 23, .mov (.t 3), none⟩,
      ⟨some 24, .call 6 [.t 23], none⟩,
      ⟨some 4, .mov (.t 22), none⟩,
      ⟨some 5, .mov (.t 24), none⟩])
    (.seq (.reg [⟨some 25, .mov (.t 3), none⟩,
      ⟨some 26, .mov (.t 4), none⟩,
      ⟨some 27, .call 15 [.t 25, .t 26, .c (.str [97, 98, 32, 120])], none⟩,
      ⟨some 6, .mov (.t 27), none⟩])
    (.seq (.reg [⟨some 29, .mov (.t 4), none⟩,
      ⟨some 30, .mov (.t 5), none⟩,
      ⟨none, .fz (.t 29), none⟩,
      ⟨none, .fz (.t 30), none⟩,
      ⟨some 31, .call 16 [.t 29, .t 30], none⟩,
      ⟨some 28, .mov (.t 31), none⟩,
      ⟨some 32, .ext 0 (.t 28), none⟩,
      ⟨some 33, .ext 1 (.t 28), none⟩,
      ⟨some 7, .mov (.t 32), none⟩,
      ⟨some 8, .mov (.t 33), none⟩])
    (.seq (.reg [⟨some 35, .mov (.t 4), none⟩,
      ⟨some 36, .mov (.t 6), none⟩,
      ⟨some 37, .mov (.t 5), none⟩,
      ⟨some 38, .call 17 [.t 35, .t 36, .t 37], none⟩,
      ⟨some 34, .mov (.t 38), none⟩,
      ⟨some 39, .ext 0 (.t 34), none⟩,
      ⟨some 40, .ext 1 (.t 34), none⟩,
      ⟨some 9, .alc 35 [.int .i64 0, .int .i64 0], none⟩,
      ⟨none, .st 2 (.t 9) (.t 39), none⟩,
      ⟨some 10, .mov (.t 40), none⟩])
    (.seq (.reg [⟨some 42, .mov (.t 4), none⟩,
      ⟨some 43, .mov (.t 6), none⟩,
      ⟨some 44, .mov (.t 5), none⟩,
      ⟨some 45, .call 18 [.t 42, .t 43, .t 44], none⟩,
      ⟨some 41, .mov (.t 45), none⟩,
      ⟨some 46, .ext 0 (.t 41), none⟩,
      ⟨some 47, .ext 1 (.t 41), none⟩,
      ⟨some 11, .alc 35 [.int .i64 0, .int .i64 0], none⟩,
      ⟨none, .st 2 (.t 11) (.t 46), none⟩,
      ⟨some 12, .mov (.t 47), none⟩])
    (.seq (.seq (.reg [⟨some 48, .mov (.t 4), none⟩,
      ⟨some 49, .mov (.t 5), none⟩,
      ⟨some 50, .call 19 [.t 48, .t 49], none⟩,
      ⟨some 13, .mov (.t 50), none⟩])
    (.seq (.reg [⟨some 51, .mov (.t 13), none⟩,
      ⟨some 52, .bin .neq (.t 51) (.c (.int .i64 0)), none⟩])
    (.cond (.t 52) (.seq (.reg [⟨some 53, .call 14 [], none⟩,
      ⟨some 54, .mov (.t 53), none⟩,
      ⟨some 55, .mov (.t 8), (some (54, true))⟩,
      ⟨some 56, .mov (.t 13), (some (54, true))⟩,
      ⟨some 57, .bin .eql (.t 55) (.t 56), (some (54, true))⟩,
      ⟨some 58, .pick (.t 54) (.t 57) (.c (.bool false)), none⟩,
      ⟨some 59, .mov (.t 58), none⟩,
      ⟨some 60, .mov (.t 10), (some (59, true))⟩,
      ⟨some 61, .mov (.t 13), (some (59, true))⟩,
      ⟨some 62, .bin .eql (.t 60) (.t 61), (some (59, true))⟩,
      ⟨some 63, .pick (.t 59) (.t 62) (.c (.bool false)), none⟩,
      ⟨some 64, .mov (.t 63), none⟩,
      ⟨some 65, .mov (.t 12), (some (64, true))⟩,
      ⟨some 66, .mov (.t 13), (some (64, true))⟩,
      ⟨some 67, .bin .eql (.t 65) (.t 66), (some (64, true))⟩,
      ⟨some 68, .pick (.t 64) (.t 67) (.c (.bool false)), none⟩,
      ⟨some 2, .mov (.t 68), none⟩])
    .ret) .skip)))
    (.seq (.seq (.drg [⟨none, .fz (.t 4), none⟩,
      ⟨none, .fz (.t 5), none⟩,
      ⟨some 69, .mov (.t 8), none⟩,
      ⟨some 70, .bin .neq (.t 69) (.c (.int .i64 0)), none⟩,
      ⟨some 71, .mov (.t 70), none⟩,
      ⟨some 72, .mov (.t 10), (some (71, false))⟩,
      ⟨some 73, .bin .neq (.t 72) (.c (.int .i64 0)), (some (71, false))⟩,
      ⟨some 74, .pick (.t 71) (.c (.bool true)) (.t 73), none⟩,
      ⟨some 75, .mov (.t 74), none⟩,
      ⟨some 76, .mov (.t 12), (some (75, false))⟩,
      ⟨some 77, .bin .neq (.t 76) (.c (.int .i64 0)), (some (75, false))⟩,
      ⟨some 78, .pick (.t 75) (.c (.bool true)) (.t 77), none⟩,
      ⟨some 79, .mov (.t 78), none⟩,
      ⟨some 80, .mov (.t 7), (some (79, false))⟩,
      ⟨some 81, .mov (.t 4), (some (79, false))⟩,
      ⟨some 82, .mov (.t 5), (some (79, false))⟩,
      ⟨some 83, .pcall 0 21 [.t 81, .t 82], (some (79, false))⟩,
      ⟨some 84, .pcall 1 20 [.t 80, .t 83], (some (79, false))⟩,
      ⟨some 85, .not (.t 84), (some (79, false))⟩,
      ⟨some 86, .pick (.t 79) (.c (.bool true)) (.t 85), none⟩,
      ⟨some 87, .mov (.t 86), none⟩,
      ⟨some 88, .ld 2 true (.t 9), (some (87, false))⟩,
      ⟨some 89, .mov (.t 4), (some (87, false))⟩,
      ⟨some 90, .mov (.t 6), (some (87, false))⟩,
      ⟨some 91, .mov (.t 5), (some (87, false))⟩,
      ⟨some 92, .pcall 2 22 [.t 89, .t 90, .t 91], (some (87, false))⟩,
      ⟨some 93, .eqa true [.i, .i] (.t 88) (.t 92), (some (87, false))⟩,
      ⟨some 94, .pick (.t 87) (.c (.bool true)) (.t 93), none⟩,
      ⟨some 95, .mov (.t 94), none⟩,
      ⟨some 96, .ld 2 true (.t 11), (some (95, false))⟩,
      ⟨some 97, .mov (.t 4), (some (95, false))⟩,
      ⟨some 98, .mov (.t 6), (some (95, false))⟩,
      ⟨some 99, .mov (.t 5), (some (95, false))⟩,
      ⟨some 100, .pcall 3 23 [.t 97, .t 98, .t 99], (some (95, false))⟩,
      ⟨some 101, .eqa true [.i, .i] (.t 96) (.t 100), (some (95, false))⟩,
      ⟨some 102, .pick (.t 95) (.c (.bool true)) (.t 101), none⟩])
    (.cond (.t 102) (.seq (.reg [⟨some 2, .mov (.c (.bool false)), none⟩])
    .ret) .skip))
    (.seq (.reg [⟨some 103, .mov (.t 3), none⟩,
      ⟨some 104, .call 24 [.t 103, .c (.int .i64 9)], none⟩,
      ⟨some 105, .mov (.t 3), none⟩,
      ⟨some 106, .call 25 [.t 105, .c (.int .i64 0), .c (.int .i64 8)], none⟩,
      ⟨none, .fz (.t 104), none⟩,
      ⟨none, .fz (.t 106), none⟩,
      ⟨some 107, .bld [.int .i64 0, .int .i64 0] [(0, 1, .t 104), (1, 1, .t 106)], none⟩,
      ⟨some 108, .mov (.t 3), none⟩,
      ⟨some 109, .bsl 1 [.c (.int .i64 0), .c (.int .i64 1), .c (.int .i64 1000000), .c (.int .i64 1000001), .c (.int .i64 (-1))], none⟩,
      ⟨some 110, .call 7 [.t 108, .t 109], none⟩,
      ⟨some 111, .mov (.t 3), none⟩,
      ⟨some 112, .bsl 1 [.c (.int .i64 1), .c (.int .i64 7), .c (.int .i64 999999), .c (.int .i64 1000000), .c (.int .i64 1000001)], none⟩,
      ⟨some 113, .call 7 [.t 111, .t 112], none⟩,
      ⟨none, .fz (.t 110), none⟩,
      ⟨none, .fz (.t 113), none⟩,
      ⟨some 114, .bld [.int .i64 0, .int .i64 0] [(0, 1, .t 110), (1, 1, .t 113)], none⟩,
      ⟨some 14, .alc 35 [.int .i64 0, .int .i64 0], none⟩,
      ⟨some 15, .alc 35 [.int .i64 0, .int .i64 0], none⟩,
      ⟨none, .st 2 (.t 14) (.t 107), none⟩,
      ⟨none, .st 2 (.t 15) (.t 114), none⟩])
    (.seq (.reg [⟨some 116, .ld 2 true (.t 14), none⟩,
      ⟨some 117, .ld 2 true (.t 15), none⟩,
      ⟨some 118, .call 26 [.t 116, .t 117], none⟩,
      ⟨some 115, .mov (.t 118), none⟩,
      ⟨some 119, .ext 0 (.t 115), none⟩,
      ⟨some 120, .ext 1 (.t 115), none⟩,
      ⟨some 16, .mov (.t 119), none⟩,
      ⟨some 17, .mov (.t 120), none⟩])
    (.seq (.seq (.reg [⟨some 121, .ld 2 true (.t 14), none⟩,
      ⟨some 122, .call 27 [.t 121], none⟩,
      ⟨some 123, .not (.t 122), none⟩,
      ⟨some 124, .mov (.t 123), none⟩,
      ⟨some 125, .ld 2 true (.t 15), (some (124, false))⟩,
      ⟨some 126, .call 27 [.t 125], (some (124, false))⟩,
      ⟨some 127, .not (.t 126), (some (124, false))⟩,
      ⟨some 128, .pick (.t 124) (.c (.bool true)) (.t 127), none⟩])
    (.cond (.t 128) (.seq (.reg [⟨some 129, .call 14 [], none⟩,
      ⟨some 130, .mov (.t 129), none⟩,
      ⟨some 131, .mov (.t 17), (some (130, true))⟩,
      ⟨some 132, .bin .eql (.t 131) (.c (.int .i64 3)), (some (130, true))⟩,
      ⟨some 133, .pick (.t 130) (.t 132) (.c (.bool false)), none⟩,
      ⟨some 2, .mov (.t 133), none⟩])
    .ret) .skip))
    (.seq (.reg [⟨some 134, .call 14 [], none⟩,
      ⟨some 135, .mov (.t 134), none⟩,
      ⟨some 136, .mov (.t 17), (some (135, true))⟩,
      ⟨some 137, .bin .eql (.t 136) (.c (.int .i64 0)), (some (135, true))⟩,
      ⟨some 138, .pick (.t 135) (.t 137) (.c (.bool false)), none⟩,
      ⟨some 139, .mov (.t 138), none⟩,
      ⟨some 140, .mov (.t 16), (some (139, true))⟩,
      ⟨some 141, .ld 2 true (.t 14), (some (139, true))⟩,
      ⟨some 142, .ld 2 true (.t 15), (some (139, true))⟩,
      ⟨some 143, .call 28 [.t 141, .t 142], (some (139, true))⟩,
      ⟨some 144, .bin .eql (.t 140) (.t 143), (some (139, true))⟩,
      ⟨some 145, .pick (.t 139) (.t 144) (.c (.bool false)), none⟩,
      ⟨some 2, .mov (.t 145), none⟩])
    .ret)))))))))))))
def rs_chaselaw1_ShinglesLike : List IRes := [.t 2]
theorem ck_chaselaw1_ShinglesLike : chkF Try.prog Try.f4 ir_chaselaw1_ShinglesLike rs_chaselaw1_ShinglesLike 146 = true := by kernel_rfl

theorem shinglesLike_ok (z : List Int) (hl : z.length ≤ 9223372036854775807) : PCall Try.prog E1 4 [ints z] (· = .bool true) := by
  refine pcallF mixed Try.func4 ck_chaselaw1_ShinglesLike ?_
  simp only [a0, l0, OS.ao, List.map_cons, List.map_nil, List.length_cons, List.length_nil, List.cons_append, List.nil_append, Nat.reduceSub, Nat.reduceAdd, List.replicate_succ, List.replicate_zero, ir_chaselaw1_ShinglesLike, rs_chaselaw1_ShinglesLike, ZZ, Za, Zb, Zc, Zd, Ze, Zf, Zg, Zh, rd, AV.un, AV.unA, AV.ad, Zi, Zj, Zk, Zl, Zm, Zn, Zo, Zp, Zq, Zr, Zs, Zt, Zu, Zv, Zw, Zx, Zy, Zz, Zaa, Zab, Zac, Zad, wk1, wk, Zae, Zaf, Zag, Zah, Zai, Zaj, Zak, Zal, AV.kill, AO.kill, AV.thaw, AO.thaw, Zam, Zan, Zao, Zap, Zaq, Zar, Zas, Zat, Zau, ite_true, ite_false, reduceCtorEq, Nat.reduceAdd, Nat.reduceMul, Nat.reduceLeDiff, Nat.reduceLT, Nat.reduceEqDiff, forall_const]
  simp only [ints, ZZ, Za, Zb, Zc, Zd, Ze, Zf, Zg, Zh, rd, AV.un, AV.unA, AV.ad, Zi, Zj, Zk, Zl, Zm, Zn, Zo, Zp, Zq, Zr, Zs, Zt, Zu, Zv, Zw, Zx, Zy, Zz, Zaa, Zab, Zac, Zad, wk1, wk, Zae, Zaf, Zag, Zah, Zai, Zaj, Zak, Zal, AV.kill, AO.kill, AV.thaw, AO.thaw, Zam, Zan, Zao, Zap, Zaq, Zar, Zas, Zat, Zau, ite_true, ite_false, reduceCtorEq, Nat.reduceAdd, Nat.reduceMul, Nat.reduceLeDiff, Nat.reduceLT, Nat.reduceEqDiff, forall_const]
  refine useS (k := .l 20) (Prose_ok z 0 12 (by omega) hl (by omega) (by omega)) rfl rfl rfl (by simp only [ZZ, Za, Zb, Zc, Zd, Ze, Zf, Zg, Zh, rd, AV.un, AV.unA, AV.ad, Zi, Zj, Zk, Zl, Zm, Zn, Zo, Zp, Zq, Zr, Zs, Zt, Zu, Zv, Zw, Zx, Zy, Zz, Zaa, Zab, Zac, Zad, wk1, wk, Zae, Zaf, Zag, Zah, Zai, Zaj, Zak, Zal, AV.kill, AO.kill, AV.thaw, AO.thaw, Zam, Zan, Zao, Zap, Zaq, Zar, Zas, Zat, Zau, ite_true, ite_false, reduceCtorEq, Nat.reduceAdd, Nat.reduceMul, Nat.reduceLeDiff, Nat.reduceLT, Nat.reduceEqDiff, forall_const]) ?_
  rintro x cs' ⟨s, k1, rfl, hs, rfl, hk1⟩
  simp only [ZZ, Za, Zb, Zc, Zd, Ze, Zf, Zg, Zh, rd, AV.un, AV.unA, AV.ad, Zi, Zj, Zk, Zl, Zm, Zn, Zo, Zp, Zq, Zr, Zs, Zt, Zu, Zv, Zw, Zx, Zy, Zz, Zaa, Zab, Zac, Zad, wk1, wk, Zae, Zaf, Zag, Zah, Zai, Zaj, Zak, Zal, AV.kill, AO.kill, AV.thaw, AO.thaw, Zam, Zan, Zao, Zap, Zaq, Zar, Zas, Zat, Zau, ite_true, ite_false, reduceCtorEq, Nat.reduceAdd, Nat.reduceMul, Nat.reduceLeDiff, Nat.reduceLT, Nat.reduceEqDiff, forall_const]
  refine useS (k := .l 20) (Size_ok z k1 (by omega) hl) rfl rfl rfl (by simp only [ZZ, Za, Zb, Zc, Zd, Ze, Zf, Zg, Zh, rd, AV.un, AV.unA, AV.ad, Zi, Zj, Zk, Zl, Zm, Zn, Zo, Zp, Zq, Zr, Zs, Zt, Zu, Zv, Zw, Zx, Zy, Zz, Zaa, Zab, Zac, Zad, wk1, wk, Zae, Zaf, Zag, Zah, Zai, Zaj, Zak, Zal, AV.kill, AO.kill, AV.thaw, AO.thaw, Zam, Zan, Zao, Zap, Zaq, Zar, Zas, Zat, Zau, ite_true, ite_false, reduceCtorEq, Nat.reduceAdd, Nat.reduceMul, Nat.reduceLeDiff, Nat.reduceLT, Nat.reduceEqDiff, forall_const]) ?_
  rintro x cs' ⟨k, k2, rfl, hk0, hk11, rfl, hk2⟩
  simp only [ZZ, Za, Zb, Zc, Zd, Ze, Zf, Zg, Zh, rd, AV.un, AV.unA, AV.ad, Zi, Zj, Zk, Zl, Zm, Zn, Zo, Zp, Zq, Zr, Zs, Zt, Zu, Zv, Zw, Zx, Zy, Zz, Zaa, Zab, Zac, Zad, wk1, wk, Zae, Zaf, Zag, Zah, Zai, Zaj, Zak, Zal, AV.kill, AO.kill, AV.thaw, AO.thaw, Zam, Zan, Zao, Zap, Zaq, Zar, Zas, Zat, Zau, ite_true, ite_false, reduceCtorEq, Nat.reduceAdd, Nat.reduceMul, Nat.reduceLeDiff, Nat.reduceLT, Nat.reduceEqDiff, forall_const]
  refine useS (k := .l 20) (Changed_ok z k2 s [97, 98, 32, 120] (by omega) hl (by omega) (by simp)) rfl rfl rfl (by simp only [ZZ, Za, Zb, Zc, Zd, Ze, Zf, Zg, Zh, rd, AV.un, AV.unA, AV.ad, Zi, Zj, Zk, Zl, Zm, Zn, Zo, Zp, Zq, Zr, Zs, Zt, Zu, Zv, Zw, Zx, Zy, Zz, Zaa, Zab, Zac, Zad, wk1, wk, Zae, Zaf, Zag, Zah, Zai, Zaj, Zak, Zal, AV.kill, AO.kill, AV.thaw, AO.thaw, Zam, Zan, Zao, Zap, Zaq, Zar, Zas, Zat, Zau, ite_true, ite_false, reduceCtorEq, Nat.reduceAdd, Nat.reduceMul, Nat.reduceLeDiff, Nat.reduceLT, Nat.reduceEqDiff, forall_const]) ?_
  rintro x cs' ⟨t, k3, rfl, ht, rfl, hk3⟩
  simp only [List.length_cons, List.length_nil] at ht
  have hE := twoErr_eq (ba s) (ba t) k (by rw [ba_sz]; omega)
  simp only [ZZ, Za, Zb, Zc, Zd, Ze, Zf, Zg, Zh, rd, AV.un, AV.unA, AV.ad, Zi, Zj, Zk, Zl, Zm, Zn, Zo, Zp, Zq, Zr, Zs, Zt, Zu, Zv, Zw, Zx, Zy, Zz, Zaa, Zab, Zac, Zad, wk1, wk, Zae, Zaf, Zag, Zah, Zai, Zaj, Zak, Zal, AV.kill, AO.kill, AV.thaw, AO.thaw, Zam, Zan, Zao, Zap, Zaq, Zar, Zas, Zat, Zau, ite_true, ite_false, reduceCtorEq, Nat.reduceAdd, Nat.reduceMul, Nat.reduceLeDiff, Nat.reduceLT, Nat.reduceEqDiff, forall_const]
  refine use1 (Shingles_ok s k (by omega)) rfl (.inl rfl) ?_
  simp only [ZZ, Za, Zb, Zc, Zd, Ze, Zf, Zg, Zh, rd, AV.un, AV.unA, AV.ad, Zi, Zj, Zk, Zl, Zm, Zn, Zo, Zp, Zq, Zr, Zs, Zt, Zu, Zv, Zw, Zx, Zy, Zz, Zaa, Zab, Zac, Zad, wk1, wk, Zae, Zaf, Zag, Zah, Zai, Zaj, Zak, Zal, AV.kill, AO.kill, AV.thaw, AO.thaw, Zam, Zan, Zao, Zap, Zaq, Zar, Zas, Zat, Zau, ite_true, ite_false, reduceCtorEq, Nat.reduceAdd, Nat.reduceMul, Nat.reduceLeDiff, Nat.reduceLT, Nat.reduceEqDiff, forall_const]
  refine use1 (Resemblance_ok s t k) rfl (.inl rfl) ?_
  simp only [ZZ, Za, Zb, Zc, Zd, Ze, Zf, Zg, Zh, rd, AV.un, AV.unA, AV.ad, Zi, Zj, Zk, Zl, Zm, Zn, Zo, Zp, Zq, Zr, Zs, Zt, Zu, Zv, Zw, Zx, Zy, Zz, Zaa, Zab, Zac, Zad, wk1, wk, Zae, Zaf, Zag, Zah, Zai, Zaj, Zak, Zal, AV.kill, AO.kill, AV.thaw, AO.thaw, Zam, Zan, Zao, Zap, Zaq, Zar, Zas, Zat, Zau, ite_true, ite_false, reduceCtorEq, Nat.reduceAdd, Nat.reduceMul, Nat.reduceLeDiff, Nat.reduceLT, Nat.reduceEqDiff, forall_const]
  refine use1 (Containment_ok s t k) rfl (.inl rfl) ?_
  rw [hE]
  simp only [ZZ, Za, Zb, Zc, Zd, Ze, Zf, Zg, Zh, rd, AV.un, AV.unA, AV.ad, Zi, Zj, Zk, Zl, Zm, Zn, Zo, Zp, Zq, Zr, Zs, Zt, Zu, Zv, Zw, Zx, Zy, Zz, Zaa, Zab, Zac, Zad, wk1, wk, Zae, Zaf, Zag, Zah, Zai, Zaj, Zak, Zal, AV.kill, AO.kill, AV.thaw, AO.thaw, Zam, Zan, Zao, Zap, Zaq, Zar, Zas, Zat, Zau, ite_true, ite_false, reduceCtorEq, Nat.reduceAdd, Nat.reduceMul, Nat.reduceLeDiff, Nat.reduceLT, Nat.reduceEqDiff, forall_const]
  refine use1 (ShinglesFault_ok s k) rfl (.inl rfl) ?_
  simp only [ZZ, Za, Zb, Zc, Zd, Ze, Zf, Zg, Zh, rd, AV.un, AV.unA, AV.ad, Zi, Zj, Zk, Zl, Zm, Zn, Zo, Zp, Zq, Zr, Zs, Zt, Zu, Zv, Zw, Zx, Zy, Zz, Zaa, Zab, Zac, Zad, wk1, wk, Zae, Zaf, Zag, Zah, Zai, Zaj, Zak, Zal, AV.kill, AO.kill, AV.thaw, AO.thaw, Zam, Zan, Zao, Zap, Zaq, Zar, Zas, Zat, Zau, ite_true, ite_false, reduceCtorEq, Nat.reduceAdd, Nat.reduceMul, Nat.reduceLeDiff, Nat.reduceLT, Nat.reduceEqDiff, forall_const]
  refine br ?_ ?_
  · intro h
    simp only [ZZ, Za, Zb, Zc, Zd, Ze, Zf, Zg, Zh, rd, AV.un, AV.unA, AV.ad, Zi, Zj, Zk, Zl, Zm, Zn, Zo, Zp, Zq, Zr, Zs, Zt, Zu, Zv, Zw, Zx, Zy, Zz, Zaa, Zab, Zac, Zad, wk1, wk, Zae, Zaf, Zag, Zah, Zai, Zaj, Zak, Zal, AV.kill, AO.kill, AV.thaw, AO.thaw, Zam, Zan, Zao, Zap, Zaq, Zar, Zas, Zat, Zau, ite_true, ite_false, reduceCtorEq, Nat.reduceAdd, Nat.reduceMul, Nat.reduceLeDiff, Nat.reduceLT, Nat.reduceEqDiff, forall_const]
    refine use1 nears_ok rfl (.inl rfl) ?_
    simp only [ZZ, Za, Zb, Zc, Zd, Ze, Zf, Zg, Zh, rd, AV.un, AV.unA, AV.ad, Zi, Zj, Zk, Zl, Zm, Zn, Zo, Zp, Zq, Zr, Zs, Zt, Zu, Zv, Zw, Zx, Zy, Zz, Zaa, Zab, Zac, Zad, wk1, wk, Zae, Zaf, Zag, Zah, Zai, Zaj, Zak, Zal, AV.kill, AO.kill, AV.thaw, AO.thaw, Zam, Zan, Zao, Zap, Zaq, Zar, Zas, Zat, Zau, ite_true, ite_false, reduceCtorEq, Nat.reduceAdd, Nat.reduceMul, Nat.reduceLeDiff, Nat.reduceLT, Nat.reduceEqDiff, forall_const]
    ((repeat' (with_reducible apply And.intro)) <;> try ((first | first | assumption | trivial | exact (fun hq => by rw [hq]; rfl) | exact i64_of (by omega) (by omega) | omega | (simp; done) | (simp; omega) | (intro hsc; have hs0 := hsc; (try have hsd := of_decide_eq_true hsc); (try simp only [Bool.not_eq_true', Bool.or_eq_false_iff, Bool.and_eq_true, Bool.or_eq_true, decide_eq_true_eq, decide_eq_false_iff_not] at hsc); (repeat' (with_reducible apply And.intro)) <;> (first | assumption | trivial | exact (fun hq => by rw [hq]; rfl) | exact i64_of (by omega) (by omega) | omega | (simp; done) | (simp; omega) | (intro hse; simp [hse, hs0]; done) | (intro hse; simp only [hse, hs0, Bool.true_and, Bool.and_true, Bool.not_false, Bool.not_true, Bool.and_self]; done))))))
  · intro h
    have h0 : shErr (ba s) k = 0 := by simpa using h
    obtain ⟨g1, g2, g3⟩ := shErr_zero h0
    obtain ⟨m, rfl⟩ := Int.eq_ofNat_of_zero_le (show 0 ≤ k by omega)
    have eR : shR (ba s) m = shg s m := by rw [shR, if_pos h0]; rfl
    have e1 : reF0 (ba s) (ba t) m = reF (ba s) (ba t) m := by rw [reF0, hE, if_pos h0]
    have e2 : coF0 (ba s) (ba t) m = coF (ba s) (ba t) m := by rw [coF0, hE, if_pos h0]
    rw [h0, eR, e1, e2]
    have hsl : (shg s m).length ≤ s.length + 2 := by simpa [ba] using shg_le s m
    have c1 := ShinglesOf_ok (E := E1) s m (by omega) (by omega) (by omega)
    have c2 := EqualT_ok (E := E1) (shg s m) (shg s m) (by omega)
    have c3 := LikeOf_ok (E := E1) s t m (by omega) (by omega) (by omega) (by omega)
    have c4 := ContainmentOf_ok (E := E1) s t m (by omega) (by omega) (by omega) (by omega)
    generalize shg s m = sh at *
    generalize reF (ba s) (ba t) m = re at *
    generalize coF (ba s) (ba t) m = co at *
    simp only [ZZ, Za, Zb, Zc, Zd, Ze, Zf, Zg, Zh, rd, AV.un, AV.unA, AV.ad, Zi, Zj, Zk, Zl, Zm, Zn, Zo, Zp, Zq, Zr, Zs, Zt, Zu, Zv, Zw, Zx, Zy, Zz, Zaa, Zab, Zac, Zad, wk1, wk, Zae, Zaf, Zag, Zah, Zai, Zaj, Zak, Zal, AV.kill, AO.kill, AV.thaw, AO.thaw, Zam, Zan, Zao, Zap, Zaq, Zar, Zas, Zat, Zau, ite_true, ite_false, reduceCtorEq, Nat.reduceAdd, Nat.reduceMul, Nat.reduceLeDiff, Nat.reduceLT, Nat.reduceEqDiff, forall_const]
    refine drg4 (x1 := strs sh) (x2 := .bool (decide (sh = sh))) (x3 := .agg [int re.1, int re.2]) (x4 := .agg [int co.1, int co.2]) ?_
    simp only [ZZ, Za, Zb, Zc, Zd, Ze, Zf, Zg, Zh, rd, AV.un, AV.unA, AV.ad, Zi, Zj, Zk, Zl, Zm, Zn, Zo, Zp, Zq, Zr, Zs, Zt, Zu, Zv, Zw, Zx, Zy, Zz, Zaa, Zab, Zac, Zad, wk1, wk, Zae, Zaf, Zag, Zah, Zai, Zaj, Zak, Zal, AV.kill, AO.kill, AV.thaw, AO.thaw, Zam, Zan, Zao, Zap, Zaq, Zar, Zas, Zat, Zau, ite_true, ite_false, reduceCtorEq, Nat.reduceAdd, Nat.reduceMul, Nat.reduceLeDiff, Nat.reduceLT, Nat.reduceEqDiff, forall_const, decide_true, Bool.or_self, Bool.and_self, Bool.or_false]
    have c2' : PCall Try.prog E1 20 [strs sh, strs sh] (· = .bool true) := by simpa using c2
    refine ⟨usep c1 rfl (.inl rfl), usep c2' rfl (.inl rfl), usep c3 rfl (.inl rfl), usep c4 rfl (.inl rfl), ?_⟩
    refine useS (k := .l 20) (Next_ok z k3 9 (by omega) hl (by omega)) rfl rfl rfl (by simp only [ZZ, Za, Zb, Zc, Zd, Ze, Zf, Zg, Zh, rd, AV.un, AV.unA, AV.ad, Zi, Zj, Zk, Zl, Zm, Zn, Zo, Zp, Zq, Zr, Zs, Zt, Zu, Zv, Zw, Zx, Zy, Zz, Zaa, Zab, Zac, Zad, wk1, wk, Zae, Zaf, Zag, Zah, Zai, Zaj, Zak, Zal, AV.kill, AO.kill, AV.thaw, AO.thaw, Zam, Zan, Zao, Zap, Zaq, Zar, Zas, Zat, Zau, ite_true, ite_false, reduceCtorEq, Nat.reduceAdd, Nat.reduceMul, Nat.reduceLeDiff, Nat.reduceLT, Nat.reduceEqDiff, forall_const]) ?_
    rintro x cs' ⟨y, rfl, rfl⟩
    generalize belowZ y 9 = p1
    simp only [ZZ, Za, Zb, Zc, Zd, Ze, Zf, Zg, Zh, rd, AV.un, AV.unA, AV.ad, Zi, Zj, Zk, Zl, Zm, Zn, Zo, Zp, Zq, Zr, Zs, Zt, Zu, Zv, Zw, Zx, Zy, Zz, Zaa, Zab, Zac, Zad, wk1, wk, Zae, Zaf, Zag, Zah, Zai, Zaj, Zak, Zal, AV.kill, AO.kill, AV.thaw, AO.thaw, Zam, Zan, Zao, Zap, Zaq, Zar, Zas, Zat, Zau, ite_true, ite_false, reduceCtorEq, Nat.reduceAdd, Nat.reduceMul, Nat.reduceLeDiff, Nat.reduceLT, Nat.reduceEqDiff, forall_const]
    refine useS (k := .l 20) (Range_ok z (k3 + 1) 0 8 (by omega) hl (by omega) (by omega) (by omega)) rfl rfl rfl (by simp only [ZZ, Za, Zb, Zc, Zd, Ze, Zf, Zg, Zh, rd, AV.un, AV.unA, AV.ad, Zi, Zj, Zk, Zl, Zm, Zn, Zo, Zp, Zq, Zr, Zs, Zt, Zu, Zv, Zw, Zx, Zy, Zz, Zaa, Zab, Zac, Zad, wk1, wk, Zae, Zaf, Zag, Zah, Zai, Zaj, Zak, Zal, AV.kill, AO.kill, AV.thaw, AO.thaw, Zam, Zan, Zao, Zap, Zaq, Zar, Zas, Zat, Zau, ite_true, ite_false, reduceCtorEq, Nat.reduceAdd, Nat.reduceMul, Nat.reduceLeDiff, Nat.reduceLT, Nat.reduceEqDiff, forall_const]) ?_
    rintro x cs' ⟨p2, rfl, _, _, rfl⟩
    simp only [ZZ, Za, Zb, Zc, Zd, Ze, Zf, Zg, Zh, rd, AV.un, AV.unA, AV.ad, Zi, Zj, Zk, Zl, Zm, Zn, Zo, Zp, Zq, Zr, Zs, Zt, Zu, Zv, Zw, Zx, Zy, Zz, Zaa, Zab, Zac, Zad, wk1, wk, Zae, Zaf, Zag, Zah, Zai, Zaj, Zak, Zal, AV.kill, AO.kill, AV.thaw, AO.thaw, Zam, Zan, Zao, Zap, Zaq, Zar, Zas, Zat, Zau, ite_true, ite_false, reduceCtorEq, Nat.reduceAdd, Nat.reduceMul, Nat.reduceLeDiff, Nat.reduceLT, Nat.reduceEqDiff, forall_const]
    refine useS (k := .l 20) (Pick_ok z (k3 + 1 + 1) [0, 1, 1000000, 1000001, -1] (by omega) hl (by simp) (by simp)) rfl rfl rfl (by simp only [ZZ, Za, Zb, Zc, Zd, Ze, Zf, Zg, Zh, rd, AV.un, AV.unA, AV.ad, Zi, Zj, Zk, Zl, Zm, Zn, Zo, Zp, Zq, Zr, Zs, Zt, Zu, Zv, Zw, Zx, Zy, Zz, Zaa, Zab, Zac, Zad, wk1, wk, Zae, Zaf, Zag, Zah, Zai, Zaj, Zak, Zal, AV.kill, AO.kill, AV.thaw, AO.thaw, Zam, Zan, Zao, Zap, Zaq, Zar, Zas, Zat, Zau, ite_true, ite_false, reduceCtorEq, Nat.reduceAdd, Nat.reduceMul, Nat.reduceLeDiff, Nat.reduceLT, Nat.reduceEqDiff, forall_const]) ?_
    rintro x cs' ⟨q1, rfl, _, rfl⟩
    simp only [ZZ, Za, Zb, Zc, Zd, Ze, Zf, Zg, Zh, rd, AV.un, AV.unA, AV.ad, Zi, Zj, Zk, Zl, Zm, Zn, Zo, Zp, Zq, Zr, Zs, Zt, Zu, Zv, Zw, Zx, Zy, Zz, Zaa, Zab, Zac, Zad, wk1, wk, Zae, Zaf, Zag, Zah, Zai, Zaj, Zak, Zal, AV.kill, AO.kill, AV.thaw, AO.thaw, Zam, Zan, Zao, Zap, Zaq, Zar, Zas, Zat, Zau, ite_true, ite_false, reduceCtorEq, Nat.reduceAdd, Nat.reduceMul, Nat.reduceLeDiff, Nat.reduceLT, Nat.reduceEqDiff, forall_const]
    refine useS (k := .l 20) (Pick_ok z (k3 + 1 + 1 + 1) [1, 7, 999999, 1000000, 1000001] (by omega) hl (by simp) (by simp)) rfl rfl rfl (by simp only [ZZ, Za, Zb, Zc, Zd, Ze, Zf, Zg, Zh, rd, AV.un, AV.unA, AV.ad, Zi, Zj, Zk, Zl, Zm, Zn, Zo, Zp, Zq, Zr, Zs, Zt, Zu, Zv, Zw, Zx, Zy, Zz, Zaa, Zab, Zac, Zad, wk1, wk, Zae, Zaf, Zag, Zah, Zai, Zaj, Zak, Zal, AV.kill, AO.kill, AV.thaw, AO.thaw, Zam, Zan, Zao, Zap, Zaq, Zar, Zas, Zat, Zau, ite_true, ite_false, reduceCtorEq, Nat.reduceAdd, Nat.reduceMul, Nat.reduceLeDiff, Nat.reduceLT, Nat.reduceEqDiff, forall_const]) ?_
    rintro x cs' ⟨q2, rfl, _, rfl⟩
    simp only [ZZ, Za, Zb, Zc, Zd, Ze, Zf, Zg, Zh, rd, AV.un, AV.unA, AV.ad, Zi, Zj, Zk, Zl, Zm, Zn, Zo, Zp, Zq, Zr, Zs, Zt, Zu, Zv, Zw, Zx, Zy, Zz, Zaa, Zab, Zac, Zad, wk1, wk, Zae, Zaf, Zag, Zah, Zai, Zaj, Zak, Zal, AV.kill, AO.kill, AV.thaw, AO.thaw, Zam, Zan, Zao, Zap, Zaq, Zar, Zas, Zat, Zau, ite_true, ite_false, reduceCtorEq, Nat.reduceAdd, Nat.reduceMul, Nat.reduceLeDiff, Nat.reduceLT, Nat.reduceEqDiff, forall_const]
    refine use (Compare_ok p1 p2 q1 q2) rfl (.inl rfl) ?_
    rintro y ⟨r, x, rfl, hy1, hy2⟩
    simp only [ZZ, Za, Zb, Zc, Zd, Ze, Zf, Zg, Zh, rd, AV.un, AV.unA, AV.ad, Zi, Zj, Zk, Zl, Zm, Zn, Zo, Zp, Zq, Zr, Zs, Zt, Zu, Zv, Zw, Zx, Zy, Zz, Zaa, Zab, Zac, Zad, wk1, wk, Zae, Zaf, Zag, Zah, Zai, Zaj, Zak, Zal, AV.kill, AO.kill, AV.thaw, AO.thaw, Zam, Zan, Zao, Zap, Zaq, Zar, Zas, Zat, Zau, ite_true, ite_false, reduceCtorEq, Nat.reduceAdd, Nat.reduceMul, Nat.reduceLeDiff, Nat.reduceLT, Nat.reduceEqDiff, forall_const]
    refine use1 (FractionRight_ok p1 p2) rfl (.inl rfl) ?_
    simp only [ZZ, Za, Zb, Zc, Zd, Ze, Zf, Zg, Zh, rd, AV.un, AV.unA, AV.ad, Zi, Zj, Zk, Zl, Zm, Zn, Zo, Zp, Zq, Zr, Zs, Zt, Zu, Zv, Zw, Zx, Zy, Zz, Zaa, Zab, Zac, Zad, wk1, wk, Zae, Zaf, Zag, Zah, Zai, Zaj, Zak, Zal, AV.kill, AO.kill, AV.thaw, AO.thaw, Zam, Zan, Zao, Zap, Zaq, Zar, Zas, Zat, Zau, ite_true, ite_false, reduceCtorEq, Nat.reduceAdd, Nat.reduceMul, Nat.reduceLeDiff, Nat.reduceLT, Nat.reduceEqDiff, forall_const]
    refine useG (fun _ => FractionRight_ok q1 q2) rfl (.inl rfl) ?_
    simp only [ZZ, Za, Zb, Zc, Zd, Ze, Zf, Zg, Zh, rd, AV.un, AV.unA, AV.ad, Zi, Zj, Zk, Zl, Zm, Zn, Zo, Zp, Zq, Zr, Zs, Zt, Zu, Zv, Zw, Zx, Zy, Zz, Zaa, Zab, Zac, Zad, wk1, wk, Zae, Zaf, Zag, Zah, Zai, Zaj, Zak, Zal, AV.kill, AO.kill, AV.thaw, AO.thaw, Zam, Zan, Zao, Zap, Zaq, Zar, Zas, Zat, Zau, ite_true, ite_false, reduceCtorEq, Nat.reduceAdd, Nat.reduceMul, Nat.reduceLeDiff, Nat.reduceLT, Nat.reduceEqDiff, forall_const]
    ((repeat' (with_reducible apply And.intro)) <;> try ((first | first | assumption | trivial | exact (fun hq => by rw [hq]; rfl) | exact i64_of (by omega) (by omega) | omega | (simp; done) | (simp; omega) | (intro hsc; have hs0 := hsc; (try have hsd := of_decide_eq_true hsc); (try simp only [Bool.not_eq_true', Bool.or_eq_false_iff, Bool.and_eq_true, Bool.or_eq_true, decide_eq_true_eq, decide_eq_false_iff_not] at hsc); (repeat' (with_reducible apply And.intro)) <;> (first | assumption | trivial | exact (fun hq => by rw [hq]; rfl) | exact i64_of (by omega) (by omega) | omega | (simp; done) | (simp; omega) | (intro hse; simp [hse, hs0]; done) | (intro hse; simp only [hse, hs0, Bool.true_and, Bool.and_true, Bool.not_false, Bool.not_true, Bool.and_self]; done))))))
    cases hp : rightF p1 p2 with
    | false =>
      have hx := hy2 (.inl hp)
      subst hx
      refine br ?_ ?_
      · intro _
        simp only [ZZ, Za, Zb, Zc, Zd, Ze, Zf, Zg, Zh, rd, AV.un, AV.unA, AV.ad, Zi, Zj, Zk, Zl, Zm, Zn, Zo, Zp, Zq, Zr, Zs, Zt, Zu, Zv, Zw, Zx, Zy, Zz, Zaa, Zab, Zac, Zad, wk1, wk, Zae, Zaf, Zag, Zah, Zai, Zaj, Zak, Zal, AV.kill, AO.kill, AV.thaw, AO.thaw, Zam, Zan, Zao, Zap, Zaq, Zar, Zas, Zat, Zau, ite_true, ite_false, reduceCtorEq, Nat.reduceAdd, Nat.reduceMul, Nat.reduceLeDiff, Nat.reduceLT, Nat.reduceEqDiff, forall_const]
        refine use1 nears_ok rfl (.inl rfl) ?_
        simp only [ZZ, Za, Zb, Zc, Zd, Ze, Zf, Zg, Zh, rd, AV.un, AV.unA, AV.ad, Zi, Zj, Zk, Zl, Zm, Zn, Zo, Zp, Zq, Zr, Zs, Zt, Zu, Zv, Zw, Zx, Zy, Zz, Zaa, Zab, Zac, Zad, wk1, wk, Zae, Zaf, Zag, Zah, Zai, Zaj, Zak, Zal, AV.kill, AO.kill, AV.thaw, AO.thaw, Zam, Zan, Zao, Zap, Zaq, Zar, Zas, Zat, Zau, ite_true, ite_false, reduceCtorEq, Nat.reduceAdd, Nat.reduceMul, Nat.reduceLeDiff, Nat.reduceLT, Nat.reduceEqDiff, forall_const]
        ((repeat' (with_reducible apply And.intro)) <;> try ((first | first | assumption | trivial | exact (fun hq => by rw [hq]; rfl) | exact i64_of (by omega) (by omega) | omega | (simp; done) | (simp; omega) | (intro hsc; have hs0 := hsc; (try have hsd := of_decide_eq_true hsc); (try simp only [Bool.not_eq_true', Bool.or_eq_false_iff, Bool.and_eq_true, Bool.or_eq_true, decide_eq_true_eq, decide_eq_false_iff_not] at hsc); (repeat' (with_reducible apply And.intro)) <;> (first | assumption | trivial | exact (fun hq => by rw [hq]; rfl) | exact i64_of (by omega) (by omega) | omega | (simp; done) | (simp; omega) | (intro hse; simp [hse, hs0]; done) | (intro hse; simp only [hse, hs0, Bool.true_and, Bool.and_true, Bool.not_false, Bool.not_true, Bool.and_self]; done))))))
      · intro h
        simp at h
    | true =>
      cases hq : rightF q1 q2 with
      | false =>
        have hx := hy2 (.inr hq)
        subst hx
        refine br ?_ ?_
        · intro _
          simp only [ZZ, Za, Zb, Zc, Zd, Ze, Zf, Zg, Zh, rd, AV.un, AV.unA, AV.ad, Zi, Zj, Zk, Zl, Zm, Zn, Zo, Zp, Zq, Zr, Zs, Zt, Zu, Zv, Zw, Zx, Zy, Zz, Zaa, Zab, Zac, Zad, wk1, wk, Zae, Zaf, Zag, Zah, Zai, Zaj, Zak, Zal, AV.kill, AO.kill, AV.thaw, AO.thaw, Zam, Zan, Zao, Zap, Zaq, Zar, Zas, Zat, Zau, ite_true, ite_false, reduceCtorEq, Nat.reduceAdd, Nat.reduceMul, Nat.reduceLeDiff, Nat.reduceLT, Nat.reduceEqDiff, forall_const]
          refine use1 nears_ok rfl (.inl rfl) ?_
          simp only [ZZ, Za, Zb, Zc, Zd, Ze, Zf, Zg, Zh, rd, AV.un, AV.unA, AV.ad, Zi, Zj, Zk, Zl, Zm, Zn, Zo, Zp, Zq, Zr, Zs, Zt, Zu, Zv, Zw, Zx, Zy, Zz, Zaa, Zab, Zac, Zad, wk1, wk, Zae, Zaf, Zag, Zah, Zai, Zaj, Zak, Zal, AV.kill, AO.kill, AV.thaw, AO.thaw, Zam, Zan, Zao, Zap, Zaq, Zar, Zas, Zat, Zau, ite_true, ite_false, reduceCtorEq, Nat.reduceAdd, Nat.reduceMul, Nat.reduceLeDiff, Nat.reduceLT, Nat.reduceEqDiff, forall_const]
          ((repeat' (with_reducible apply And.intro)) <;> try ((first | first | assumption | trivial | exact (fun hq => by rw [hq]; rfl) | exact i64_of (by omega) (by omega) | omega | (simp; done) | (simp; omega) | (intro hsc; have hs0 := hsc; (try have hsd := of_decide_eq_true hsc); (try simp only [Bool.not_eq_true', Bool.or_eq_false_iff, Bool.and_eq_true, Bool.or_eq_true, decide_eq_true_eq, decide_eq_false_iff_not] at hsc); (repeat' (with_reducible apply And.intro)) <;> (first | assumption | trivial | exact (fun hq => by rw [hq]; rfl) | exact i64_of (by omega) (by omega) | omega | (simp; done) | (simp; omega) | (intro hse; simp [hse, hs0]; done) | (intro hse; simp only [hse, hs0, Bool.true_and, Bool.and_true, Bool.not_false, Bool.not_true, Bool.and_self]; done))))))
        · intro h
          simp at h
      | true =>
        obtain ⟨hr, hx⟩ := hy1 hp hq
        subst hr
        subst hx
        refine br ?_ ?_
        · intro h
          simp at h
        · intro _
          simp only [ZZ, Za, Zb, Zc, Zd, Ze, Zf, Zg, Zh, rd, AV.un, AV.unA, AV.ad, Zi, Zj, Zk, Zl, Zm, Zn, Zo, Zp, Zq, Zr, Zs, Zt, Zu, Zv, Zw, Zx, Zy, Zz, Zaa, Zab, Zac, Zad, wk1, wk, Zae, Zaf, Zag, Zah, Zai, Zaj, Zak, Zal, AV.kill, AO.kill, AV.thaw, AO.thaw, Zam, Zan, Zao, Zap, Zaq, Zar, Zas, Zat, Zau, ite_true, ite_false, reduceCtorEq, Nat.reduceAdd, Nat.reduceMul, Nat.reduceLeDiff, Nat.reduceLT, Nat.reduceEqDiff, forall_const]
          refine use1 nears_ok rfl (.inl rfl) ?_
          simp only [ZZ, Za, Zb, Zc, Zd, Ze, Zf, Zg, Zh, rd, AV.un, AV.unA, AV.ad, Zi, Zj, Zk, Zl, Zm, Zn, Zo, Zp, Zq, Zr, Zs, Zt, Zu, Zv, Zw, Zx, Zy, Zz, Zaa, Zab, Zac, Zad, wk1, wk, Zae, Zaf, Zag, Zah, Zai, Zaj, Zak, Zal, AV.kill, AO.kill, AV.thaw, AO.thaw, Zam, Zan, Zao, Zap, Zaq, Zar, Zas, Zat, Zau, ite_true, ite_false, reduceCtorEq, Nat.reduceAdd, Nat.reduceMul, Nat.reduceLeDiff, Nat.reduceLT, Nat.reduceEqDiff, forall_const]
          ((repeat' (with_reducible apply And.intro)) <;> try ((first | first | assumption | trivial | exact (fun hq => by rw [hq]; rfl) | exact i64_of (by omega) (by omega) | omega | (simp; done) | (simp; omega) | (intro hsc; have hs0 := hsc; (try have hsd := of_decide_eq_true hsc); (try simp only [Bool.not_eq_true', Bool.or_eq_false_iff, Bool.and_eq_true, Bool.or_eq_true, decide_eq_true_eq, decide_eq_false_iff_not] at hsc); (repeat' (with_reducible apply And.intro)) <;> (first | assumption | trivial | exact (fun hq => by rw [hq]; rfl) | exact i64_of (by omega) (by omega) | omega | (simp; done) | (simp; omega) | (intro hse; simp [hse, hs0]; done) | (intro hse; simp only [hse, hs0, Bool.true_and, Bool.and_true, Bool.not_false, Bool.not_true, Bool.and_self]; done))))))
          refine useG (fun _ => CompareOf_ok p1 p2 q1 q2 hp hq) rfl (.inl rfl) ?_
          simp only [ZZ, Za, Zb, Zc, Zd, Ze, Zf, Zg, Zh, rd, AV.un, AV.unA, AV.ad, Zi, Zj, Zk, Zl, Zm, Zn, Zo, Zp, Zq, Zr, Zs, Zt, Zu, Zv, Zw, Zx, Zy, Zz, Zaa, Zab, Zac, Zad, wk1, wk, Zae, Zaf, Zag, Zah, Zai, Zaj, Zak, Zal, AV.kill, AO.kill, AV.thaw, AO.thaw, Zam, Zan, Zao, Zap, Zaq, Zar, Zas, Zat, Zau, ite_true, ite_false, reduceCtorEq, Nat.reduceAdd, Nat.reduceMul, Nat.reduceLeDiff, Nat.reduceLT, Nat.reduceEqDiff, forall_const]
          ((repeat' (with_reducible apply And.intro)) <;> try ((first | first | assumption | trivial | exact (fun hq => by rw [hq]; rfl) | exact i64_of (by omega) (by omega) | omega | (simp; done) | (simp; omega) | (intro hsc; have hs0 := hsc; (try have hsd := of_decide_eq_true hsc); (try simp only [Bool.not_eq_true', Bool.or_eq_false_iff, Bool.and_eq_true, Bool.or_eq_true, decide_eq_true_eq, decide_eq_false_iff_not] at hsc); (repeat' (with_reducible apply And.intro)) <;> (first | assumption | trivial | exact (fun hq => by rw [hq]; rfl) | exact i64_of (by omega) (by omega) | omega | (simp; done) | (simp; omega) | (intro hse; simp [hse, hs0]; done) | (intro hse; simp only [hse, hs0, Bool.true_and, Bool.and_true, Bool.not_false, Bool.not_true, Bool.and_self]; done))))))
theorem shinglesLike_walk (a0 : Option Addr) (len0 cap0 : Nat) (z0 : List Int) (w : World) (h0 : IsRow .i64 w a0 len0 cap0 z0) :
    Calls Try.prog 4 #[.slice a0 len0 cap0] w fun e w' => e = .returned (.bool true) ∧ Below w.heap.size w w' :=
  walk_of shinglesLike_ok a0 len0 cap0 z0 w h0 trivial (fun _ h => h.elim)
end Go.Proofs.Ytpddiepfolfnoaa
