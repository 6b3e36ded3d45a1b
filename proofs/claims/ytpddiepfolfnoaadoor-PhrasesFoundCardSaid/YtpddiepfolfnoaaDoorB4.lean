/- Spans: what makes them. -/
import Derived.Test.YtpddiepfolfnoaaDoorB3
namespace Go.Proofs.YtpddiepfolfnoaaDoor
set_option linter.unusedVariables false
set_option linter.unusedSimpArgs false
set_option linter.defProp false

/- (*paperchase/chasemake.Stream).SpanList -/
def ir_chasemake_Stream_SpanList_L0 : IC :=
  (.seq (.reg [⟨some 12, .bin .lss (.t 11) (.t 10), none⟩])
    (.seq (.cond (.t 12) .skip (.exit 0))
    (.seq (.block 1 (.seq (.reg [⟨some 13, .mov (.t 6), none⟩,
      ⟨some 14, .mov (.t 0), none⟩,
      ⟨some 15, .bsl 1 [.c (.int .i64 0), .c (.int .i64 1), .c (.int .i64 2), .c (.int .i64 5)], none⟩,
      ⟨some 16, .call 20 [.t 14, .t 15], none⟩,
      ⟨some 17, .bin .add (.t 13) (.t 16), none⟩,
      ⟨some 7, .mov (.t 17), none⟩])
    (.seq (.reg [⟨some 18, .mov (.t 7), none⟩,
      ⟨some 19, .mov (.t 0), none⟩,
      ⟨some 20, .bsl 1 [.c (.int .i64 1), .c (.int .i64 1), .c (.int .i64 2), .c (.int .i64 4), .c (.int .i64 9)], none⟩,
      ⟨some 21, .call 20 [.t 19, .t 20], none⟩,
      ⟨some 22, .bin .add (.t 18) (.t 21), none⟩,
      ⟨some 8, .mov (.t 22), none⟩])
    (.seq (.seq (.reg [⟨some 23, .mov (.t 8), none⟩,
      ⟨some 24, .mov (.t 1), none⟩,
      ⟨some 25, .bin .gtr (.t 23) (.t 24), none⟩])
    (.cond (.t 25) (.exit 0) .skip))
    (.seq (.reg [⟨some 26, .mov (.t 5), none⟩,
      ⟨some 27, .mov (.t 7), none⟩,
      ⟨some 28, .mov (.t 8), none⟩,
      ⟨some 29, .bld [.int .i64 0, .int .i64 0] [(0, 1, .t 27), (1, 1, .t 28)], none⟩,
      ⟨some 30, .bsl 2 [.t 29], none⟩,
      ⟨some 31, .app 46 2 16 (.t 26) (.t 30), none⟩,
      ⟨some 5, .mov (.t 31), none⟩])
    (.reg [⟨some 32, .mov (.t 8), none⟩,
      ⟨some 33, .bin .add (.t 32) (.c (.int .i64 1)), none⟩,
      ⟨some 6, .mov (.t 33), none⟩]))))))
    (.reg [⟨some 34, .bin .add (.t 11) (.c (.int .i64 1)), none⟩,
      ⟨some 11, .mov (.t 34), none⟩]))))
def ir_chasemake_Stream_SpanList : IC :=
  (.seq (.reg [⟨some 4, .mov (.c (.nl 2)), none⟩])
    (.seq (.reg [⟨some 5, .nilr 46 2, none⟩])
    (.seq (.reg [⟨some 6, .mov (.c (.int .i64 0)), none⟩])
    (.seq (.seq (.reg [⟨some 9, .mov (.t 0), none⟩,
      ⟨some 10, .call 37 [.t 9, .c (.int .i64 5)], none⟩,
      ⟨some 11, .mov (.c (.int .i64 0)), none⟩])
    (.block 0 (.loop ir_chasemake_Stream_SpanList_L0)))
    (.cut (.seq (.reg [⟨some 35, .mov (.t 5), none⟩,
      ⟨some 4, .mov (.t 35), none⟩])
    .ret))))))
def rs_chasemake_Stream_SpanList : List IRes := [.t 4]
theorem ck_chasemake_Stream_SpanList : chkF Tryd.prog Tryd.f89 ir_chasemake_Stream_SpanList rs_chasemake_Stream_SpanList 36 = true := by kernel_rfl
/- (*paperchase/chasemake.Stream).AnySpans -/
def ir_chasemake_Stream_AnySpans : IC :=
  (.seq (.reg [⟨some 4, .mov (.c (.nl 2)), none⟩])
    (.seq (.reg [⟨some 6, .mov (.t 0), none⟩,
      ⟨some 7, .mov (.t 1), none⟩,
      ⟨some 8, .call 89 [.t 6, .t 7], none⟩,
      ⟨some 5, .mov (.t 8), none⟩])
    (.seq (.seq (.reg [⟨some 9, .mov (.t 0), none⟩,
      ⟨some 10, .call 39 [.t 9, .c (.int .i64 10)], none⟩])
    (.cond (.t 10) (.reg [⟨some 11, .mov (.t 5), none⟩,
      ⟨some 12, .mov (.t 0), none⟩,
      ⟨some 13, .mov (.t 1), none⟩,
      ⟨some 14, .mov (.t 1), none⟩,
      ⟨some 15, .bin .sub (.t 14) (.c (.int .i64 1)), none⟩,
      ⟨some 16, .bsl 1 [.c (.int .i64 (-1)), .c (.int .i64 0), .t 13, .t 15], none⟩,
      ⟨some 17, .call 20 [.t 12, .t 16], none⟩,
      ⟨some 18, .mov (.t 0), none⟩,
      ⟨some 19, .mov (.t 1), none⟩,
      ⟨some 20, .mov (.t 1), none⟩,
      ⟨some 21, .bin .add (.t 20) (.c (.int .i64 1)), none⟩,
      ⟨some 22, .bsl 1 [.c (.int .i64 0), .t 19, .t 21], none⟩,
      ⟨some 23, .call 20 [.t 18, .t 22], none⟩,
      ⟨none, .fz (.t 17), none⟩,
      ⟨none, .fz (.t 23), none⟩,
      ⟨some 24, .bld [.int .i64 0, .int .i64 0] [(0, 1, .t 17), (1, 1, .t 23)], none⟩,
      ⟨some 25, .bsl 2 [.t 24], none⟩,
      ⟨some 26, .app 46 2 16 (.t 11) (.t 25), none⟩,
      ⟨some 5, .mov (.t 26), none⟩]) .skip))
    (.cut (.seq (.reg [⟨some 27, .mov (.t 5), none⟩,
      ⟨some 4, .mov (.t 27), none⟩])
    .ret)))))
def rs_chasemake_Stream_AnySpans : List IRes := [.t 4]
theorem ck_chasemake_Stream_AnySpans : chkF Tryd.prog Tryd.f21 ir_chasemake_Stream_AnySpans rs_chasemake_Stream_AnySpans 28 = true := by kernel_rfl


section
variable {E : Envt}
abbrev tSpan : Nat := 46
theorem SpanList_ok (l : List Int) (k : Nat) (size : Int) (hk : k ≤ 900000) (hl : l.length ≤ 9223372036854775807) :
    SFresh Tryd.prog E 89 T (stm l k) [int size] tSpan 2 (fun es cs' => ∃ (o : List (Int × Int)) (k' : Nat), es = o.map spn ∧ o.length ≤ 5 ∧ cs' = stm l k' ∧ k' ≤ k + 20) := by
  unfold SFresh
  refine gcallR mixed Tryd.func89 ck_chasemake_Stream_SpanList ?_
  simp only [a0, l0, OS.ao, List.map_cons, List.map_nil, List.length_cons, List.length_nil, List.cons_append, List.nil_append, Nat.reduceSub, Nat.reduceAdd, List.replicate_succ, List.replicate_zero, ir_chasemake_Stream_SpanList, rs_chasemake_Stream_SpanList, ZZ, Za, Zb, Zc, Zd, Ze, Zf, Zg, Zh, rd, AV.un, AV.unA, AV.ad, Zi, Zj, Zk, Zl, Zm, Zn, Zo, Zp, Zq, Zr, Zs, Zt, Zu, Zv, Zw, Zx, Zy, Zz, Zaa, Zab, Zac, Zad, wk1, wk, Zae, Zaf, Zag, Zah, Zai, Zaj, Zak, Zal, AV.kill, AO.kill, AV.thaw, AO.thaw, Zam, Zan, Zao, Zap, Zaq, Zar, Zas, Zat, Zau, ite_true, ite_false, reduceCtorEq, Nat.reduceAdd, Nat.reduceMul, Nat.reduceLeDiff, Nat.reduceLT, Nat.reduceEqDiff, forall_const]
  refine useS (Next_ok l k _ (by omega) hl (by decide)) rfl rfl rfl (by simp only [ZZ, Za, Zb, Zc, Zd, Ze, Zf, Zg, Zh, rd, AV.un, AV.unA, AV.ad, Zi, Zj, Zk, Zl, Zm, Zn, Zo, Zp, Zq, Zr, Zs, Zt, Zu, Zv, Zw, Zx, Zy, Zz, Zaa, Zab, Zac, Zad, wk1, wk, Zae, Zaf, Zag, Zah, Zai, Zaj, Zak, Zal, AV.kill, AO.kill, AV.thaw, AO.thaw, Zam, Zan, Zao, Zap, Zaq, Zar, Zas, Zat, Zau, ite_true, ite_false, reduceCtorEq, Nat.reduceAdd, Nat.reduceMul, Nat.reduceLeDiff, Nat.reduceLT, Nat.reduceEqDiff, forall_const]) ?_
  rintro x cs' ⟨y, rfl, rfl⟩
  have b1 := below_lo y 5
  have b2 := below_hi y 5 (by omega)
  generalize below y 5 = m at *
  simp only [ZZ, Za, Zb, Zc, Zd, Ze, Zf, Zg, Zh, rd, AV.un, AV.unA, AV.ad, Zi, Zj, Zk, Zl, Zm, Zn, Zo, Zp, Zq, Zr, Zs, Zt, Zu, Zv, Zw, Zx, Zy, Zz, Zaa, Zab, Zac, Zad, wk1, wk, Zae, Zaf, Zag, Zah, Zai, Zaj, Zak, Zal, AV.kill, AO.kill, AV.thaw, AO.thaw, Zam, Zan, Zao, Zap, Zaq, Zar, Zas, Zat, Zau, ite_true, ite_false, reduceCtorEq, Nat.reduceAdd, Nat.reduceMul, Nat.reduceLeDiff, Nat.reduceLT, Nat.reduceEqDiff, forall_const]
  refine loop_intro (fun n fr L => ∃ (i k' : Nat) (at_ : Int) (o : List (Int × Int)), n = 5 - i ∧ i ≤ 5 ∧ (i : Int) ≤ m ∧ k' ≤ k + 1 + 2 * i ∧ 0 ≤ at_ ∧ at_ ≤ 20 * i ∧ o.length ≤ i ∧ fr = [.adr (.b 0) 0, .p (int size), .any, .any, .any, .row (.l 5), .p (int at_), .any, .any, .any, .p (int m), .p (int (i : Nat)), .any, .any, .any, .any, .any, .any, .any, .any, .any, .any, .any, .any, .any, .any, .any, .any, .any, .any, .any, .any, .any, .any, .any, .any] ∧ L = [(.b 0, .box ((stm l k').map .p) T), (.l 5, .row (o.map spn) tSpan 2 true)]) 5 [.adr (.b 0) 0, .p (int size), .any, .any, .any, .row (.l 5), .p (int 0), .any, .any, .any, .p (int m), .p (int (0 : Nat)), .any, .any, .any, .any, .any, .any, .any, .any, .any, .any, .any, .any, .any, .any, .any, .any, .any, .any, .any, .any, .any, .any, .any, .any] [(.b 0, .box ((stm l (k + 1)).map .p) T), (.l 5, .row [] tSpan 2 true)] (by (simp only [ZZ, Za, Zb, Zc, Zd, Ze, Zf, Zg, Zh, rd, AV.un, AV.unA, AV.ad, Zi, Zj, Zk, Zl, Zm, Zn, Zo, Zp, Zq, Zr, Zs, Zt, Zu, Zv, Zw, Zx, Zy, Zz, Zaa, Zab, Zac, Zad, wk1, wk, Zae, Zaf, Zag, Zah, Zai, Zaj, Zak, Zal, AV.kill, AO.kill, AV.thaw, AO.thaw, Zam, Zan, Zao, Zap, Zaq, Zar, Zas, Zat, Zau, ite_true, ite_false, reduceCtorEq, Nat.reduceAdd, Nat.reduceMul, Nat.reduceLeDiff, Nat.reduceLT, Nat.reduceEqDiff, forall_const]; try trivial)) (by simp only [ZZ, Za, Zb, Zc, Zd, Ze, Zf, Zg, Zh, rd, AV.un, AV.unA, AV.ad, Zi, Zj, Zk, Zl, Zm, Zn, Zo, Zp, Zq, Zr, Zs, Zt, Zu, Zv, Zw, Zx, Zy, Zz, Zaa, Zab, Zac, Zad, wk1, wk, Zae, Zaf, Zag, Zah, Zai, Zaj, Zak, Zal, AV.kill, AO.kill, AV.thaw, AO.thaw, Zam, Zan, Zao, Zap, Zaq, Zar, Zas, Zat, Zau, ite_true, ite_false, reduceCtorEq, Nat.reduceAdd, Nat.reduceMul, Nat.reduceLeDiff, Nat.reduceLT, Nat.reduceEqDiff, forall_const]) ⟨0, k + 1, 0, [], by omega, by omega, by omega, by omega, by omega, by omega, by simp, rfl, rfl⟩ ?_
  rintro n fr L ⟨i, k', at_, o, rfl, hi5, him, hk', ha0, ha1, ho, rfl, rfl⟩
  simp only [ir_chasemake_Stream_SpanList_L0, ZZ, Za, Zb, Zc, Zd, Ze, Zf, Zg, Zh, rd, AV.un, AV.unA, AV.ad, Zi, Zj, Zk, Zl, Zm, Zn, Zo, Zp, Zq, Zr, Zs, Zt, Zu, Zv, Zw, Zx, Zy, Zz, Zaa, Zab, Zac, Zad, wk1, wk, Zae, Zaf, Zag, Zah, Zai, Zaj, Zak, Zal, AV.kill, AO.kill, AV.thaw, AO.thaw, Zam, Zan, Zao, Zap, Zaq, Zar, Zas, Zat, Zau, ite_true, ite_false, reduceCtorEq, Nat.reduceAdd, Nat.reduceMul, Nat.reduceLeDiff, Nat.reduceLT, Nat.reduceEqDiff, forall_const]
  refine br ?_ ?_
  · intro h
    have hlt : (i : Int) < m := of_decide_eq_true h
    simp only [ZZ, Za, Zb, Zc, Zd, Ze, Zf, Zg, Zh, rd, AV.un, AV.unA, AV.ad, Zi, Zj, Zk, Zl, Zm, Zn, Zo, Zp, Zq, Zr, Zs, Zt, Zu, Zv, Zw, Zx, Zy, Zz, Zaa, Zab, Zac, Zad, wk1, wk, Zae, Zaf, Zag, Zah, Zai, Zaj, Zak, Zal, AV.kill, AO.kill, AV.thaw, AO.thaw, Zam, Zan, Zao, Zap, Zaq, Zar, Zas, Zat, Zau, ite_true, ite_false, reduceCtorEq, Nat.reduceAdd, Nat.reduceMul, Nat.reduceLeDiff, Nat.reduceLT, Nat.reduceEqDiff, forall_const]
    refine useS (Pick_ok l k' [0, 1, 2, 5] (by omega) hl (by simp) (by simp)) rfl rfl rfl (by simp only [ZZ, Za, Zb, Zc, Zd, Ze, Zf, Zg, Zh, rd, AV.un, AV.unA, AV.ad, Zi, Zj, Zk, Zl, Zm, Zn, Zo, Zp, Zq, Zr, Zs, Zt, Zu, Zv, Zw, Zx, Zy, Zz, Zaa, Zab, Zac, Zad, wk1, wk, Zae, Zaf, Zag, Zah, Zai, Zaj, Zak, Zal, AV.kill, AO.kill, AV.thaw, AO.thaw, Zam, Zan, Zao, Zap, Zaq, Zar, Zas, Zat, Zau, ite_true, ite_false, reduceCtorEq, Nat.reduceAdd, Nat.reduceMul, Nat.reduceLeDiff, Nat.reduceLT, Nat.reduceEqDiff, forall_const]) ?_
    rintro x cs' ⟨p, rfl, hp, rfl⟩
    have hp' : 0 ≤ p ∧ p ≤ 5 := by simp at hp; omega
    simp only [ZZ, Za, Zb, Zc, Zd, Ze, Zf, Zg, Zh, rd, AV.un, AV.unA, AV.ad, Zi, Zj, Zk, Zl, Zm, Zn, Zo, Zp, Zq, Zr, Zs, Zt, Zu, Zv, Zw, Zx, Zy, Zz, Zaa, Zab, Zac, Zad, wk1, wk, Zae, Zaf, Zag, Zah, Zai, Zaj, Zak, Zal, AV.kill, AO.kill, AV.thaw, AO.thaw, Zam, Zan, Zao, Zap, Zaq, Zar, Zas, Zat, Zau, ite_true, ite_false, reduceCtorEq, Nat.reduceAdd, Nat.reduceMul, Nat.reduceLeDiff, Nat.reduceLT, Nat.reduceEqDiff, forall_const]
    refine ⟨i64_of (by omega) (by omega), ?_⟩
    refine useS (Pick_ok l (k' + 1) [1, 1, 2, 4, 9] (by omega) hl (by simp) (by simp)) rfl rfl rfl (by simp only [ZZ, Za, Zb, Zc, Zd, Ze, Zf, Zg, Zh, rd, AV.un, AV.unA, AV.ad, Zi, Zj, Zk, Zl, Zm, Zn, Zo, Zp, Zq, Zr, Zs, Zt, Zu, Zv, Zw, Zx, Zy, Zz, Zaa, Zab, Zac, Zad, wk1, wk, Zae, Zaf, Zag, Zah, Zai, Zaj, Zak, Zal, AV.kill, AO.kill, AV.thaw, AO.thaw, Zam, Zan, Zao, Zap, Zaq, Zar, Zas, Zat, Zau, ite_true, ite_false, reduceCtorEq, Nat.reduceAdd, Nat.reduceMul, Nat.reduceLeDiff, Nat.reduceLT, Nat.reduceEqDiff, forall_const]) ?_
    rintro x cs' ⟨q, rfl, hq, rfl⟩
    have hq' : 0 ≤ q ∧ q ≤ 9 := by simp at hq; omega
    simp only [ZZ, Za, Zb, Zc, Zd, Ze, Zf, Zg, Zh, rd, AV.un, AV.unA, AV.ad, Zi, Zj, Zk, Zl, Zm, Zn, Zo, Zp, Zq, Zr, Zs, Zt, Zu, Zv, Zw, Zx, Zy, Zz, Zaa, Zab, Zac, Zad, wk1, wk, Zae, Zaf, Zag, Zah, Zai, Zaj, Zak, Zal, AV.kill, AO.kill, AV.thaw, AO.thaw, Zam, Zan, Zao, Zap, Zaq, Zar, Zas, Zat, Zau, ite_true, ite_false, reduceCtorEq, Nat.reduceAdd, Nat.reduceMul, Nat.reduceLeDiff, Nat.reduceLT, Nat.reduceEqDiff, forall_const]
    refine ⟨i64_of (by omega) (by omega), ?_⟩
    refine br ?_ ?_
    · intro h2
      simp only [ZZ, Za, Zb, Zc, Zd, Ze, Zf, Zg, Zh, rd, AV.un, AV.unA, AV.ad, Zi, Zj, Zk, Zl, Zm, Zn, Zo, Zp, Zq, Zr, Zs, Zt, Zu, Zv, Zw, Zx, Zy, Zz, Zaa, Zab, Zac, Zad, wk1, wk, Zae, Zaf, Zag, Zah, Zai, Zaj, Zak, Zal, AV.kill, AO.kill, AV.thaw, AO.thaw, Zam, Zan, Zao, Zap, Zaq, Zar, Zas, Zat, Zau, ite_true, ite_false, reduceCtorEq, Nat.reduceAdd, Nat.reduceMul, Nat.reduceLeDiff, Nat.reduceLT, Nat.reduceEqDiff, forall_const]
      refine cut_same (by simp only [ZZ, Za, Zb, Zc, Zd, Ze, Zf, Zg, Zh, rd, AV.un, AV.unA, AV.ad, Zi, Zj, Zk, Zl, Zm, Zn, Zo, Zp, Zq, Zr, Zs, Zt, Zu, Zv, Zw, Zx, Zy, Zz, Zaa, Zab, Zac, Zad, wk1, wk, Zae, Zaf, Zag, Zah, Zai, Zaj, Zak, Zal, AV.kill, AO.kill, AV.thaw, AO.thaw, Zam, Zan, Zao, Zap, Zaq, Zar, Zas, Zat, Zau, ite_true, ite_false, reduceCtorEq, Nat.reduceAdd, Nat.reduceMul, Nat.reduceLeDiff, Nat.reduceLT, Nat.reduceEqDiff, forall_const]) ?_
      simp only [ZZ, Za, Zb, Zc, Zd, Ze, Zf, Zg, Zh, rd, AV.un, AV.unA, AV.ad, Zi, Zj, Zk, Zl, Zm, Zn, Zo, Zp, Zq, Zr, Zs, Zt, Zu, Zv, Zw, Zx, Zy, Zz, Zaa, Zab, Zac, Zad, wk1, wk, Zae, Zaf, Zag, Zah, Zai, Zaj, Zak, Zal, AV.kill, AO.kill, AV.thaw, AO.thaw, Zam, Zan, Zao, Zap, Zaq, Zar, Zas, Zat, Zau, ite_true, ite_false, reduceCtorEq, Nat.reduceAdd, Nat.reduceMul, Nat.reduceLeDiff, Nat.reduceLT, Nat.reduceEqDiff, forall_const]
      exact fin_SF 5 _ (stm l (k' + 1 + 1)) rfl rfl rfl ⟨o, k' + 1 + 1, rfl, by omega, rfl, by omega⟩
    · intro h2
      simp only [ZZ, Za, Zb, Zc, Zd, Ze, Zf, Zg, Zh, rd, AV.un, AV.unA, AV.ad, Zi, Zj, Zk, Zl, Zm, Zn, Zo, Zp, Zq, Zr, Zs, Zt, Zu, Zv, Zw, Zx, Zy, Zz, Zaa, Zab, Zac, Zad, wk1, wk, Zae, Zaf, Zag, Zah, Zai, Zaj, Zak, Zal, AV.kill, AO.kill, AV.thaw, AO.thaw, Zam, Zan, Zao, Zap, Zaq, Zar, Zas, Zat, Zau, ite_true, ite_false, reduceCtorEq, Nat.reduceAdd, Nat.reduceMul, Nat.reduceLeDiff, Nat.reduceLT, Nat.reduceEqDiff, forall_const]
      ((repeat' (with_reducible apply And.intro)) <;> try ((first | first | assumption | trivial | exact (fun hq => by rw [hq]; rfl) | exact i64_of (by omega) (by omega) | omega | (simp; done) | (simp; omega) | (intro hsc; have hs0 := hsc; (try have hsd := of_decide_eq_true hsc); (try simp only [Bool.not_eq_true', Bool.or_eq_false_iff, Bool.and_eq_true, Bool.or_eq_true, decide_eq_true_eq, decide_eq_false_iff_not] at hsc); (repeat' (with_reducible apply And.intro)) <;> (first | assumption | trivial | exact (fun hq => by rw [hq]; rfl) | exact i64_of (by omega) (by omega) | omega | (simp; done) | (simp; omega) | (intro hse; simp [hse, hs0]; done))))))
      refine end_round (5 - (i + 1)) [.adr (.b 0) 0, .p (int size), .any, .any, .any, .row (.l 5), .p (int (at_ + p + q + 1)), .any, .any, .any, .p (int m), .p (int ((i + 1 : Nat))), .any, .any, .any, .any, .any, .any, .any, .any, .any, .any, .any, .any, .any, .any, .any, .any, .any, .any, .any, .any, .any, .any, .any, .any] [(.b 0, .box ((stm l (k' + 1 + 1)).map .p) T), (.l 5, .row ((o ++ [(at_ + p, at_ + p + q)]).map spn) tSpan 2 true)] (by omega) (by (simp only [ZZ, Za, Zb, Zc, Zd, Ze, Zf, Zg, Zh, rd, AV.un, AV.unA, AV.ad, Zi, Zj, Zk, Zl, Zm, Zn, Zo, Zp, Zq, Zr, Zs, Zt, Zu, Zv, Zw, Zx, Zy, Zz, Zaa, Zab, Zac, Zad, wk1, wk, Zae, Zaf, Zag, Zah, Zai, Zaj, Zak, Zal, AV.kill, AO.kill, AV.thaw, AO.thaw, Zam, Zan, Zao, Zap, Zaq, Zar, Zas, Zat, Zau, ite_true, ite_false, reduceCtorEq, Nat.reduceAdd, Nat.reduceMul, Nat.reduceLeDiff, Nat.reduceLT, Nat.reduceEqDiff, forall_const]; try trivial)) (by simp only [List.map_append, spn, ZZ, Za, Zb, Zc, Zd, Ze, Zf, Zg, Zh, rd, AV.un, AV.unA, AV.ad, Zi, Zj, Zk, Zl, Zm, Zn, Zo, Zp, Zq, Zr, Zs, Zt, Zu, Zv, Zw, Zx, Zy, Zz, Zaa, Zab, Zac, Zad, wk1, wk, Zae, Zaf, Zag, Zah, Zai, Zaj, Zak, Zal, AV.kill, AO.kill, AV.thaw, AO.thaw, Zam, Zan, Zao, Zap, Zaq, Zar, Zas, Zat, Zau, ite_true, ite_false, reduceCtorEq, Nat.reduceAdd, Nat.reduceMul, Nat.reduceLeDiff, Nat.reduceLT, Nat.reduceEqDiff, forall_const]) ⟨i + 1, k' + 1 + 1, at_ + p + q + 1, o ++ [(at_ + p, at_ + p + q)], by omega, by omega, by omega, by omega, by omega, by omega, by simp; omega, rfl, rfl⟩
  · intro h
    simp only [ZZ, Za, Zb, Zc, Zd, Ze, Zf, Zg, Zh, rd, AV.un, AV.unA, AV.ad, Zi, Zj, Zk, Zl, Zm, Zn, Zo, Zp, Zq, Zr, Zs, Zt, Zu, Zv, Zw, Zx, Zy, Zz, Zaa, Zab, Zac, Zad, wk1, wk, Zae, Zaf, Zag, Zah, Zai, Zaj, Zak, Zal, AV.kill, AO.kill, AV.thaw, AO.thaw, Zam, Zan, Zao, Zap, Zaq, Zar, Zas, Zat, Zau, ite_true, ite_false, reduceCtorEq, Nat.reduceAdd, Nat.reduceMul, Nat.reduceLeDiff, Nat.reduceLT, Nat.reduceEqDiff, forall_const]
    refine cut_same (by simp only [ZZ, Za, Zb, Zc, Zd, Ze, Zf, Zg, Zh, rd, AV.un, AV.unA, AV.ad, Zi, Zj, Zk, Zl, Zm, Zn, Zo, Zp, Zq, Zr, Zs, Zt, Zu, Zv, Zw, Zx, Zy, Zz, Zaa, Zab, Zac, Zad, wk1, wk, Zae, Zaf, Zag, Zah, Zai, Zaj, Zak, Zal, AV.kill, AO.kill, AV.thaw, AO.thaw, Zam, Zan, Zao, Zap, Zaq, Zar, Zas, Zat, Zau, ite_true, ite_false, reduceCtorEq, Nat.reduceAdd, Nat.reduceMul, Nat.reduceLeDiff, Nat.reduceLT, Nat.reduceEqDiff, forall_const]) ?_
    simp only [ZZ, Za, Zb, Zc, Zd, Ze, Zf, Zg, Zh, rd, AV.un, AV.unA, AV.ad, Zi, Zj, Zk, Zl, Zm, Zn, Zo, Zp, Zq, Zr, Zs, Zt, Zu, Zv, Zw, Zx, Zy, Zz, Zaa, Zab, Zac, Zad, wk1, wk, Zae, Zaf, Zag, Zah, Zai, Zaj, Zak, Zal, AV.kill, AO.kill, AV.thaw, AO.thaw, Zam, Zan, Zao, Zap, Zaq, Zar, Zas, Zat, Zau, ite_true, ite_false, reduceCtorEq, Nat.reduceAdd, Nat.reduceMul, Nat.reduceLeDiff, Nat.reduceLT, Nat.reduceEqDiff, forall_const]
    exact fin_SF 5 _ (stm l k') rfl rfl rfl ⟨o, k', rfl, by omega, rfl, by omega⟩

theorem AnySpans_ok (l : List Int) (k : Nat) (size : Int) (hk : k ≤ 900000) (hl : l.length ≤ 9223372036854775807) (h0 : 0 ≤ size) (h1 : size ≤ 1000000000) :
    SFresh Tryd.prog E 21 T (stm l k) [int size] tSpan 2 (fun es cs' => ∃ (o : List (Int × Int)) (k' : Nat), es = o.map spn ∧ o.length ≤ 6 ∧ cs' = stm l k' ∧ k' ≤ k + 30) := by
  unfold SFresh
  refine gcallR mixed Tryd.func21 ck_chasemake_Stream_AnySpans ?_
  simp only [a0, l0, OS.ao, List.map_cons, List.map_nil, List.length_cons, List.length_nil, List.cons_append, List.nil_append, Nat.reduceSub, Nat.reduceAdd, List.replicate_succ, List.replicate_zero, ir_chasemake_Stream_AnySpans, rs_chasemake_Stream_AnySpans, ZZ, Za, Zb, Zc, Zd, Ze, Zf, Zg, Zh, rd, AV.un, AV.unA, AV.ad, Zi, Zj, Zk, Zl, Zm, Zn, Zo, Zp, Zq, Zr, Zs, Zt, Zu, Zv, Zw, Zx, Zy, Zz, Zaa, Zab, Zac, Zad, wk1, wk, Zae, Zaf, Zag, Zah, Zai, Zaj, Zak, Zal, AV.kill, AO.kill, AV.thaw, AO.thaw, Zam, Zan, Zao, Zap, Zaq, Zar, Zas, Zat, Zau, ite_true, ite_false, reduceCtorEq, Nat.reduceAdd, Nat.reduceMul, Nat.reduceLeDiff, Nat.reduceLT, Nat.reduceEqDiff, forall_const]
  refine useSF (SpanList_ok l k size hk hl) rfl rfl rfl (by simp only [ZZ, Za, Zb, Zc, Zd, Ze, Zf, Zg, Zh, rd, AV.un, AV.unA, AV.ad, Zi, Zj, Zk, Zl, Zm, Zn, Zo, Zp, Zq, Zr, Zs, Zt, Zu, Zv, Zw, Zx, Zy, Zz, Zaa, Zab, Zac, Zad, wk1, wk, Zae, Zaf, Zag, Zah, Zai, Zaj, Zak, Zal, AV.kill, AO.kill, AV.thaw, AO.thaw, Zam, Zan, Zao, Zap, Zaq, Zar, Zas, Zat, Zau, ite_true, ite_false, reduceCtorEq, Nat.reduceAdd, Nat.reduceMul, Nat.reduceLeDiff, Nat.reduceLT, Nat.reduceEqDiff, forall_const]) ?_
  rintro es cs' ⟨o, k', rfl, ho, rfl, hk'⟩
  simp only [ZZ, Za, Zb, Zc, Zd, Ze, Zf, Zg, Zh, rd, AV.un, AV.unA, AV.ad, Zi, Zj, Zk, Zl, Zm, Zn, Zo, Zp, Zq, Zr, Zs, Zt, Zu, Zv, Zw, Zx, Zy, Zz, Zaa, Zab, Zac, Zad, wk1, wk, Zae, Zaf, Zag, Zah, Zai, Zaj, Zak, Zal, AV.kill, AO.kill, AV.thaw, AO.thaw, Zam, Zan, Zao, Zap, Zaq, Zar, Zas, Zat, Zau, ite_true, ite_false, reduceCtorEq, Nat.reduceAdd, Nat.reduceMul, Nat.reduceLeDiff, Nat.reduceLT, Nat.reduceEqDiff, forall_const]
  refine useS (Flip_ok l k' _ (by omega) hl (by decide)) rfl rfl rfl (by simp only [ZZ, Za, Zb, Zc, Zd, Ze, Zf, Zg, Zh, rd, AV.un, AV.unA, AV.ad, Zi, Zj, Zk, Zl, Zm, Zn, Zo, Zp, Zq, Zr, Zs, Zt, Zu, Zv, Zw, Zx, Zy, Zz, Zaa, Zab, Zac, Zad, wk1, wk, Zae, Zaf, Zag, Zah, Zai, Zaj, Zak, Zal, AV.kill, AO.kill, AV.thaw, AO.thaw, Zam, Zan, Zao, Zap, Zaq, Zar, Zas, Zat, Zau, ite_true, ite_false, reduceCtorEq, Nat.reduceAdd, Nat.reduceMul, Nat.reduceLeDiff, Nat.reduceLT, Nat.reduceEqDiff, forall_const]) ?_
  rintro x cs' ⟨b, rfl, rfl⟩
  simp only [ZZ, Za, Zb, Zc, Zd, Ze, Zf, Zg, Zh, rd, AV.un, AV.unA, AV.ad, Zi, Zj, Zk, Zl, Zm, Zn, Zo, Zp, Zq, Zr, Zs, Zt, Zu, Zv, Zw, Zx, Zy, Zz, Zaa, Zab, Zac, Zad, wk1, wk, Zae, Zaf, Zag, Zah, Zai, Zaj, Zak, Zal, AV.kill, AO.kill, AV.thaw, AO.thaw, Zam, Zan, Zao, Zap, Zaq, Zar, Zas, Zat, Zau, ite_true, ite_false, reduceCtorEq, Nat.reduceAdd, Nat.reduceMul, Nat.reduceLeDiff, Nat.reduceLT, Nat.reduceEqDiff, forall_const]
  refine br ?_ ?_
  · intro hb
    simp only [ZZ, Za, Zb, Zc, Zd, Ze, Zf, Zg, Zh, rd, AV.un, AV.unA, AV.ad, Zi, Zj, Zk, Zl, Zm, Zn, Zo, Zp, Zq, Zr, Zs, Zt, Zu, Zv, Zw, Zx, Zy, Zz, Zaa, Zab, Zac, Zad, wk1, wk, Zae, Zaf, Zag, Zah, Zai, Zaj, Zak, Zal, AV.kill, AO.kill, AV.thaw, AO.thaw, Zam, Zan, Zao, Zap, Zaq, Zar, Zas, Zat, Zau, ite_true, ite_false, reduceCtorEq, Nat.reduceAdd, Nat.reduceMul, Nat.reduceLeDiff, Nat.reduceLT, Nat.reduceEqDiff, forall_const]
    refine ⟨i64_of (by omega) (by omega), ?_⟩
    refine useS (Pick_ok l (k' + 1) [-1, 0, size, size - 1] (by omega) hl (by simp) (by simp)) rfl rfl rfl (by simp only [ZZ, Za, Zb, Zc, Zd, Ze, Zf, Zg, Zh, rd, AV.un, AV.unA, AV.ad, Zi, Zj, Zk, Zl, Zm, Zn, Zo, Zp, Zq, Zr, Zs, Zt, Zu, Zv, Zw, Zx, Zy, Zz, Zaa, Zab, Zac, Zad, wk1, wk, Zae, Zaf, Zag, Zah, Zai, Zaj, Zak, Zal, AV.kill, AO.kill, AV.thaw, AO.thaw, Zam, Zan, Zao, Zap, Zaq, Zar, Zas, Zat, Zau, ite_true, ite_false, reduceCtorEq, Nat.reduceAdd, Nat.reduceMul, Nat.reduceLeDiff, Nat.reduceLT, Nat.reduceEqDiff, forall_const]) ?_
    rintro x cs' ⟨p, rfl, hp, rfl⟩
    simp only [ZZ, Za, Zb, Zc, Zd, Ze, Zf, Zg, Zh, rd, AV.un, AV.unA, AV.ad, Zi, Zj, Zk, Zl, Zm, Zn, Zo, Zp, Zq, Zr, Zs, Zt, Zu, Zv, Zw, Zx, Zy, Zz, Zaa, Zab, Zac, Zad, wk1, wk, Zae, Zaf, Zag, Zah, Zai, Zaj, Zak, Zal, AV.kill, AO.kill, AV.thaw, AO.thaw, Zam, Zan, Zao, Zap, Zaq, Zar, Zas, Zat, Zau, ite_true, ite_false, reduceCtorEq, Nat.reduceAdd, Nat.reduceMul, Nat.reduceLeDiff, Nat.reduceLT, Nat.reduceEqDiff, forall_const]
    refine ⟨i64_of (by omega) (by omega), ?_⟩
    refine useS (Pick_ok l (k' + 1 + 1) [0, size, size + 1] (by omega) hl (by simp) (by simp)) rfl rfl rfl (by simp only [ZZ, Za, Zb, Zc, Zd, Ze, Zf, Zg, Zh, rd, AV.un, AV.unA, AV.ad, Zi, Zj, Zk, Zl, Zm, Zn, Zo, Zp, Zq, Zr, Zs, Zt, Zu, Zv, Zw, Zx, Zy, Zz, Zaa, Zab, Zac, Zad, wk1, wk, Zae, Zaf, Zag, Zah, Zai, Zaj, Zak, Zal, AV.kill, AO.kill, AV.thaw, AO.thaw, Zam, Zan, Zao, Zap, Zaq, Zar, Zas, Zat, Zau, ite_true, ite_false, reduceCtorEq, Nat.reduceAdd, Nat.reduceMul, Nat.reduceLeDiff, Nat.reduceLT, Nat.reduceEqDiff, forall_const]) ?_
    rintro x cs' ⟨q, rfl, hq, rfl⟩
    simp only [ZZ, Za, Zb, Zc, Zd, Ze, Zf, Zg, Zh, rd, AV.un, AV.unA, AV.ad, Zi, Zj, Zk, Zl, Zm, Zn, Zo, Zp, Zq, Zr, Zs, Zt, Zu, Zv, Zw, Zx, Zy, Zz, Zaa, Zab, Zac, Zad, wk1, wk, Zae, Zaf, Zag, Zah, Zai, Zaj, Zak, Zal, AV.kill, AO.kill, AV.thaw, AO.thaw, Zam, Zan, Zao, Zap, Zaq, Zar, Zas, Zat, Zau, ite_true, ite_false, reduceCtorEq, Nat.reduceAdd, Nat.reduceMul, Nat.reduceLeDiff, Nat.reduceLT, Nat.reduceEqDiff, forall_const]
    ((repeat' (with_reducible apply And.intro)) <;> try ((first | first | assumption | trivial | exact (fun hq => by rw [hq]; rfl) | exact i64_of (by omega) (by omega) | omega | (simp; done) | (simp; omega) | (intro hsc; have hs0 := hsc; (try have hsd := of_decide_eq_true hsc); (try simp only [Bool.not_eq_true', Bool.or_eq_false_iff, Bool.and_eq_true, Bool.or_eq_true, decide_eq_true_eq, decide_eq_false_iff_not] at hsc); (repeat' (with_reducible apply And.intro)) <;> (first | assumption | trivial | exact (fun hq => by rw [hq]; rfl) | exact i64_of (by omega) (by omega) | omega | (simp; done) | (simp; omega) | (intro hse; simp [hse, hs0]; done))))))
    refine cut_same (by simp only [ZZ, Za, Zb, Zc, Zd, Ze, Zf, Zg, Zh, rd, AV.un, AV.unA, AV.ad, Zi, Zj, Zk, Zl, Zm, Zn, Zo, Zp, Zq, Zr, Zs, Zt, Zu, Zv, Zw, Zx, Zy, Zz, Zaa, Zab, Zac, Zad, wk1, wk, Zae, Zaf, Zag, Zah, Zai, Zaj, Zak, Zal, AV.kill, AO.kill, AV.thaw, AO.thaw, Zam, Zan, Zao, Zap, Zaq, Zar, Zas, Zat, Zau, ite_true, ite_false, reduceCtorEq, Nat.reduceAdd, Nat.reduceMul, Nat.reduceLeDiff, Nat.reduceLT, Nat.reduceEqDiff, forall_const]) ?_
    simp only [ZZ, Za, Zb, Zc, Zd, Ze, Zf, Zg, Zh, rd, AV.un, AV.unA, AV.ad, Zi, Zj, Zk, Zl, Zm, Zn, Zo, Zp, Zq, Zr, Zs, Zt, Zu, Zv, Zw, Zx, Zy, Zz, Zaa, Zab, Zac, Zad, wk1, wk, Zae, Zaf, Zag, Zah, Zai, Zaj, Zak, Zal, AV.kill, AO.kill, AV.thaw, AO.thaw, Zam, Zan, Zao, Zap, Zaq, Zar, Zas, Zat, Zau, ite_true, ite_false, reduceCtorEq, Nat.reduceAdd, Nat.reduceMul, Nat.reduceLeDiff, Nat.reduceLT, Nat.reduceEqDiff, forall_const]
    exact fin_SF 8 _ (stm l (k' + 1 + 1 + 1)) rfl rfl rfl ⟨o ++ [(p, q)], k' + 1 + 1 + 1, by simp [spn], by simp; omega, rfl, by omega⟩
  · intro hb
    simp only [ZZ, Za, Zb, Zc, Zd, Ze, Zf, Zg, Zh, rd, AV.un, AV.unA, AV.ad, Zi, Zj, Zk, Zl, Zm, Zn, Zo, Zp, Zq, Zr, Zs, Zt, Zu, Zv, Zw, Zx, Zy, Zz, Zaa, Zab, Zac, Zad, wk1, wk, Zae, Zaf, Zag, Zah, Zai, Zaj, Zak, Zal, AV.kill, AO.kill, AV.thaw, AO.thaw, Zam, Zan, Zao, Zap, Zaq, Zar, Zas, Zat, Zau, ite_true, ite_false, reduceCtorEq, Nat.reduceAdd, Nat.reduceMul, Nat.reduceLeDiff, Nat.reduceLT, Nat.reduceEqDiff, forall_const]
    refine cut_same (by simp only [ZZ, Za, Zb, Zc, Zd, Ze, Zf, Zg, Zh, rd, AV.un, AV.unA, AV.ad, Zi, Zj, Zk, Zl, Zm, Zn, Zo, Zp, Zq, Zr, Zs, Zt, Zu, Zv, Zw, Zx, Zy, Zz, Zaa, Zab, Zac, Zad, wk1, wk, Zae, Zaf, Zag, Zah, Zai, Zaj, Zak, Zal, AV.kill, AO.kill, AV.thaw, AO.thaw, Zam, Zan, Zao, Zap, Zaq, Zar, Zas, Zat, Zau, ite_true, ite_false, reduceCtorEq, Nat.reduceAdd, Nat.reduceMul, Nat.reduceLeDiff, Nat.reduceLT, Nat.reduceEqDiff, forall_const]) ?_
    simp only [ZZ, Za, Zb, Zc, Zd, Ze, Zf, Zg, Zh, rd, AV.un, AV.unA, AV.ad, Zi, Zj, Zk, Zl, Zm, Zn, Zo, Zp, Zq, Zr, Zs, Zt, Zu, Zv, Zw, Zx, Zy, Zz, Zaa, Zab, Zac, Zad, wk1, wk, Zae, Zaf, Zag, Zah, Zai, Zaj, Zak, Zal, AV.kill, AO.kill, AV.thaw, AO.thaw, Zam, Zan, Zao, Zap, Zaq, Zar, Zas, Zat, Zau, ite_true, ite_false, reduceCtorEq, Nat.reduceAdd, Nat.reduceMul, Nat.reduceLeDiff, Nat.reduceLT, Nat.reduceEqDiff, forall_const]
    exact fin_SF 8 _ (stm l (k' + 1)) rfl rfl rfl ⟨o, k' + 1, rfl, by omega, rfl, by omega⟩
end
end Go.Proofs.YtpddiepfolfnoaaDoor
