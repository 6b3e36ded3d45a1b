
/- Own texts, put together: C4 C5 C6 C7. -/
import Derived.Test.YtpddiepfolfnoaaDoorM5
import Derived.Lib.ValidLaws
import Derived.Test.YtpddiepfolfnoaaDoorSpec
/- Memos, Find and the reference's FindOf. -/
namespace Go.Proofs.YtpddiepfolfnoaaDoor
open Go.RowKit
set_option linter.unusedVariables false
set_option linter.unusedSimpArgs false
set_option linter.defProp false

/- (*paperchase/chasemake.Stream).Memo -/
def ir_chasemake_Stream_Memo_C1 : IC :=
  (.seq (.reg [⟨some 34, .mov (.t 3), none⟩,
      ⟨some 2, .mov (.t 34), none⟩])
    .ret)
def ir_chasemake_Stream_Memo_C0 : IC :=
  (.seq (.seq (.reg [⟨some 27, .mov (.t 0), none⟩,
      ⟨some 28, .call 39 [.t 27, .c (.int .i64 20)], none⟩])
    (.cond (.t 28) (.reg [⟨some 29, .mov (.t 0), none⟩,
      ⟨some 30, .call 80 [.c (.str [109]), .c (.int .i64 20000)], none⟩,
      ⟨some 31, .bin .add (.t 30) (.c (.str [10])), none⟩,
      ⟨some 32, .bsl 1 [.c (.str [97, 9, 98, 10]), .c (.str [255, 10]), .t 31], none⟩,
      ⟨some 33, .call 79 [.t 29, .t 32], none⟩,
      ⟨some 3, .mov (.t 33), none⟩]) .skip))
    (.cut ir_chasemake_Stream_Memo_C1))
def ir_chasemake_Stream_Memo_L0 : IC :=
  (.seq (.reg [⟨some 7, .bin .lss (.t 6) (.t 5), none⟩])
    (.seq (.cond (.t 7) .skip (.exit 0))
    (.seq (.block 1 (.reg [⟨some 8, .mov (.t 3), none⟩,
      ⟨some 9, .mov (.t 0), none⟩,
      ⟨some 10, .bsl 1 [.c (.str [109, 101, 109, 111]), .c (.str [77, 101, 109, 111]), .c (.str [109, 101, 109, 111, 115]), .c (.str [115, 101, 101, 32, 116, 104, 101]), .c (.str [195, 169, 116, 195, 169]), .c (.str [115, 101, 99, 114, 101, 116]), .c (.str [83, 69, 67, 82, 69, 84, 32, 112, 108, 97, 110]), .c (.str [97]), .c (.str [120, 45, 121]), .c (.str [51, 114, 100])], none⟩,
      ⟨some 11, .call 79 [.t 9, .t 10], none⟩,
      ⟨some 12, .mov (.t 0), none⟩,
      ⟨some 13, .bsl 1 [.c (.str [32]), .c (.str [32]), .c (.str [10]), .c (.str [44, 32]), .c (.str [])], none⟩,
      ⟨some 14, .call 79 [.t 12, .t 13], none⟩,
      ⟨some 15, .bin .add (.t 11) (.t 14), none⟩,
      ⟨some 16, .bin .add (.t 8) (.t 15), none⟩,
      ⟨some 3, .mov (.t 16), none⟩]))
    (.reg [⟨some 17, .bin .add (.t 6) (.c (.int .i64 1)), none⟩,
      ⟨some 6, .mov (.t 17), none⟩]))))
def ir_chasemake_Stream_Memo : IC :=
  (.seq (.reg [⟨some 2, .mov (.c (.str [])), none⟩])
    (.seq (.reg [⟨some 3, .mov (.c (.str [])), none⟩])
    (.seq (.seq (.reg [⟨some 4, .mov (.t 0), none⟩,
      ⟨some 5, .call 37 [.t 4, .c (.int .i64 10)], none⟩,
      ⟨some 6, .mov (.c (.int .i64 0)), none⟩])
    (.block 0 (.loop ir_chasemake_Stream_Memo_L0)))
    (.seq (.seq (.reg [⟨some 18, .mov (.t 3), none⟩,
      ⟨some 19, .bin .neq (.t 18) (.c (.str [])), none⟩,
      ⟨some 20, .mov (.t 19), none⟩,
      ⟨some 21, .mov (.t 0), (some (20, true))⟩,
      ⟨some 22, .call 39 [.t 21, .c (.int .i64 12)], (some (20, true))⟩,
      ⟨some 23, .not (.t 22), (some (20, true))⟩,
      ⟨some 24, .pick (.t 20) (.t 23) (.c (.bool false)), none⟩])
    (.cond (.t 24) (.reg [⟨some 25, .mov (.t 3), none⟩,
      ⟨some 26, .bin .add (.t 25) (.c (.str [10])), none⟩,
      ⟨some 3, .mov (.t 26), none⟩]) .skip))
    (.cut ir_chasemake_Stream_Memo_C0)))))
def rs_chasemake_Stream_Memo : List IRes := [.t 2]
theorem ck_chasemake_Stream_Memo : chkF Tryd.prog Tryd.f36 ir_chasemake_Stream_Memo rs_chasemake_Stream_Memo 35 = true := by kernel_rfl

section
variable {E : Envt}
def memoP (l : List Int) (k : Nat) (x : PV) (cs' : List PV) : Prop := ∃ (t : List UInt8) (k' : Nat), x = .str t ∧ t.length ≤ 20001 ∧ cs' = stm l k' ∧ k' ≤ k + 40
theorem memo_tail (l : List Int) (k k2 : Nat) (t2 : List UInt8) (hk : k ≤ 900000) (hl : l.length ≤ 9223372036854775807) (hk2 : k2 ≤ k + 30) (ht2 : t2.length ≤ 300) :
    awp Tryd.prog E ir_chasemake_Stream_Memo_C0 [.adr (.b 0) 0, .any, .any, .p (.str t2), .any, .any, .any, .any, .any, .any, .any, .any, .any, .any, .any, .any, .any, .any, .any, .any, .any, .any, .any, .any, .any, .any, .any, .any, .any, .any, .any, .any, .any, .any, .any] [(.b 0, .box ((stm l k2).map .p) T)] (retQ [.t 2] (finP (some (.box T (stm l k))) (fun r os => ∃ x cs', r = .p x ∧ os = .box T cs' ∧ memoP l k x cs'))) := by
  simp only [ir_chasemake_Stream_Memo_C0, ZZ, Za, Zb, Zc, Zd, Ze, Zf, Zg, Zh, rd, AV.un, AV.unA, AV.ad, Zi, Zj, Zk, Zl, Zm, Zn, Zo, Zp, Zq, Zr, Zs, Zt, Zu, Zv, Zw, Zx, Zy, Zz, Zaa, Zab, Zac, Zad, wk1, wk, Zae, Zaf, Zag, Zah, Zai, Zaj, Zak, Zal, AV.kill, AO.kill, AV.thaw, AO.thaw, Zam, Zan, Zao, Zap, Zaq, Zar, Zas, Zat, Zau, ite_true, ite_false, reduceCtorEq, Nat.reduceAdd, Nat.reduceMul, Nat.reduceLeDiff, Nat.reduceLT, Nat.reduceEqDiff, forall_const]
  refine useS (Flip_ok l k2 _ (by omega) hl (by decide)) rfl rfl rfl (by simp only [ZZ, Za, Zb, Zc, Zd, Ze, Zf, Zg, Zh, rd, AV.un, AV.unA, AV.ad, Zi, Zj, Zk, Zl, Zm, Zn, Zo, Zp, Zq, Zr, Zs, Zt, Zu, Zv, Zw, Zx, Zy, Zz, Zaa, Zab, Zac, Zad, wk1, wk, Zae, Zaf, Zag, Zah, Zai, Zaj, Zak, Zal, AV.kill, AO.kill, AV.thaw, AO.thaw, Zam, Zan, Zao, Zap, Zaq, Zar, Zas, Zat, Zau, ite_true, ite_false, reduceCtorEq, Nat.reduceAdd, Nat.reduceMul, Nat.reduceLeDiff, Nat.reduceLT, Nat.reduceEqDiff, forall_const]) ?_
  rintro x cs' ⟨b, rfl, rfl⟩
  simp only [ZZ, Za, Zb, Zc, Zd, Ze, Zf, Zg, Zh, rd, AV.un, AV.unA, AV.ad, Zi, Zj, Zk, Zl, Zm, Zn, Zo, Zp, Zq, Zr, Zs, Zt, Zu, Zv, Zw, Zx, Zy, Zz, Zaa, Zab, Zac, Zad, wk1, wk, Zae, Zaf, Zag, Zah, Zai, Zaj, Zak, Zal, AV.kill, AO.kill, AV.thaw, AO.thaw, Zam, Zan, Zao, Zap, Zaq, Zar, Zas, Zat, Zau, ite_true, ite_false, reduceCtorEq, Nat.reduceAdd, Nat.reduceMul, Nat.reduceLeDiff, Nat.reduceLT, Nat.reduceEqDiff, forall_const]
  refine br ?_ ?_
  · intro hb
    simp only [ZZ, Za, Zb, Zc, Zd, Ze, Zf, Zg, Zh, rd, AV.un, AV.unA, AV.ad, Zi, Zj, Zk, Zl, Zm, Zn, Zo, Zp, Zq, Zr, Zs, Zt, Zu, Zv, Zw, Zx, Zy, Zz, Zaa, Zab, Zac, Zad, wk1, wk, Zae, Zaf, Zag, Zah, Zai, Zaj, Zak, Zal, AV.kill, AO.kill, AV.thaw, AO.thaw, Zam, Zan, Zao, Zap, Zaq, Zar, Zas, Zat, Zau, ite_true, ite_false, reduceCtorEq, Nat.reduceAdd, Nat.reduceMul, Nat.reduceLeDiff, Nat.reduceLT, Nat.reduceEqDiff, forall_const]
    refine use1 (Repeat_ok [109] 20000 (by omega) (by simp)) rfl (.inl rfl) ?_
    have hrl : (Lib.repeatL [109] 20000).length ≤ 20000 := by rw [Lib.repeatL_length]; simp
    generalize Lib.repeatL [109] 20000 = rp at *
    simp only [ZZ, Za, Zb, Zc, Zd, Ze, Zf, Zg, Zh, rd, AV.un, AV.unA, AV.ad, Zi, Zj, Zk, Zl, Zm, Zn, Zo, Zp, Zq, Zr, Zs, Zt, Zu, Zv, Zw, Zx, Zy, Zz, Zaa, Zab, Zac, Zad, wk1, wk, Zae, Zaf, Zag, Zah, Zai, Zaj, Zak, Zal, AV.kill, AO.kill, AV.thaw, AO.thaw, Zam, Zan, Zao, Zap, Zaq, Zar, Zas, Zat, Zau, ite_true, ite_false, reduceCtorEq, Nat.reduceAdd, Nat.reduceMul, Nat.reduceLeDiff, Nat.reduceLT, Nat.reduceEqDiff, forall_const]
    ((repeat' (with_reducible apply And.intro)) <;> try ((first | first | assumption | trivial | exact (fun hq => by rw [hq]; rfl) | exact i64_of (by omega) (by omega) | omega | (simp; done) | (simp; omega) | (intro hsc; have hs0 := hsc; (try have hsd := of_decide_eq_true hsc); (try simp only [Bool.not_eq_true', Bool.or_eq_false_iff, Bool.and_eq_true, Bool.or_eq_true, decide_eq_true_eq, decide_eq_false_iff_not] at hsc); (repeat' (with_reducible apply And.intro)) <;> (first | assumption | trivial | exact (fun hq => by rw [hq]; rfl) | exact i64_of (by omega) (by omega) | omega | (simp; done) | (simp; omega) | (intro hse; simp [hse, hs0]; done))))))
    refine useS (one_ok l (k2 + 1) [[97, 9, 98, 10], [255, 10], rp ++ [10]] (by omega) hl (by simp) (by simp)) rfl rfl rfl (by simp only [ZZ, Za, Zb, Zc, Zd, Ze, Zf, Zg, Zh, rd, AV.un, AV.unA, AV.ad, Zi, Zj, Zk, Zl, Zm, Zn, Zo, Zp, Zq, Zr, Zs, Zt, Zu, Zv, Zw, Zx, Zy, Zz, Zaa, Zab, Zac, Zad, wk1, wk, Zae, Zaf, Zag, Zah, Zai, Zaj, Zak, Zal, AV.kill, AO.kill, AV.thaw, AO.thaw, Zam, Zan, Zao, Zap, Zaq, Zar, Zas, Zat, Zau, ite_true, ite_false, reduceCtorEq, Nat.reduceAdd, Nat.reduceMul, Nat.reduceLeDiff, Nat.reduceLT, Nat.reduceEqDiff, forall_const]) ?_
    rintro x cs' ⟨u, rfl, hu, rfl⟩
    have hul : u.length ≤ 20001 := by
      simp only [List.mem_cons, List.not_mem_nil, or_false] at hu
      rcases hu with rfl | rfl | rfl
      · simp
      · simp
      · rw [List.length_append]; simp; omega
    simp only [ZZ, Za, Zb, Zc, Zd, Ze, Zf, Zg, Zh, rd, AV.un, AV.unA, AV.ad, Zi, Zj, Zk, Zl, Zm, Zn, Zo, Zp, Zq, Zr, Zs, Zt, Zu, Zv, Zw, Zx, Zy, Zz, Zaa, Zab, Zac, Zad, wk1, wk, Zae, Zaf, Zag, Zah, Zai, Zaj, Zak, Zal, AV.kill, AO.kill, AV.thaw, AO.thaw, Zam, Zan, Zao, Zap, Zaq, Zar, Zas, Zat, Zau, ite_true, ite_false, reduceCtorEq, Nat.reduceAdd, Nat.reduceMul, Nat.reduceLeDiff, Nat.reduceLT, Nat.reduceEqDiff, forall_const]
    refine cut_same (by simp only [ZZ, Za, Zb, Zc, Zd, Ze, Zf, Zg, Zh, rd, AV.un, AV.unA, AV.ad, Zi, Zj, Zk, Zl, Zm, Zn, Zo, Zp, Zq, Zr, Zs, Zt, Zu, Zv, Zw, Zx, Zy, Zz, Zaa, Zab, Zac, Zad, wk1, wk, Zae, Zaf, Zag, Zah, Zai, Zaj, Zak, Zal, AV.kill, AO.kill, AV.thaw, AO.thaw, Zam, Zan, Zao, Zap, Zaq, Zar, Zas, Zat, Zau, ite_true, ite_false, reduceCtorEq, Nat.reduceAdd, Nat.reduceMul, Nat.reduceLeDiff, Nat.reduceLT, Nat.reduceEqDiff, forall_const]) ?_
    simp only [ir_chasemake_Stream_Memo_C1, ZZ, Za, Zb, Zc, Zd, Ze, Zf, Zg, Zh, rd, AV.un, AV.unA, AV.ad, Zi, Zj, Zk, Zl, Zm, Zn, Zo, Zp, Zq, Zr, Zs, Zt, Zu, Zv, Zw, Zx, Zy, Zz, Zaa, Zab, Zac, Zad, wk1, wk, Zae, Zaf, Zag, Zah, Zai, Zaj, Zak, Zal, AV.kill, AO.kill, AV.thaw, AO.thaw, Zam, Zan, Zao, Zap, Zaq, Zar, Zas, Zat, Zau, ite_true, ite_false, reduceCtorEq, Nat.reduceAdd, Nat.reduceMul, Nat.reduceLeDiff, Nat.reduceLT, Nat.reduceEqDiff, forall_const]
    exact fin_S (stm l (k2 + 1 + 1)) rfl ⟨_, _, rfl, hul, rfl, by omega⟩
  · intro hb
    simp only [ZZ, Za, Zb, Zc, Zd, Ze, Zf, Zg, Zh, rd, AV.un, AV.unA, AV.ad, Zi, Zj, Zk, Zl, Zm, Zn, Zo, Zp, Zq, Zr, Zs, Zt, Zu, Zv, Zw, Zx, Zy, Zz, Zaa, Zab, Zac, Zad, wk1, wk, Zae, Zaf, Zag, Zah, Zai, Zaj, Zak, Zal, AV.kill, AO.kill, AV.thaw, AO.thaw, Zam, Zan, Zao, Zap, Zaq, Zar, Zas, Zat, Zau, ite_true, ite_false, reduceCtorEq, Nat.reduceAdd, Nat.reduceMul, Nat.reduceLeDiff, Nat.reduceLT, Nat.reduceEqDiff, forall_const]
    refine cut_same (by simp only [ZZ, Za, Zb, Zc, Zd, Ze, Zf, Zg, Zh, rd, AV.un, AV.unA, AV.ad, Zi, Zj, Zk, Zl, Zm, Zn, Zo, Zp, Zq, Zr, Zs, Zt, Zu, Zv, Zw, Zx, Zy, Zz, Zaa, Zab, Zac, Zad, wk1, wk, Zae, Zaf, Zag, Zah, Zai, Zaj, Zak, Zal, AV.kill, AO.kill, AV.thaw, AO.thaw, Zam, Zan, Zao, Zap, Zaq, Zar, Zas, Zat, Zau, ite_true, ite_false, reduceCtorEq, Nat.reduceAdd, Nat.reduceMul, Nat.reduceLeDiff, Nat.reduceLT, Nat.reduceEqDiff, forall_const]) ?_
    simp only [ir_chasemake_Stream_Memo_C1, ZZ, Za, Zb, Zc, Zd, Ze, Zf, Zg, Zh, rd, AV.un, AV.unA, AV.ad, Zi, Zj, Zk, Zl, Zm, Zn, Zo, Zp, Zq, Zr, Zs, Zt, Zu, Zv, Zw, Zx, Zy, Zz, Zaa, Zab, Zac, Zad, wk1, wk, Zae, Zaf, Zag, Zah, Zai, Zaj, Zak, Zal, AV.kill, AO.kill, AV.thaw, AO.thaw, Zam, Zan, Zao, Zap, Zaq, Zar, Zas, Zat, Zau, ite_true, ite_false, reduceCtorEq, Nat.reduceAdd, Nat.reduceMul, Nat.reduceLeDiff, Nat.reduceLT, Nat.reduceEqDiff, forall_const]
    exact fin_S (stm l (k2 + 1)) rfl ⟨_, _, rfl, by omega, rfl, by omega⟩
theorem Memo_ok (l : List Int) (k : Nat) (hk : k ≤ 900000) (hl : l.length ≤ 9223372036854775807) :
    SCall Tryd.prog E 36 T (stm l k) [] (memoP l k) := by
  unfold SCall
  refine gcallP mixed Tryd.func36 ck_chasemake_Stream_Memo ?_
  simp only [a0, l0, OS.ao, List.map_cons, List.map_nil, List.length_cons, List.length_nil, List.cons_append, List.nil_append, Nat.reduceSub, Nat.reduceAdd, List.replicate_succ, List.replicate_zero, ir_chasemake_Stream_Memo, rs_chasemake_Stream_Memo, ZZ, Za, Zb, Zc, Zd, Ze, Zf, Zg, Zh, rd, AV.un, AV.unA, AV.ad, Zi, Zj, Zk, Zl, Zm, Zn, Zo, Zp, Zq, Zr, Zs, Zt, Zu, Zv, Zw, Zx, Zy, Zz, Zaa, Zab, Zac, Zad, wk1, wk, Zae, Zaf, Zag, Zah, Zai, Zaj, Zak, Zal, AV.kill, AO.kill, AV.thaw, AO.thaw, Zam, Zan, Zao, Zap, Zaq, Zar, Zas, Zat, Zau, ite_true, ite_false, reduceCtorEq, Nat.reduceAdd, Nat.reduceMul, Nat.reduceLeDiff, Nat.reduceLT, Nat.reduceEqDiff, forall_const]
  refine useS (Next_ok l k _ (by omega) hl (by decide)) rfl rfl rfl (by simp only [ZZ, Za, Zb, Zc, Zd, Ze, Zf, Zg, Zh, rd, AV.un, AV.unA, AV.ad, Zi, Zj, Zk, Zl, Zm, Zn, Zo, Zp, Zq, Zr, Zs, Zt, Zu, Zv, Zw, Zx, Zy, Zz, Zaa, Zab, Zac, Zad, wk1, wk, Zae, Zaf, Zag, Zah, Zai, Zaj, Zak, Zal, AV.kill, AO.kill, AV.thaw, AO.thaw, Zam, Zan, Zao, Zap, Zaq, Zar, Zas, Zat, Zau, ite_true, ite_false, reduceCtorEq, Nat.reduceAdd, Nat.reduceMul, Nat.reduceLeDiff, Nat.reduceLT, Nat.reduceEqDiff, forall_const]) ?_
  rintro x cs' ⟨y, rfl, rfl⟩
  have b1 := below_lo y 10
  have b2 := below_hi y 10 (by omega)
  generalize below y 10 = m at *
  simp only [ZZ, Za, Zb, Zc, Zd, Ze, Zf, Zg, Zh, rd, AV.un, AV.unA, AV.ad, Zi, Zj, Zk, Zl, Zm, Zn, Zo, Zp, Zq, Zr, Zs, Zt, Zu, Zv, Zw, Zx, Zy, Zz, Zaa, Zab, Zac, Zad, wk1, wk, Zae, Zaf, Zag, Zah, Zai, Zaj, Zak, Zal, AV.kill, AO.kill, AV.thaw, AO.thaw, Zam, Zan, Zao, Zap, Zaq, Zar, Zas, Zat, Zau, ite_true, ite_false, reduceCtorEq, Nat.reduceAdd, Nat.reduceMul, Nat.reduceLeDiff, Nat.reduceLT, Nat.reduceEqDiff, forall_const]
  refine loop_intro (fun n fr L => ∃ (i : Nat) (k' : Nat) (t : List UInt8), 10 - i = n ∧ ((i : Int) ≤ m) ∧ (k' ≤ k + 1 + 2 * i) ∧ (t.length ≤ 20 * i) ∧ fr = [.adr (.b 0) 0, .any, .any, .p (.str t), .any, .p (int m), .p (int (i : Nat)), .any, .any, .any, .any, .any, .any, .any, .any, .any, .any, .any, .any, .any, .any, .any, .any, .any, .any, .any, .any, .any, .any, .any, .any, .any, .any, .any, .any] ∧ L = [(.b 0, .box ((stm l k').map .p) T)]) (10 - 0) [.adr (.b 0) 0, .any, .any, .p (.str []), .any, .p (int m), .p (int (0 : Nat)), .any, .any, .any, .any, .any, .any, .any, .any, .any, .any, .any, .any, .any, .any, .any, .any, .any, .any, .any, .any, .any, .any, .any, .any, .any, .any, .any, .any] [(.b 0, .box ((stm l (k + 1)).map .p) T)] (by (simp only [ZZ, Za, Zb, Zc, Zd, Ze, Zf, Zg, Zh, rd, AV.un, AV.unA, AV.ad, Zi, Zj, Zk, Zl, Zm, Zn, Zo, Zp, Zq, Zr, Zs, Zt, Zu, Zv, Zw, Zx, Zy, Zz, Zaa, Zab, Zac, Zad, wk1, wk, Zae, Zaf, Zag, Zah, Zai, Zaj, Zak, Zal, AV.kill, AO.kill, AV.thaw, AO.thaw, Zam, Zan, Zao, Zap, Zaq, Zar, Zas, Zat, Zau, ite_true, ite_false, reduceCtorEq, Nat.reduceAdd, Nat.reduceMul, Nat.reduceLeDiff, Nat.reduceLT, Nat.reduceEqDiff, forall_const]; try trivial)) (by (simp only [ZZ, Za, Zb, Zc, Zd, Ze, Zf, Zg, Zh, rd, AV.un, AV.unA, AV.ad, Zi, Zj, Zk, Zl, Zm, Zn, Zo, Zp, Zq, Zr, Zs, Zt, Zu, Zv, Zw, Zx, Zy, Zz, Zaa, Zab, Zac, Zad, wk1, wk, Zae, Zaf, Zag, Zah, Zai, Zaj, Zak, Zal, AV.kill, AO.kill, AV.thaw, AO.thaw, Zam, Zan, Zao, Zap, Zaq, Zar, Zas, Zat, Zau, ite_true, ite_false, reduceCtorEq, Nat.reduceAdd, Nat.reduceMul, Nat.reduceLeDiff, Nat.reduceLT, Nat.reduceEqDiff, forall_const]; try trivial)) ⟨0, k + 1, [], rfl, by omega, by omega, by simp, rfl, rfl⟩ ?_
  rintro n fr L ⟨i, k', t, rfl, him, hk', ht, rfl, rfl⟩
  simp only [ir_chasemake_Stream_Memo_L0, ZZ, Za, Zb, Zc, Zd, Ze, Zf, Zg, Zh, rd, AV.un, AV.unA, AV.ad, Zi, Zj, Zk, Zl, Zm, Zn, Zo, Zp, Zq, Zr, Zs, Zt, Zu, Zv, Zw, Zx, Zy, Zz, Zaa, Zab, Zac, Zad, wk1, wk, Zae, Zaf, Zag, Zah, Zai, Zaj, Zak, Zal, AV.kill, AO.kill, AV.thaw, AO.thaw, Zam, Zan, Zao, Zap, Zaq, Zar, Zas, Zat, Zau, ite_true, ite_false, reduceCtorEq, Nat.reduceAdd, Nat.reduceMul, Nat.reduceLeDiff, Nat.reduceLT, Nat.reduceEqDiff, forall_const]
  refine br ?_ ?_
  · intro h
    have hlt : (i : Int) < m := of_decide_eq_true h
    simp only [ZZ, Za, Zb, Zc, Zd, Ze, Zf, Zg, Zh, rd, AV.un, AV.unA, AV.ad, Zi, Zj, Zk, Zl, Zm, Zn, Zo, Zp, Zq, Zr, Zs, Zt, Zu, Zv, Zw, Zx, Zy, Zz, Zaa, Zab, Zac, Zad, wk1, wk, Zae, Zaf, Zag, Zah, Zai, Zaj, Zak, Zal, AV.kill, AO.kill, AV.thaw, AO.thaw, Zam, Zan, Zao, Zap, Zaq, Zar, Zas, Zat, Zau, ite_true, ite_false, reduceCtorEq, Nat.reduceAdd, Nat.reduceMul, Nat.reduceLeDiff, Nat.reduceLT, Nat.reduceEqDiff, forall_const]
    refine useS (one_ok l k' [[109, 101, 109, 111], [77, 101, 109, 111], [109, 101, 109, 111, 115], [115, 101, 101, 32, 116, 104, 101], [195, 169, 116, 195, 169], [115, 101, 99, 114, 101, 116], [83, 69, 67, 82, 69, 84, 32, 112, 108, 97, 110], [97], [120, 45, 121], [51, 114, 100]] (by omega) hl (by simp) (by simp)) rfl rfl rfl (by simp only [ZZ, Za, Zb, Zc, Zd, Ze, Zf, Zg, Zh, rd, AV.un, AV.unA, AV.ad, Zi, Zj, Zk, Zl, Zm, Zn, Zo, Zp, Zq, Zr, Zs, Zt, Zu, Zv, Zw, Zx, Zy, Zz, Zaa, Zab, Zac, Zad, wk1, wk, Zae, Zaf, Zag, Zah, Zai, Zaj, Zak, Zal, AV.kill, AO.kill, AV.thaw, AO.thaw, Zam, Zan, Zao, Zap, Zaq, Zar, Zas, Zat, Zau, ite_true, ite_false, reduceCtorEq, Nat.reduceAdd, Nat.reduceMul, Nat.reduceLeDiff, Nat.reduceLT, Nat.reduceEqDiff, forall_const]) ?_
    rintro x cs' ⟨u, rfl, hu, rfl⟩
    have hul : u.length ≤ 11 := by simp at hu; rcases hu with rfl | rfl | rfl | rfl | rfl | rfl | rfl | rfl | rfl | rfl <;> simp
    simp only [ZZ, Za, Zb, Zc, Zd, Ze, Zf, Zg, Zh, rd, AV.un, AV.unA, AV.ad, Zi, Zj, Zk, Zl, Zm, Zn, Zo, Zp, Zq, Zr, Zs, Zt, Zu, Zv, Zw, Zx, Zy, Zz, Zaa, Zab, Zac, Zad, wk1, wk, Zae, Zaf, Zag, Zah, Zai, Zaj, Zak, Zal, AV.kill, AO.kill, AV.thaw, AO.thaw, Zam, Zan, Zao, Zap, Zaq, Zar, Zas, Zat, Zau, ite_true, ite_false, reduceCtorEq, Nat.reduceAdd, Nat.reduceMul, Nat.reduceLeDiff, Nat.reduceLT, Nat.reduceEqDiff, forall_const]
    refine useS (one_ok l (k' + 1) [[32], [32], [10], [44, 32], []] (by omega) hl (by simp) (by simp)) rfl rfl rfl (by simp only [ZZ, Za, Zb, Zc, Zd, Ze, Zf, Zg, Zh, rd, AV.un, AV.unA, AV.ad, Zi, Zj, Zk, Zl, Zm, Zn, Zo, Zp, Zq, Zr, Zs, Zt, Zu, Zv, Zw, Zx, Zy, Zz, Zaa, Zab, Zac, Zad, wk1, wk, Zae, Zaf, Zag, Zah, Zai, Zaj, Zak, Zal, AV.kill, AO.kill, AV.thaw, AO.thaw, Zam, Zan, Zao, Zap, Zaq, Zar, Zas, Zat, Zau, ite_true, ite_false, reduceCtorEq, Nat.reduceAdd, Nat.reduceMul, Nat.reduceLeDiff, Nat.reduceLT, Nat.reduceEqDiff, forall_const]) ?_
    rintro x cs' ⟨v, rfl, hv, rfl⟩
    have hvl : v.length ≤ 2 := by simp at hv; rcases hv with rfl | rfl | rfl | rfl <;> simp
    simp only [ZZ, Za, Zb, Zc, Zd, Ze, Zf, Zg, Zh, rd, AV.un, AV.unA, AV.ad, Zi, Zj, Zk, Zl, Zm, Zn, Zo, Zp, Zq, Zr, Zs, Zt, Zu, Zv, Zw, Zx, Zy, Zz, Zaa, Zab, Zac, Zad, wk1, wk, Zae, Zaf, Zag, Zah, Zai, Zaj, Zak, Zal, AV.kill, AO.kill, AV.thaw, AO.thaw, Zam, Zan, Zao, Zap, Zaq, Zar, Zas, Zat, Zau, ite_true, ite_false, reduceCtorEq, Nat.reduceAdd, Nat.reduceMul, Nat.reduceLeDiff, Nat.reduceLT, Nat.reduceEqDiff, forall_const]
    have h3 : (u ++ v).length ≤ 13 := by simp; omega
    ((repeat' (with_reducible apply And.intro)) <;> try ((first | first | assumption | trivial | exact (fun hq => by rw [hq]; rfl) | exact i64_of (by omega) (by omega) | omega | (simp; done) | (simp; omega) | (intro hsc; have hs0 := hsc; (try have hsd := of_decide_eq_true hsc); (try simp only [Bool.not_eq_true', Bool.or_eq_false_iff, Bool.and_eq_true, Bool.or_eq_true, decide_eq_true_eq, decide_eq_false_iff_not] at hsc); (repeat' (with_reducible apply And.intro)) <;> (first | assumption | trivial | exact (fun hq => by rw [hq]; rfl) | exact i64_of (by omega) (by omega) | omega | (simp; done) | (simp; omega) | (intro hse; simp [hse, hs0]; done))))))
    refine end_round (10 - (i + 1)) [.adr (.b 0) 0, .any, .any, .p (.str (t ++ (u ++ v))), .any, .p (int m), .p (int ((i + 1) : Nat)), .any, .any, .any, .any, .any, .any, .any, .any, .any, .any, .any, .any, .any, .any, .any, .any, .any, .any, .any, .any, .any, .any, .any, .any, .any, .any, .any, .any] [(.b 0, .box ((stm l (k' + 1 + 1)).map .p) T)] (by omega) (by (simp only [ZZ, Za, Zb, Zc, Zd, Ze, Zf, Zg, Zh, rd, AV.un, AV.unA, AV.ad, Zi, Zj, Zk, Zl, Zm, Zn, Zo, Zp, Zq, Zr, Zs, Zt, Zu, Zv, Zw, Zx, Zy, Zz, Zaa, Zab, Zac, Zad, wk1, wk, Zae, Zaf, Zag, Zah, Zai, Zaj, Zak, Zal, AV.kill, AO.kill, AV.thaw, AO.thaw, Zam, Zan, Zao, Zap, Zaq, Zar, Zas, Zat, Zau, ite_true, ite_false, reduceCtorEq, Nat.reduceAdd, Nat.reduceMul, Nat.reduceLeDiff, Nat.reduceLT, Nat.reduceEqDiff, forall_const]; try trivial)) (by (simp only [ZZ, Za, Zb, Zc, Zd, Ze, Zf, Zg, Zh, rd, AV.un, AV.unA, AV.ad, Zi, Zj, Zk, Zl, Zm, Zn, Zo, Zp, Zq, Zr, Zs, Zt, Zu, Zv, Zw, Zx, Zy, Zz, Zaa, Zab, Zac, Zad, wk1, wk, Zae, Zaf, Zag, Zah, Zai, Zaj, Zak, Zal, AV.kill, AO.kill, AV.thaw, AO.thaw, Zam, Zan, Zao, Zap, Zaq, Zar, Zas, Zat, Zau, ite_true, ite_false, reduceCtorEq, Nat.reduceAdd, Nat.reduceMul, Nat.reduceLeDiff, Nat.reduceLT, Nat.reduceEqDiff, forall_const]; try trivial)) ⟨i + 1, k' + 1 + 1, t ++ (u ++ v), rfl, by omega, by omega, by rw [List.length_append]; omega, rfl, rfl⟩
  · intro h
    have hi9 : i ≤ 9 := by omega
    simp only [ZZ, Za, Zb, Zc, Zd, Ze, Zf, Zg, Zh, rd, AV.un, AV.unA, AV.ad, Zi, Zj, Zk, Zl, Zm, Zn, Zo, Zp, Zq, Zr, Zs, Zt, Zu, Zv, Zw, Zx, Zy, Zz, Zaa, Zab, Zac, Zad, wk1, wk, Zae, Zaf, Zag, Zah, Zai, Zaj, Zak, Zal, AV.kill, AO.kill, AV.thaw, AO.thaw, Zam, Zan, Zao, Zap, Zaq, Zar, Zas, Zat, Zau, ite_true, ite_false, reduceCtorEq, Nat.reduceAdd, Nat.reduceMul, Nat.reduceLeDiff, Nat.reduceLT, Nat.reduceEqDiff, forall_const]
    ((repeat' (with_reducible apply And.intro)) <;> try ((first | first | assumption | trivial | exact (fun hq => by rw [hq]; rfl) | exact i64_of (by omega) (by omega) | omega | (simp; done) | (simp; omega) | (intro hsc; have hs0 := hsc; (try have hsd := of_decide_eq_true hsc); (try simp only [Bool.not_eq_true', Bool.or_eq_false_iff, Bool.and_eq_true, Bool.or_eq_true, decide_eq_true_eq, decide_eq_false_iff_not] at hsc); (repeat' (with_reducible apply And.intro)) <;> (first | assumption | trivial | exact (fun hq => by rw [hq]; rfl) | exact i64_of (by omega) (by omega) | omega | (simp; done) | (simp; omega) | (intro hse; simp [hse, hs0]; done))))))
    refine useGC (fun hc => ?_) (fun hc => ?_)
    · refine useS (Flip_ok l k' _ (by omega) hl (by decide)) rfl rfl rfl (by simp only [ZZ, Za, Zb, Zc, Zd, Ze, Zf, Zg, Zh, rd, AV.un, AV.unA, AV.ad, Zi, Zj, Zk, Zl, Zm, Zn, Zo, Zp, Zq, Zr, Zs, Zt, Zu, Zv, Zw, Zx, Zy, Zz, Zaa, Zab, Zac, Zad, wk1, wk, Zae, Zaf, Zag, Zah, Zai, Zaj, Zak, Zal, AV.kill, AO.kill, AV.thaw, AO.thaw, Zam, Zan, Zao, Zap, Zaq, Zar, Zas, Zat, Zau, ite_true, ite_false, reduceCtorEq, Nat.reduceAdd, Nat.reduceMul, Nat.reduceLeDiff, Nat.reduceLT, Nat.reduceEqDiff, forall_const]) ?_
      rintro x cs' ⟨b, rfl, rfl⟩
      simp only [ZZ, Za, Zb, Zc, Zd, Ze, Zf, Zg, Zh, rd, AV.un, AV.unA, AV.ad, Zi, Zj, Zk, Zl, Zm, Zn, Zo, Zp, Zq, Zr, Zs, Zt, Zu, Zv, Zw, Zx, Zy, Zz, Zaa, Zab, Zac, Zad, wk1, wk, Zae, Zaf, Zag, Zah, Zai, Zaj, Zak, Zal, AV.kill, AO.kill, AV.thaw, AO.thaw, Zam, Zan, Zao, Zap, Zaq, Zar, Zas, Zat, Zau, ite_true, ite_false, reduceCtorEq, Nat.reduceAdd, Nat.reduceMul, Nat.reduceLeDiff, Nat.reduceLT, Nat.reduceEqDiff, forall_const]
      ((repeat' (with_reducible apply And.intro)) <;> try ((first | first | assumption | trivial | exact (fun hq => by rw [hq]; rfl) | exact i64_of (by omega) (by omega) | omega | (simp; done) | (simp; omega) | (intro hsc; have hs0 := hsc; (try have hsd := of_decide_eq_true hsc); (try simp only [Bool.not_eq_true', Bool.or_eq_false_iff, Bool.and_eq_true, Bool.or_eq_true, decide_eq_true_eq, decide_eq_false_iff_not] at hsc); (repeat' (with_reducible apply And.intro)) <;> (first | assumption | trivial | exact (fun hq => by rw [hq]; rfl) | exact i64_of (by omega) (by omega) | omega | (simp; done) | (simp; omega) | (intro hse; simp [hse, hs0]; done))))))
      refine br ?_ ?_
      · intro hb
        simp only [ZZ, Za, Zb, Zc, Zd, Ze, Zf, Zg, Zh, rd, AV.un, AV.unA, AV.ad, Zi, Zj, Zk, Zl, Zm, Zn, Zo, Zp, Zq, Zr, Zs, Zt, Zu, Zv, Zw, Zx, Zy, Zz, Zaa, Zab, Zac, Zad, wk1, wk, Zae, Zaf, Zag, Zah, Zai, Zaj, Zak, Zal, AV.kill, AO.kill, AV.thaw, AO.thaw, Zam, Zan, Zao, Zap, Zaq, Zar, Zas, Zat, Zau, ite_true, ite_false, reduceCtorEq, Nat.reduceAdd, Nat.reduceMul, Nat.reduceLeDiff, Nat.reduceLT, Nat.reduceEqDiff, forall_const]
        refine ⟨by simp; omega, ?_⟩
        exact cut_by (memo_tail l k (k' + 1) (t ++ [10]) hk hl (by omega) (by rw [List.length_append]; simp; omega)) (by (simp only [ZZ, Za, Zb, Zc, Zd, Ze, Zf, Zg, Zh, rd, AV.un, AV.unA, AV.ad, Zi, Zj, Zk, Zl, Zm, Zn, Zo, Zp, Zq, Zr, Zs, Zt, Zu, Zv, Zw, Zx, Zy, Zz, Zaa, Zab, Zac, Zad, wk1, wk, Zae, Zaf, Zag, Zah, Zai, Zaj, Zak, Zal, AV.kill, AO.kill, AV.thaw, AO.thaw, Zam, Zan, Zao, Zap, Zaq, Zar, Zas, Zat, Zau, ite_true, ite_false, reduceCtorEq, Nat.reduceAdd, Nat.reduceMul, Nat.reduceLeDiff, Nat.reduceLT, Nat.reduceEqDiff, forall_const]; try trivial)) (by simp only [ZZ, Za, Zb, Zc, Zd, Ze, Zf, Zg, Zh, rd, AV.un, AV.unA, AV.ad, Zi, Zj, Zk, Zl, Zm, Zn, Zo, Zp, Zq, Zr, Zs, Zt, Zu, Zv, Zw, Zx, Zy, Zz, Zaa, Zab, Zac, Zad, wk1, wk, Zae, Zaf, Zag, Zah, Zai, Zaj, Zak, Zal, AV.kill, AO.kill, AV.thaw, AO.thaw, Zam, Zan, Zao, Zap, Zaq, Zar, Zas, Zat, Zau, ite_true, ite_false, reduceCtorEq, Nat.reduceAdd, Nat.reduceMul, Nat.reduceLeDiff, Nat.reduceLT, Nat.reduceEqDiff, forall_const])
      · intro hb
        simp only [ZZ, Za, Zb, Zc, Zd, Ze, Zf, Zg, Zh, rd, AV.un, AV.unA, AV.ad, Zi, Zj, Zk, Zl, Zm, Zn, Zo, Zp, Zq, Zr, Zs, Zt, Zu, Zv, Zw, Zx, Zy, Zz, Zaa, Zab, Zac, Zad, wk1, wk, Zae, Zaf, Zag, Zah, Zai, Zaj, Zak, Zal, AV.kill, AO.kill, AV.thaw, AO.thaw, Zam, Zan, Zao, Zap, Zaq, Zar, Zas, Zat, Zau, ite_true, ite_false, reduceCtorEq, Nat.reduceAdd, Nat.reduceMul, Nat.reduceLeDiff, Nat.reduceLT, Nat.reduceEqDiff, forall_const]
        exact cut_by (memo_tail l k (k' + 1) t hk hl (by omega) (by omega)) (by (simp only [ZZ, Za, Zb, Zc, Zd, Ze, Zf, Zg, Zh, rd, AV.un, AV.unA, AV.ad, Zi, Zj, Zk, Zl, Zm, Zn, Zo, Zp, Zq, Zr, Zs, Zt, Zu, Zv, Zw, Zx, Zy, Zz, Zaa, Zab, Zac, Zad, wk1, wk, Zae, Zaf, Zag, Zah, Zai, Zaj, Zak, Zal, AV.kill, AO.kill, AV.thaw, AO.thaw, Zam, Zan, Zao, Zap, Zaq, Zar, Zas, Zat, Zau, ite_true, ite_false, reduceCtorEq, Nat.reduceAdd, Nat.reduceMul, Nat.reduceLeDiff, Nat.reduceLT, Nat.reduceEqDiff, forall_const]; try trivial)) (by simp only [ZZ, Za, Zb, Zc, Zd, Ze, Zf, Zg, Zh, rd, AV.un, AV.unA, AV.ad, Zi, Zj, Zk, Zl, Zm, Zn, Zo, Zp, Zq, Zr, Zs, Zt, Zu, Zv, Zw, Zx, Zy, Zz, Zaa, Zab, Zac, Zad, wk1, wk, Zae, Zaf, Zag, Zah, Zai, Zaj, Zak, Zal, AV.kill, AO.kill, AV.thaw, AO.thaw, Zam, Zan, Zao, Zap, Zaq, Zar, Zas, Zat, Zau, ite_true, ite_false, reduceCtorEq, Nat.reduceAdd, Nat.reduceMul, Nat.reduceLeDiff, Nat.reduceLT, Nat.reduceEqDiff, forall_const])
    · simp only [ZZ, Za, Zb, Zc, Zd, Ze, Zf, Zg, Zh, rd, AV.un, AV.unA, AV.ad, Zi, Zj, Zk, Zl, Zm, Zn, Zo, Zp, Zq, Zr, Zs, Zt, Zu, Zv, Zw, Zx, Zy, Zz, Zaa, Zab, Zac, Zad, wk1, wk, Zae, Zaf, Zag, Zah, Zai, Zaj, Zak, Zal, AV.kill, AO.kill, AV.thaw, AO.thaw, Zam, Zan, Zao, Zap, Zaq, Zar, Zas, Zat, Zau, ite_true, ite_false, reduceCtorEq, Nat.reduceAdd, Nat.reduceMul, Nat.reduceLeDiff, Nat.reduceLT, Nat.reduceEqDiff, forall_const]
      ((repeat' (with_reducible apply And.intro)) <;> try ((first | first | assumption | trivial | exact (fun hq => by rw [hq]; rfl) | exact i64_of (by omega) (by omega) | omega | (simp; done) | (simp; omega) | (intro hsc; have hs0 := hsc; (try have hsd := of_decide_eq_true hsc); (try simp only [Bool.not_eq_true', Bool.or_eq_false_iff, Bool.and_eq_true, Bool.or_eq_true, decide_eq_true_eq, decide_eq_false_iff_not] at hsc); (repeat' (with_reducible apply And.intro)) <;> (first | assumption | trivial | exact (fun hq => by rw [hq]; rfl) | exact i64_of (by omega) (by omega) | omega | (simp; done) | (simp; omega) | (intro hse; simp [hse, hs0]; done))))))
      exact cut_by (memo_tail l k k' t hk hl (by omega) (by omega)) (by (simp only [ZZ, Za, Zb, Zc, Zd, Ze, Zf, Zg, Zh, rd, AV.un, AV.unA, AV.ad, Zi, Zj, Zk, Zl, Zm, Zn, Zo, Zp, Zq, Zr, Zs, Zt, Zu, Zv, Zw, Zx, Zy, Zz, Zaa, Zab, Zac, Zad, wk1, wk, Zae, Zaf, Zag, Zah, Zai, Zaj, Zak, Zal, AV.kill, AO.kill, AV.thaw, AO.thaw, Zam, Zan, Zao, Zap, Zaq, Zar, Zas, Zat, Zau, ite_true, ite_false, reduceCtorEq, Nat.reduceAdd, Nat.reduceMul, Nat.reduceLeDiff, Nat.reduceLT, Nat.reduceEqDiff, forall_const]; try trivial)) (by simp only [ZZ, Za, Zb, Zc, Zd, Ze, Zf, Zg, Zh, rd, AV.un, AV.unA, AV.ad, Zi, Zj, Zk, Zl, Zm, Zn, Zo, Zp, Zq, Zr, Zs, Zt, Zu, Zv, Zw, Zx, Zy, Zz, Zaa, Zab, Zac, Zad, wk1, wk, Zae, Zaf, Zag, Zah, Zai, Zaj, Zak, Zal, AV.kill, AO.kill, AV.thaw, AO.thaw, Zam, Zan, Zao, Zap, Zaq, Zar, Zas, Zat, Zau, ite_true, ite_false, reduceCtorEq, Nat.reduceAdd, Nat.reduceMul, Nat.reduceLeDiff, Nat.reduceLT, Nat.reduceEqDiff, forall_const])
end
theorem rep_tab (n : Nat) : List.replicate n [PV.bool false] = bl (tab n fun _ => false) := by
  unfold bl tab
  rw [List.map_map]
  refine List.ext_getElem? fun j => ?_
  by_cases hj : j < n
  · simp [hj]
  · rw [List.getElem?_eq_none (by simpa using hj), List.getElem?_eq_none (by simpa using hj)]
end Go.Proofs.YtpddiepfolfnoaaDoor

/- Code points: what is covered as a whole (plain). -/
namespace Go.Proofs.YtpddiepfolfnoaaDoor
set_option linter.unusedVariables false
set_option linter.unusedSimpArgs false
set_option linter.defProp false

theorem decodeN_cut (n b0 b1 b2 b3 : Nat) (hn : 1 ≤ n) (h : ¬ ((Lib.decodeN n b0 b1 b2 b3).1 = 65533 ∧ (Lib.decodeN n b0 b1 b2 b3).2 = 1)) :
    (Lib.decodeN n b0 b1 b2 b3).2 ≤ n ∧ b0 / 64 ≠ 2 ∧ (1 < (Lib.decodeN n b0 b1 b2 b3).2 → b1 / 64 = 2) ∧ (2 < (Lib.decodeN n b0 b1 b2 b3).2 → b2 / 64 = 2) ∧ (3 < (Lib.decodeN n b0 b1 b2 b3).2 → b3 / 64 = 2) ∧ (Lib.decodeN n b0 b1 b2 b3).2 ≤ 4 ∧ 1 ≤ (Lib.decodeN n b0 b1 b2 b3).2 := by
  revert h
  unfold Lib.decodeN
  repeat' split
  all_goals simp only [not_true, not_false_eq_true, and_self, false_imp_iff, true_imp_iff]
  all_goals (try (intro h))
  all_goals (try simp at h)
  all_goals (refine ⟨?_, ?_, ?_, ?_, ?_, ?_, ?_⟩)
  all_goals omega
/-- A byte inside of a code point. -/
def inP (s : List UInt8) (i : Nat) : Prop := i < s.length ∧ (s.getD i 0).toNat / 64 = 2
theorem insE_iff (s : List UInt8) (i : Nat) : insE s (i : Int) = true ↔ inP s i := by
  simp only [insE, Bool.and_eq_true, decide_eq_true_eq, inP, Int.toNat_natCast]
  omega
/-- The first code point of what is left behind i. -/
theorem valid_cut {s : List UInt8} {i : Nat} (h : Lib.validD (s.drop i) = true) (hi : i < s.length) :
    ¬ inP s i ∧ 1 ≤ (Lib.decodeL (s.drop i)).2 ∧ i + (Lib.decodeL (s.drop i)).2 ≤ s.length ∧ (∀ j, i < j → j < i + (Lib.decodeL (s.drop i)).2 → inP s j) ∧ Lib.validD (s.drop (i + (Lib.decodeL (s.drop i)).2)) = true := by
  have hne : s.drop i ≠ [] := by
    intro e
    have := congrArg List.length e
    rw [List.length_drop] at this
    simp at this
    omega
  rw [Lib.validD_step _ hne] at h
  split at h
  · cases h
  rename_i hc
  have hl : (s.drop i).length = s.length - i := List.length_drop
  have hg : ∀ k, (s.drop i).getD k 0 = s.getD (i + k) 0 := fun k => by simp [List.getD, List.getElem?_drop]
  rw [List.drop_drop] at h
  rw [Lib.decodeL_N] at hc h ⊢
  rw [hl, hg, hg, hg, hg] at hc h ⊢
  obtain ⟨h1, h2, h3, h4, h5, h6, h7⟩ := decodeN_cut _ _ _ _ _ (by omega) hc
  generalize Lib.decodeN (s.length - i) (s.getD (i + 0) 0).toNat (s.getD (i + 1) 0).toNat (s.getD (i + 2) 0).toNat (s.getD (i + 3) 0).toNat = d at *
  refine ⟨fun hp => h2 hp.2, h7, by omega, fun j hj1 hj2 => ⟨by omega, ?_⟩, h⟩
  rcases (by omega : j = i + 1 ∨ j = i + 2 ∨ j = i + 3) with rfl | rfl | rfl
  · exact h3 (by omega)
  · exact h4 (by omega)
  · exact h5 (by omega)
/-- Two places of one code point. -/
def sameP (s : List UInt8) (a b : Nat) : Prop := ∀ i, (a < i ∧ i ≤ b) ∨ (b < i ∧ i ≤ a) → inP s i
theorem back_iff (s : List UInt8) : ∀ (f j : Nat), j ≤ f → (backN s f ≤ j ↔ ∀ i, j < i → i ≤ f → inP s i)
  | 0, j, h => by
    constructor
    · intro _ i h1 h2; omega
    · intro _; simp [backN]
  | f + 1, j, h => by
    unfold backN
    split
    · rename_i hin
      rw [insE_iff] at hin
      by_cases hj : j = f + 1
      · subst hj
        constructor
        · intro _ i h1 h2; omega
        · intro _; have := backN_le s f; omega
      · rw [back_iff s f j (by omega)]
        constructor
        · intro h1 i h2 h3
          by_cases hi : i = f + 1
          · subst hi; exact hin
          · exact h1 i h2 (by omega)
        · intro h1 i h2 h3
          exact h1 i h2 (by omega)
    · rename_i hin
      rw [insE_iff] at hin
      constructor
      · intro h1 i h2 h3; omega
      · intro h1
        by_cases hj : j = f + 1
        · omega
        · exact absurd (h1 (f + 1) (by omega) (by omega)) hin
theorem fwd_iff (s : List UInt8) : ∀ (d t j : Nat), s.length ≤ t + d → t ≤ j → (j < fwdN s d t ↔ ∀ i, t ≤ i → i ≤ j → inP s i)
  | 0, t, j, h, hj => by
    unfold fwdN
    constructor
    · intro h1; omega
    · intro h1
      have := (h1 t (Nat.le_refl _) hj).1
      omega
  | d + 1, t, j, h, hj => by
    unfold fwdN
    split
    · rename_i hin
      rw [insE_iff] at hin
      by_cases hjt : j = t
      · subst hjt
        constructor
        · intro _ i h1 h2
          have : i = j := by omega
          subst this; exact hin
        · intro _; have := fwdN_ge s d (j + 1); omega
      · rw [fwd_iff s d (t + 1) j (by omega) (by omega)]
        constructor
        · intro h1 i h2 h3
          by_cases hi : i = t
          · subst hi; exact hin
          · exact h1 i (by omega) h3
        · intro h1 i h2 h3
          exact h1 i (by omega) h3
    · rename_i hin
      rw [insE_iff] at hin
      constructor
      · intro h1; omega
      · intro h1
        exact absurd (h1 t (Nat.le_refl _) hj) hin
/-- A place is covered as a whole if a place of its code point is. -/
theorem cov_points {s : List UInt8} {l : List (Int × Int)} (hl : ∀ p ∈ l, 0 ≤ p.1 ∧ p.1 < p.2 ∧ p.2 ≤ s.length) (j : Nat) : cov (pointsF s l) j = true ↔ ∃ j' : Nat, cov l j' = true ∧ sameP s j j' := by
  simp only [cov, List.any_eq_true, Bool.and_eq_true, decide_eq_true_eq, pointsF, List.mem_map]
  constructor
  · rintro ⟨_, ⟨p, hp, rfl⟩, h1, h2⟩
    obtain ⟨b1, b2, b3⟩ := hl p hp
    simp only [pntF] at h1 h2
    by_cases c1 : (j : Int) < p.1
    · refine ⟨p.1.toNat, ⟨p, hp, by omega, by omega⟩, ?_⟩
      have := (back_iff s p.1.toNat j (by omega)).1 (by omega)
      rintro i (⟨g1, g2⟩ | ⟨g1, g2⟩)
      · exact this i g1 g2
      · omega
    · by_cases c2 : (j : Int) < p.2
      · refine ⟨j, ⟨p, hp, by omega, c2⟩, ?_⟩
        rintro i (⟨g1, g2⟩ | ⟨g1, g2⟩) <;> omega
      · refine ⟨(p.2 - 1).toNat, ⟨p, hp, by omega, by omega⟩, ?_⟩
        have := (fwd_iff s (s.length - p.2.toNat) p.2.toNat j (by omega) (by omega)).1 (by omega)
        rintro i (⟨g1, g2⟩ | ⟨g1, g2⟩)
        · omega
        · exact this i (by omega) g2
  · rintro ⟨j', ⟨p, hp, h1, h2⟩, hs⟩
    obtain ⟨b1, b2, b3⟩ := hl p hp
    refine ⟨_, ⟨p, hp, rfl⟩, ?_, ?_⟩
    · simp only [pntF]
      have hbl := backN_le s p.1.toNat
      by_cases c1 : (j : Int) < p.1
      · have := (back_iff s p.1.toNat j (by omega)).2 (fun i g1 g2 => hs i (.inl ⟨g1, by omega⟩))
        omega
      · omega
    · simp only [pntF]
      have hfl := fwdN_ge s (s.length - p.2.toNat) p.2.toNat
      by_cases c2 : (j : Int) < p.2
      · omega
      · have := (fwd_iff s (s.length - p.2.toNat) p.2.toNat j (by omega) (by omega)).2 (fun i g1 g2 => hs i (.inr ⟨by omega, g2⟩))
        omega
/-- One code point: its places are those between its ends. -/
theorem same_block {s : List UInt8} {i n j j' : Nat} (h0 : ¬ inP s i) (h1 : ∀ k, i < k → k < i + n → inP s k) (h2 : ¬ inP s (i + n)) (hj : i ≤ j ∧ j < i + n) : sameP s j j' ↔ i ≤ j' ∧ j' < i + n := by
  constructor
  · intro h
    constructor
    · rcases Nat.lt_or_ge j' i with h' | h'
      · exact absurd (h i (.inr ⟨h', hj.1⟩)) h0
      · exact h'
    · rcases Nat.lt_or_ge j' (i + n) with h' | h'
      · exact h'
      · exact absurd (h (i + n) (.inl ⟨hj.2, h'⟩)) h2
  · rintro ⟨g1, g2⟩ k (⟨k1, k2⟩ | ⟨k1, k2⟩)
    · exact h1 k (by omega) (by omega)
    · exact h1 k (by omega) (by omega)
theorem valid_end {s : List UInt8} {i : Nat} (h : Lib.validD (s.drop i) = true) : ¬ inP s i := by
  intro hp
  exact (valid_cut h hp.1).1 hp
/-- What lies between spans, from a place on. -/
def gapsF (n : Int) : Int → List (Int × Int) → List (Int × Int)
  | at_, [] => [(at_, n)]
  | at_, r :: rs => (at_, r.1) :: gapsF n r.2 rs
def gapG (n at_ : Int) (R : List (Int × Int)) : List (Int × Int) := (gapsF n at_ R).filter fun g => decide (g.1 < g.2)
theorem gaps_all (n : Int) : ∀ (R : List (Int × Int)) (at_ : Int), Right R → (∀ r ∈ R, at_ ≤ r.1 ∧ r.2 ≤ n) → at_ ≤ n →
    Right (gapG n at_ R) ∧ (∀ g ∈ gapG n at_ R, at_ ≤ g.1 ∧ g.2 ≤ n) ∧ ∀ j, cv (gapG n at_ R) j ↔ at_ ≤ j ∧ j < n ∧ ¬ cv R j
  | [], at_, hR, hb, hn => by
    unfold gapG gapsF
    by_cases h : at_ < n
    · have e : ([(at_, n)].filter fun g => decide (g.1 < g.2)) = [(at_, n)] := by simp [h]
      rw [e]
      refine ⟨⟨by simp [h], by simp⟩, by simp, fun j => ?_⟩
      rw [cv_one]
      simp [cv]
    · have e : ([(at_, n)].filter fun g => decide (g.1 < g.2)) = [] := by simp [h]
      rw [e]
      refine ⟨⟨by simp, by simp⟩, by simp, fun j => ?_⟩
      simp only [cv, List.not_mem_nil, false_and, exists_false, false_iff, not_false_eq_true, and_true]
      omega
  | r :: rs, at_, hR, hb, hn => by
    obtain ⟨h1, h2⟩ := hR.head
    obtain ⟨b1, b2⟩ := hb r (by simp)
    obtain ⟨i1, i2, i3⟩ := gaps_all n rs r.2 hR.tail (fun t ht => ⟨by have := h2 t ht; omega, (hb t (by simp [ht])).2⟩) (by omega)
    have hG : gapG n at_ (r :: rs) = (if at_ < r.1 then [(at_, r.1)] else []) ++ gapG n r.2 rs := by
      unfold gapG
      simp only [gapsF, List.filter_cons]
      split <;> rename_i h
      · rw [if_pos (by simpa using h)]; rfl
      · rw [if_neg (by simpa using h)]; rfl
    have hcr : ∀ j, cv (r :: rs) j ↔ (r.1 ≤ j ∧ j < r.2) ∨ cv rs j := fun j => by
      rw [show r :: rs = [r] ++ rs from rfl, cv_app, cv_one]
    have hrs : ∀ j, cv rs j → r.2 < j := by
      rintro j ⟨s, hs, hj1, hj2⟩
      have := h2 s hs
      omega
    rw [hG]
    by_cases h : at_ < r.1
    · rw [if_pos h]
      refine ⟨⟨?_, ?_⟩, ?_, fun j => ?_⟩
      · intro s hs
        rcases List.mem_append.1 hs with hs | hs
        · rw [List.mem_singleton] at hs; subst hs; exact h
        · exact i1.ok s hs
      · rw [List.pairwise_append]
        refine ⟨by simp, i1.ord, fun a ha b hb' => ?_⟩
        rw [List.mem_singleton] at ha
        subst ha
        have := (i2 b hb').1
        simp only
        omega
      · intro g hg
        rcases List.mem_append.1 hg with hg | hg
        · rw [List.mem_singleton] at hg; subst hg; simp only; omega
        · have := i2 g hg; omega
      · rw [cv_app, cv_one, i3, hcr]
        simp only
        constructor
        · rintro (⟨k1, k2⟩ | ⟨k1, k2, k3⟩)
          · exact ⟨k1, by omega, by rintro (k | k); omega; have := hrs j k; omega⟩
          · exact ⟨by omega, k2, by rintro (k | k); omega; exact k3 k⟩
        · rintro ⟨k1, k2, k3⟩
          by_cases hj : j < r.1
          · exact .inl ⟨k1, hj⟩
          · refine .inr ⟨?_, k2, fun k => k3 (.inr k)⟩
            rcases Int.lt_or_le j r.2 with h' | h'
            · exact absurd (.inl ⟨by omega, h'⟩) k3
            · exact h'
    · rw [if_neg h, List.nil_append]
      refine ⟨i1, fun g hg => by have := i2 g hg; omega, fun j => ?_⟩
      rw [i3, hcr]
      constructor
      · rintro ⟨k1, k2, k3⟩
        exact ⟨by omega, k2, by rintro (k | k); omega; exact k3 k⟩
      · rintro ⟨k1, k2, k3⟩
        refine ⟨?_, k2, fun k => k3 (.inr k)⟩
        rcases Int.lt_or_le j r.2 with h' | h'
        · exact absurd (.inl ⟨by omega, h'⟩) k3
        · exact h'
/-- The spans of what is not covered. -/
theorem gaps_from {n : Nat} {R : List (Int × Int)} {f : Nat → Bool} (hR : Right R) (hb : ∀ r ∈ R, 0 ≤ r.1 ∧ r.2 ≤ n) (hf : ∀ j : Nat, j < n → (f j = true ↔ ¬ cv R j)) : gapG n 0 R = spansFromF (tab n f) := by
  obtain ⟨h1, h2, h3⟩ := gaps_all n R 0 hR (fun r hr => by have := hb r hr; omega) (by omega)
  refine from_tab h1 (fun s hs => by have := h2 s hs; omega) (fun j hj => ?_)
  rw [h3, hf j hj]
  constructor
  · intro h; exact ⟨by omega, by omega, h⟩
  · exact fun h => h.2.2
end Go.Proofs.YtpddiepfolfnoaaDoor

/- Letters and words. -/
namespace Go.Proofs.YtpddiepfolfnoaaDoor
open Go.RowKit
set_option linter.unusedVariables false
set_option linter.unusedSimpArgs false
set_option linter.defProp false

/- paperchase/base.Digit -/
def ir_base_Digit : IC :=
  (.seq (.reg [⟨some 2, .mov (.c (.bool false)), none⟩])
    (.seq (.reg [⟨some 3, .mov (.t 0), none⟩,
      ⟨some 4, .bin .geq (.t 3) (.c (.int .u8 48)), none⟩,
      ⟨some 5, .mov (.t 4), none⟩,
      ⟨some 6, .mov (.t 0), (some (5, true))⟩,
      ⟨some 7, .bin .leq (.t 6) (.c (.int .u8 57)), (some (5, true))⟩,
      ⟨some 8, .pick (.t 5) (.t 7) (.c (.bool false)), none⟩,
      ⟨some 2, .mov (.t 8), none⟩])
    .ret))
def rs_base_Digit : List IRes := [.t 2]
theorem ck_base_Digit : chkF Tryd.prog Tryd.f149 ir_base_Digit rs_base_Digit 9 = true := by kernel_rfl
/- paperchase/near.letter -/
def ir_near_letter : IC :=
  (.seq (.reg [⟨some 2, .mov (.c (.bool false)), none⟩])
    (.seq (.reg [⟨some 3, .mov (.t 0), none⟩,
      ⟨some 4, .bin .geq (.t 3) (.c (.int .u8 97)), none⟩,
      ⟨some 5, .mov (.t 4), none⟩,
      ⟨some 6, .mov (.t 0), (some (5, true))⟩,
      ⟨some 7, .bin .leq (.t 6) (.c (.int .u8 122)), (some (5, true))⟩,
      ⟨some 8, .pick (.t 5) (.t 7) (.c (.bool false)), none⟩,
      ⟨some 9, .mov (.t 8), none⟩,
      ⟨some 10, .mov (.t 0), (some (9, false))⟩,
      ⟨some 11, .bin .geq (.t 10) (.c (.int .u8 65)), (some (9, false))⟩,
      ⟨some 12, .mov (.t 11), (some (9, false))⟩,
      ⟨some 13, .mov (.t 0), (some (12, true))⟩,
      ⟨some 14, .bin .leq (.t 13) (.c (.int .u8 90)), (some (12, true))⟩,
      ⟨some 15, .pick (.t 12) (.t 14) (.c (.bool false)), (some (9, false))⟩,
      ⟨some 16, .pick (.t 9) (.c (.bool true)) (.t 15), none⟩,
      ⟨some 17, .mov (.t 16), none⟩,
      ⟨some 18, .mov (.t 0), (some (17, false))⟩,
      ⟨some 19, .call 149 [.t 18], (some (17, false))⟩,
      ⟨some 20, .pick (.t 17) (.c (.bool true)) (.t 19), none⟩,
      ⟨some 21, .mov (.t 20), none⟩,
      ⟨some 22, .mov (.t 0), (some (21, false))⟩,
      ⟨some 23, .bin .geq (.t 22) (.c (.int .u8 128)), (some (21, false))⟩,
      ⟨some 24, .pick (.t 21) (.c (.bool true)) (.t 23), none⟩,
      ⟨some 2, .mov (.t 24), none⟩])
    .ret))
def rs_near_letter : List IRes := [.t 2]
theorem ck_near_letter : chkF Tryd.prog Tryd.f98 ir_near_letter rs_near_letter 25 = true := by kernel_rfl
/- paperchase/privilege.letter -/
def ir_privilege_letter : IC :=
  (.seq (.reg [⟨some 2, .mov (.c (.bool false)), none⟩])
    (.seq (.reg [⟨some 3, .mov (.t 0), none⟩,
      ⟨some 4, .bin .geq (.t 3) (.c (.int .u8 97)), none⟩,
      ⟨some 5, .mov (.t 4), none⟩,
      ⟨some 6, .mov (.t 0), (some (5, true))⟩,
      ⟨some 7, .bin .leq (.t 6) (.c (.int .u8 122)), (some (5, true))⟩,
      ⟨some 8, .pick (.t 5) (.t 7) (.c (.bool false)), none⟩,
      ⟨some 9, .mov (.t 8), none⟩,
      ⟨some 10, .mov (.t 0), (some (9, false))⟩,
      ⟨some 11, .bin .geq (.t 10) (.c (.int .u8 65)), (some (9, false))⟩,
      ⟨some 12, .mov (.t 11), (some (9, false))⟩,
      ⟨some 13, .mov (.t 0), (some (12, true))⟩,
      ⟨some 14, .bin .leq (.t 13) (.c (.int .u8 90)), (some (12, true))⟩,
      ⟨some 15, .pick (.t 12) (.t 14) (.c (.bool false)), (some (9, false))⟩,
      ⟨some 16, .pick (.t 9) (.c (.bool true)) (.t 15), none⟩,
      ⟨some 17, .mov (.t 16), none⟩,
      ⟨some 18, .mov (.t 0), (some (17, false))⟩,
      ⟨some 19, .call 149 [.t 18], (some (17, false))⟩,
      ⟨some 20, .pick (.t 17) (.c (.bool true)) (.t 19), none⟩,
      ⟨some 21, .mov (.t 20), none⟩,
      ⟨some 22, .mov (.t 0), (some (21, false))⟩,
      ⟨some 23, .bin .geq (.t 22) (.c (.int .u8 128)), (some (21, false))⟩,
      ⟨some 24, .pick (.t 21) (.c (.bool true)) (.t 23), none⟩,
      ⟨some 2, .mov (.t 24), none⟩])
    .ret))
def rs_privilege_letter : List IRes := [.t 2]
theorem ck_privilege_letter : chkF Tryd.prog Tryd.f115 ir_privilege_letter rs_privilege_letter 25 = true := by kernel_rfl
/- paperchase/chaseref1.wordByte -/
def ir_chaseref1_wordByte : IC :=
  (.seq (.reg [⟨some 2, .mov (.c (.bool false)), none⟩])
    (.seq (.reg [⟨some 3, .mov (.t 0), none⟩,
      ⟨some 4, .bin .geq (.t 3) (.c (.int .u8 128)), none⟩,
      ⟨some 5, .mov (.t 4), none⟩,
      ⟨some 6, .mov (.t 0), (some (5, false))⟩,
      ⟨some 7, .call 164 [.c (.str [97, 98, 99, 100, 101, 102, 103, 104, 105, 106, 107, 108, 109, 110, 111, 112, 113, 114, 115, 116, 117, 118, 119, 120, 121, 122, 65, 66, 67, 68, 69, 70, 71, 72, 73, 74, 75, 76, 77, 78, 79, 80, 81, 82, 83, 84, 85, 86, 87, 88, 89, 90, 48, 49, 50, 51, 52, 53, 54, 55, 56, 57]), .t 6], (some (5, false))⟩,
      ⟨some 8, .bin .geq (.t 7) (.c (.int .i64 0)), (some (5, false))⟩,
      ⟨some 9, .pick (.t 5) (.c (.bool true)) (.t 8), none⟩,
      ⟨some 2, .mov (.t 9), none⟩])
    .ret))
def rs_chaseref1_wordByte : List IRes := [.t 2]
theorem ck_chaseref1_wordByte : chkF Tryd.prog Tryd.f120 ir_chaseref1_wordByte rs_chaseref1_wordByte 10 = true := by kernel_rfl
/- paperchase/near.Words -/
def ir_near_Words_L0 : IC :=
  (.seq (.seq (.reg [⟨some 7, .mov (.t 5), none⟩,
      ⟨some 8, .mov (.t 0), none⟩,
      ⟨some 9, .sln (.t 8), none⟩,
      ⟨some 10, .bin .leq (.t 7) (.t 9), none⟩])
    (.cond (.t 10) .skip (.exit 0)))
    (.seq (.block 1 (.seq (.reg [⟨some 13, .mov (.t 5), none⟩,
      ⟨some 14, .mov (.t 0), none⟩,
      ⟨some 15, .sln (.t 14), none⟩,
      ⟨some 16, .bin .lss (.t 13) (.t 15), none⟩,
      ⟨some 17, .mov (.t 16), none⟩,
      ⟨some 18, .mov (.t 0), (some (17, true))⟩,
      ⟨some 19, .mov (.t 5), (some (17, true))⟩,
      ⟨some 20, .idx (.t 18) (.t 19), (some (17, true))⟩,
      ⟨some 21, .call 98 [.t 20], (some (17, true))⟩,
      ⟨some 22, .pick (.t 17) (.t 21) (.c (.bool false)), none⟩,
      ⟨some 6, .mov (.t 22), none⟩])
    (.seq (.seq (.reg [⟨some 23, .mov (.t 6), none⟩,
      ⟨some 24, .mov (.t 23), none⟩,
      ⟨some 25, .mov (.t 4), (some (24, true))⟩,
      ⟨some 26, .bin .lss (.t 25) (.c (.int .i64 0)), (some (24, true))⟩,
      ⟨some 27, .pick (.t 24) (.t 26) (.c (.bool false)), none⟩])
    (.cond (.t 27) (.reg [⟨some 28, .mov (.t 5), none⟩,
      ⟨some 4, .mov (.t 28), none⟩]) .skip))
    (.cut (.seq (.reg [⟨some 29, .mov (.t 6), none⟩,
      ⟨some 30, .not (.t 29), none⟩,
      ⟨some 31, .mov (.t 30), none⟩,
      ⟨some 32, .mov (.t 4), (some (31, true))⟩,
      ⟨some 33, .bin .geq (.t 32) (.c (.int .i64 0)), (some (31, true))⟩,
      ⟨some 34, .pick (.t 31) (.t 33) (.c (.bool false)), none⟩])
    (.cond (.t 34) (.seq (.reg [⟨some 35, .mov (.t 3), none⟩,
      ⟨some 36, .mov (.t 0), none⟩,
      ⟨some 37, .mov (.t 4), none⟩,
      ⟨some 38, .mov (.t 5), none⟩,
      ⟨some 39, .ssl (.t 36) (some (.t 37)) (some (.t 38)), none⟩,
      ⟨some 40, .call 99 [.t 39], none⟩,
      ⟨some 41, .bsl 1 [.t 40], none⟩,
      ⟨some 42, .app 9 1 16 (.t 35) (.t 41), none⟩,
      ⟨some 3, .mov (.t 42), none⟩])
    (.reg [⟨some 4, .mov (.c (.int .i64 (-1))), none⟩])) .skip))))))
    (.cut (.reg [⟨some 11, .mov (.t 5), none⟩,
      ⟨some 12, .bin .add (.t 11) (.c (.int .i64 1)), none⟩,
      ⟨some 5, .mov (.t 12), none⟩]))))
def ir_near_Words : IC :=
  (.seq (.reg [⟨some 2, .mov (.c (.nl 1)), none⟩])
    (.seq (.reg [⟨some 3, .nilr 9 1, none⟩])
    (.seq (.reg [⟨some 4, .mov (.c (.int .i64 (-1))), none⟩])
    (.seq (.seq (.reg [⟨some 5, .mov (.c (.int .i64 0)), none⟩])
    (.block 0 (.loop ir_near_Words_L0)))
    (.seq (.reg [⟨some 43, .mov (.t 3), none⟩,
      ⟨some 2, .mov (.t 43), none⟩])
    .ret)))))
def rs_near_Words : List IRes := [.t 2]
theorem ck_near_Words : chkF Tryd.prog Tryd.f30 ir_near_Words rs_near_Words 44 = true := by kernel_rfl
/- paperchase/chaseref1.wordSpans -/
def ir_chaseref1_wordSpans_L1 : IC :=
  (.seq (.seq (.reg [⟨some 18, .mov (.t 5), none⟩,
      ⟨some 19, .mov (.t 0), none⟩,
      ⟨some 20, .sln (.t 19), none⟩,
      ⟨some 21, .bin .lss (.t 18) (.t 20), none⟩,
      ⟨some 22, .mov (.t 21), none⟩,
      ⟨some 23, .mov (.t 0), (some (22, true))⟩,
      ⟨some 24, .mov (.t 5), (some (22, true))⟩,
      ⟨some 25, .idx (.t 23) (.t 24), (some (22, true))⟩,
      ⟨some 26, .call 120 [.t 25], (some (22, true))⟩,
      ⟨some 27, .pick (.t 22) (.t 26) (.c (.bool false)), none⟩])
    (.cond (.t 27) .skip (.exit 2)))
    (.block 3 (.reg [⟨some 28, .mov (.t 5), none⟩,
      ⟨some 29, .bin .add (.t 28) (.c (.int .i64 1)), none⟩,
      ⟨some 5, .mov (.t 29), none⟩])))
def ir_chaseref1_wordSpans_L0 : IC :=
  (.seq (.seq (.reg [⟨some 6, .mov (.t 4), none⟩,
      ⟨some 7, .mov (.t 0), none⟩,
      ⟨some 8, .sln (.t 7), none⟩,
      ⟨some 9, .bin .lss (.t 6) (.t 8), none⟩])
    (.cond (.t 9) .skip (.exit 0)))
    (.seq (.block 1 (.seq (.seq (.reg [⟨some 12, .mov (.t 0), none⟩,
      ⟨some 13, .mov (.t 4), none⟩,
      ⟨some 14, .idx (.t 12) (.t 13), none⟩,
      ⟨some 15, .call 120 [.t 14], none⟩,
      ⟨some 16, .not (.t 15), none⟩])
    (.cond (.t 16) (.exit 1) .skip))
    (.seq (.reg [⟨some 17, .mov (.t 4), none⟩,
      ⟨some 5, .mov (.t 17), none⟩])
    (.seq (.block 2 (.loop ir_chaseref1_wordSpans_L1))
    (.seq (.reg [⟨some 30, .mov (.t 3), none⟩,
      ⟨some 31, .mov (.t 4), none⟩,
      ⟨some 32, .mov (.t 5), none⟩,
      ⟨some 33, .bld [.int .i64 0, .int .i64 0] [(0, 1, .t 31), (1, 1, .t 32)], none⟩,
      ⟨some 34, .bsl 2 [.t 33], none⟩,
      ⟨some 35, .app 46 2 16 (.t 30) (.t 34), none⟩,
      ⟨some 3, .mov (.t 35), none⟩])
    (.reg [⟨some 36, .mov (.t 5), none⟩,
      ⟨some 4, .mov (.t 36), none⟩]))))))
    (.cut (.reg [⟨some 10, .mov (.t 4), none⟩,
      ⟨some 11, .bin .add (.t 10) (.c (.int .i64 1)), none⟩,
      ⟨some 4, .mov (.t 11), none⟩]))))
def ir_chaseref1_wordSpans : IC :=
  (.seq (.reg [⟨some 2, .mov (.c (.nl 2)), none⟩])
    (.seq (.reg [⟨some 3, .nilr 46 2, none⟩])
    (.seq (.seq (.reg [⟨some 4, .mov (.c (.int .i64 0)), none⟩])
    (.block 0 (.loop ir_chaseref1_wordSpans_L0)))
    (.seq (.reg [⟨some 37, .mov (.t 3), none⟩,
      ⟨some 2, .mov (.t 37), none⟩])
    .ret))))
def rs_chaseref1_wordSpans : List IRes := [.t 2]
theorem ck_chaseref1_wordSpans : chkF Tryd.prog Tryd.f100 ir_chaseref1_wordSpans rs_chaseref1_wordSpans 38 = true := by kernel_rfl
/- paperchase/chaseref1.WordsOf -/
def ir_chaseref1_WordsOf_L0 : IC :=
  (.seq (.reg [⟨some 10, .bin .lss (.t 9) (.t 8), none⟩])
    (.seq (.cond (.t 10) .skip (.exit 0))
    (.seq (.block 1 (.seq (.reg [⟨some 11, .ixa 2 (.t 7) (.t 9), none⟩,
      ⟨some 12, .ld 2 true (.t 11), none⟩,
      ⟨some 5, .alc 46 [.int .i64 0, .int .i64 0], none⟩,
      ⟨none, .st 2 (.t 5) (.t 12), none⟩])
    (.reg [⟨some 13, .mov (.t 3), none⟩,
      ⟨some 14, .mov (.t 0), none⟩,
      ⟨some 15, .fla 0 (.t 5), none⟩,
      ⟨some 16, .ld 1 false (.t 15), none⟩,
      ⟨some 17, .fla 1 (.t 5), none⟩,
      ⟨some 18, .ld 1 false (.t 17), none⟩,
      ⟨some 19, .ssl (.t 14) (some (.t 16)) (some (.t 18)), none⟩,
      ⟨some 20, .call 101 [.t 19], none⟩,
      ⟨some 21, .bsl 1 [.t 20], none⟩,
      ⟨some 22, .app 9 1 16 (.t 13) (.t 21), none⟩,
      ⟨some 3, .mov (.t 22), none⟩])))
    (.reg [⟨some 23, .bin .add (.t 9) (.c (.int .i64 1)), none⟩,
      ⟨some 9, .mov (.t 23), none⟩]))))
def ir_chaseref1_WordsOf : IC :=
  (.seq (.reg [⟨some 2, .mov (.c (.nl 1)), none⟩])
    (.seq (.reg [⟨some 3, .nilr 9 1, none⟩])
    (.seq (.seq (.reg [⟨some 6, .mov (.t 0), none⟩,
      ⟨some 7, .call 100 [.t 6], none⟩,
      ⟨some 8, .len (.t 7), none⟩,
      ⟨some 9, .mov (.c (.int .i64 0)), none⟩])
    (.block 0 (.loop ir_chaseref1_WordsOf_L0)))
    (.seq (.reg [⟨some 24, .mov (.t 3), none⟩,
      ⟨some 2, .mov (.t 24), none⟩])
    .ret))))
def rs_chaseref1_WordsOf : List IRes := [.t 2]
theorem ck_chaseref1_WordsOf : chkF Tryd.prog Tryd.f31 ir_chaseref1_WordsOf rs_chaseref1_WordsOf 25 = true := by kernel_rfl


abbrev tStr : Nat := 9
def digB (c : UInt8) : Bool := decide (48 ≤ (c.toNat : Int)) && decide ((c.toNat : Int) ≤ 57)
def letB (c : UInt8) : Bool := ((decide (97 ≤ (c.toNat : Int)) && decide ((c.toNat : Int) ≤ 122) || decide (65 ≤ (c.toNat : Int)) && decide ((c.toNat : Int) ≤ 90)) || digB c) || decide (128 ≤ (c.toNat : Int))
def alphL : List UInt8 := smallL ++ capL ++ [48, 49, 50, 51, 52, 53, 54, 55, 56, 57]
theorem letB_spec (c : UInt8) : letB c = Sp.isLet c := all256 (p := fun c => letB c = Sp.isLet c) (by decide +kernel) c
theorem letB_alph (c : UInt8) : (decide (128 ≤ (c.toNat : Int)) || decide (0 ≤ Lib.indexByte alphL c)) = letB c := all256 (p := fun c => (decide (128 ≤ (c.toNat : Int)) || decide (0 ≤ Lib.indexByte alphL c)) = letB c) (by decide +kernel) c
section
variable {E : Envt}
theorem Digit_ok (c : UInt8) : PCall Tryd.prog E 149 [.int .u8 (c.toNat : Nat)] (· = .bool (digB c)) := by
  refine pcallF mixed Tryd.func149 ck_base_Digit ?_
  simp only [a0, l0, OS.ao, List.map_cons, List.map_nil, List.length_cons, List.length_nil, List.cons_append, List.nil_append, Nat.reduceSub, Nat.reduceAdd, List.replicate_succ, List.replicate_zero, ir_base_Digit, rs_base_Digit, ZZ, Za, Zb, Zc, Zd, Ze, Zf, Zg, Zh, rd, AV.un, AV.unA, AV.ad, Zi, Zj, Zk, Zl, Zm, Zn, Zo, Zp, Zq, Zr, Zs, Zt, Zu, Zv, Zw, Zx, Zy, Zz, Zaa, Zab, Zac, Zad, wk1, wk, Zae, Zaf, Zag, Zah, Zai, Zaj, Zak, Zal, AV.kill, AO.kill, AV.thaw, AO.thaw, Zam, Zan, Zao, Zap, Zaq, Zar, Zas, Zat, Zau, ite_true, ite_false, reduceCtorEq, Nat.reduceAdd, Nat.reduceMul, Nat.reduceLeDiff, Nat.reduceLT, Nat.reduceEqDiff, forall_const]
  ((repeat' (with_reducible apply And.intro)) <;> try ((first | first | assumption | trivial | exact (fun hq => by rw [hq]; rfl) | exact i64_of (by omega) (by omega) | omega | (simp; done) | (simp; omega) | (intro hsc; have hs0 := hsc; (try have hsd := of_decide_eq_true hsc); (try simp only [Bool.not_eq_true', Bool.or_eq_false_iff, Bool.and_eq_true, Bool.or_eq_true, decide_eq_true_eq, decide_eq_false_iff_not] at hsc); (repeat' (with_reducible apply And.intro)) <;> (first | assumption | trivial | exact (fun hq => by rw [hq]; rfl) | exact i64_of (by omega) (by omega) | omega | (simp; done) | (simp; omega) | (intro hse; simp [hse, hs0]; done))))))
theorem letter_ok (c : UInt8) : PCall Tryd.prog E 98 [.int .u8 (c.toNat : Nat)] (· = .bool (letB c)) := by
  refine pcallF mixed Tryd.func98 ck_near_letter ?_
  simp only [a0, l0, OS.ao, List.map_cons, List.map_nil, List.length_cons, List.length_nil, List.cons_append, List.nil_append, Nat.reduceSub, Nat.reduceAdd, List.replicate_succ, List.replicate_zero, ir_near_letter, rs_near_letter, ZZ, Za, Zb, Zc, Zd, Ze, Zf, Zg, Zh, rd, AV.un, AV.unA, AV.ad, Zi, Zj, Zk, Zl, Zm, Zn, Zo, Zp, Zq, Zr, Zs, Zt, Zu, Zv, Zw, Zx, Zy, Zz, Zaa, Zab, Zac, Zad, wk1, wk, Zae, Zaf, Zag, Zah, Zai, Zaj, Zak, Zal, AV.kill, AO.kill, AV.thaw, AO.thaw, Zam, Zan, Zao, Zap, Zaq, Zar, Zas, Zat, Zau, ite_true, ite_false, reduceCtorEq, Nat.reduceAdd, Nat.reduceMul, Nat.reduceLeDiff, Nat.reduceLT, Nat.reduceEqDiff, forall_const]
  ((repeat' (with_reducible apply And.intro)) <;> try ((first | first | assumption | trivial | exact (fun hq => by rw [hq]; rfl) | exact i64_of (by omega) (by omega) | omega | (simp; done) | (simp; omega) | (intro hsc; have hs0 := hsc; (try have hsd := of_decide_eq_true hsc); (try simp only [Bool.not_eq_true', Bool.or_eq_false_iff, Bool.and_eq_true, Bool.or_eq_true, decide_eq_true_eq, decide_eq_false_iff_not] at hsc); (repeat' (with_reducible apply And.intro)) <;> (first | assumption | trivial | exact (fun hq => by rw [hq]; rfl) | exact i64_of (by omega) (by omega) | omega | (simp; done) | (simp; omega) | (intro hse; simp [hse, hs0]; done))))))
  refine useG (fun _ => Digit_ok c) rfl (.inl rfl) ?_
  simp only [ZZ, Za, Zb, Zc, Zd, Ze, Zf, Zg, Zh, rd, AV.un, AV.unA, AV.ad, Zi, Zj, Zk, Zl, Zm, Zn, Zo, Zp, Zq, Zr, Zs, Zt, Zu, Zv, Zw, Zx, Zy, Zz, Zaa, Zab, Zac, Zad, wk1, wk, Zae, Zaf, Zag, Zah, Zai, Zaj, Zak, Zal, AV.kill, AO.kill, AV.thaw, AO.thaw, Zam, Zan, Zao, Zap, Zaq, Zar, Zas, Zat, Zau, ite_true, ite_false, reduceCtorEq, Nat.reduceAdd, Nat.reduceMul, Nat.reduceLeDiff, Nat.reduceLT, Nat.reduceEqDiff, forall_const]
  ((repeat' (with_reducible apply And.intro)) <;> try ((first | first | assumption | trivial | exact (fun hq => by rw [hq]; rfl) | exact i64_of (by omega) (by omega) | omega | (simp; done) | (simp; omega) | (intro hsc; have hs0 := hsc; (try have hsd := of_decide_eq_true hsc); (try simp only [Bool.not_eq_true', Bool.or_eq_false_iff, Bool.and_eq_true, Bool.or_eq_true, decide_eq_true_eq, decide_eq_false_iff_not] at hsc); (repeat' (with_reducible apply And.intro)) <;> (first | assumption | trivial | exact (fun hq => by rw [hq]; rfl) | exact i64_of (by omega) (by omega) | omega | (simp; done) | (simp; omega) | (intro hse; simp [hse, hs0]; done))))))
theorem pletter_ok (c : UInt8) : PCall Tryd.prog E 115 [.int .u8 (c.toNat : Nat)] (· = .bool (letB c)) := by
  refine pcallF mixed Tryd.func115 ck_privilege_letter ?_
  simp only [a0, l0, OS.ao, List.map_cons, List.map_nil, List.length_cons, List.length_nil, List.cons_append, List.nil_append, Nat.reduceSub, Nat.reduceAdd, List.replicate_succ, List.replicate_zero, ir_privilege_letter, rs_privilege_letter, ZZ, Za, Zb, Zc, Zd, Ze, Zf, Zg, Zh, rd, AV.un, AV.unA, AV.ad, Zi, Zj, Zk, Zl, Zm, Zn, Zo, Zp, Zq, Zr, Zs, Zt, Zu, Zv, Zw, Zx, Zy, Zz, Zaa, Zab, Zac, Zad, wk1, wk, Zae, Zaf, Zag, Zah, Zai, Zaj, Zak, Zal, AV.kill, AO.kill, AV.thaw, AO.thaw, Zam, Zan, Zao, Zap, Zaq, Zar, Zas, Zat, Zau, ite_true, ite_false, reduceCtorEq, Nat.reduceAdd, Nat.reduceMul, Nat.reduceLeDiff, Nat.reduceLT, Nat.reduceEqDiff, forall_const]
  ((repeat' (with_reducible apply And.intro)) <;> try ((first | first | assumption | trivial | exact (fun hq => by rw [hq]; rfl) | exact i64_of (by omega) (by omega) | omega | (simp; done) | (simp; omega) | (intro hsc; have hs0 := hsc; (try have hsd := of_decide_eq_true hsc); (try simp only [Bool.not_eq_true', Bool.or_eq_false_iff, Bool.and_eq_true, Bool.or_eq_true, decide_eq_true_eq, decide_eq_false_iff_not] at hsc); (repeat' (with_reducible apply And.intro)) <;> (first | assumption | trivial | exact (fun hq => by rw [hq]; rfl) | exact i64_of (by omega) (by omega) | omega | (simp; done) | (simp; omega) | (intro hse; simp [hse, hs0]; done))))))
  refine useG (fun _ => Digit_ok c) rfl (.inl rfl) ?_
  simp only [ZZ, Za, Zb, Zc, Zd, Ze, Zf, Zg, Zh, rd, AV.un, AV.unA, AV.ad, Zi, Zj, Zk, Zl, Zm, Zn, Zo, Zp, Zq, Zr, Zs, Zt, Zu, Zv, Zw, Zx, Zy, Zz, Zaa, Zab, Zac, Zad, wk1, wk, Zae, Zaf, Zag, Zah, Zai, Zaj, Zak, Zal, AV.kill, AO.kill, AV.thaw, AO.thaw, Zam, Zan, Zao, Zap, Zaq, Zar, Zas, Zat, Zau, ite_true, ite_false, reduceCtorEq, Nat.reduceAdd, Nat.reduceMul, Nat.reduceLeDiff, Nat.reduceLT, Nat.reduceEqDiff, forall_const]
  ((repeat' (with_reducible apply And.intro)) <;> try ((first | first | assumption | trivial | exact (fun hq => by rw [hq]; rfl) | exact i64_of (by omega) (by omega) | omega | (simp; done) | (simp; omega) | (intro hsc; have hs0 := hsc; (try have hsd := of_decide_eq_true hsc); (try simp only [Bool.not_eq_true', Bool.or_eq_false_iff, Bool.and_eq_true, Bool.or_eq_true, decide_eq_true_eq, decide_eq_false_iff_not] at hsc); (repeat' (with_reducible apply And.intro)) <;> (first | assumption | trivial | exact (fun hq => by rw [hq]; rfl) | exact i64_of (by omega) (by omega) | omega | (simp; done) | (simp; omega) | (intro hse; simp [hse, hs0]; done))))))
theorem wordByte_ok (c : UInt8) : PCall Tryd.prog E 120 [.int .u8 (c.toNat : Nat)] (· = .bool (letB c)) := by
  refine pcallF mixed Tryd.func120 ck_chaseref1_wordByte ?_
  simp only [a0, l0, OS.ao, List.map_cons, List.map_nil, List.length_cons, List.length_nil, List.cons_append, List.nil_append, Nat.reduceSub, Nat.reduceAdd, List.replicate_succ, List.replicate_zero, ir_chaseref1_wordByte, rs_chaseref1_wordByte, ZZ, Za, Zb, Zc, Zd, Ze, Zf, Zg, Zh, rd, AV.un, AV.unA, AV.ad, Zi, Zj, Zk, Zl, Zm, Zn, Zo, Zp, Zq, Zr, Zs, Zt, Zu, Zv, Zw, Zx, Zy, Zz, Zaa, Zab, Zac, Zad, wk1, wk, Zae, Zaf, Zag, Zah, Zai, Zaj, Zak, Zal, AV.kill, AO.kill, AV.thaw, AO.thaw, Zam, Zan, Zao, Zap, Zaq, Zar, Zas, Zat, Zau, ite_true, ite_false, reduceCtorEq, Nat.reduceAdd, Nat.reduceMul, Nat.reduceLeDiff, Nat.reduceLT, Nat.reduceEqDiff, forall_const]
  ((repeat' (with_reducible apply And.intro)) <;> try ((first | first | assumption | trivial | exact (fun hq => by rw [hq]; rfl) | exact i64_of (by omega) (by omega) | omega | (simp; done) | (simp; omega) | (intro hsc; have hs0 := hsc; (try have hsd := of_decide_eq_true hsc); (try simp only [Bool.not_eq_true', Bool.or_eq_false_iff, Bool.and_eq_true, Bool.or_eq_true, decide_eq_true_eq, decide_eq_false_iff_not] at hsc); (repeat' (with_reducible apply And.intro)) <;> (first | assumption | trivial | exact (fun hq => by rw [hq]; rfl) | exact i64_of (by omega) (by omega) | omega | (simp; done) | (simp; omega) | (intro hse; simp [hse, hs0]; done))))))
  refine useG (fun _ => IndexByte_ok alphL c) rfl (.inl rfl) ?_
  simp only [ZZ, Za, Zb, Zc, Zd, Ze, Zf, Zg, Zh, rd, AV.un, AV.unA, AV.ad, Zi, Zj, Zk, Zl, Zm, Zn, Zo, Zp, Zq, Zr, Zs, Zt, Zu, Zv, Zw, Zx, Zy, Zz, Zaa, Zab, Zac, Zad, wk1, wk, Zae, Zaf, Zag, Zah, Zai, Zaj, Zak, Zal, AV.kill, AO.kill, AV.thaw, AO.thaw, Zam, Zan, Zao, Zap, Zaq, Zar, Zas, Zat, Zau, ite_true, ite_false, reduceCtorEq, Nat.reduceAdd, Nat.reduceMul, Nat.reduceLeDiff, Nat.reduceLT, Nat.reduceEqDiff, forall_const]
  ((repeat' (with_reducible apply And.intro)) <;> try ((first | first | assumption | trivial | exact (fun hq => by rw [hq]; rfl) | exact i64_of (by omega) (by omega) | omega | (simp; done) | (simp; omega) | (intro hsc; have hs0 := hsc; (try have hsd := of_decide_eq_true hsc); (try simp only [Bool.not_eq_true', Bool.or_eq_false_iff, Bool.and_eq_true, Bool.or_eq_true, decide_eq_true_eq, decide_eq_false_iff_not] at hsc); (repeat' (with_reducible apply And.intro)) <;> (first | assumption | trivial | exact (fun hq => by rw [hq]; rfl) | exact i64_of (by omega) (by omega) | omega | (simp; done) | (simp; omega) | (intro hse; simp [hse, hs0]; done))))))
  rw [letB_alph]
def wordF (t : List UInt8) (p : Nat × Nat) : List UInt8 := lowF (Sp.part t p)
def wordsF (t : List UInt8) : List (List UInt8) := (Sp.spans t).map (wordF t)
def strE (l : List (List UInt8)) : List (List PV) := l.map fun x => [PV.str x]
theorem strE_len (l : List (List UInt8)) : (strE l).length = l.length := by simp [strE]
theorem strE_app (l m : List (List UInt8)) : strE (l ++ m) = strE l ++ strE m := by simp [strE]
theorem strs_eq (l : List (List UInt8)) : strs l = .sl 1 (strE l) := rfl
theorem strE_get {l : List (List UInt8)} {k : Nat} {x : List UInt8} (h : l[k]? = some x) : (strE l).getD k [] = [.str x] := getD_map h
theorem strE_one (x : List UInt8) : [[PV.str x]] = strE [x] := rfl
def fromI (f : Option Nat) : Int := match f with | none => -1 | some a => (a : Int)
theorem Words_ok (t : List UInt8) (ht : t.length ≤ 1000000000) : PCall Tryd.prog E 30 [.str t] (· = strs (wordsF t)) := by
  refine pcallF mixed Tryd.func30 ck_near_Words ?_
  simp only [a0, l0, OS.ao, List.map_cons, List.map_nil, List.length_cons, List.length_nil, List.cons_append, List.nil_append, Nat.reduceSub, Nat.reduceAdd, List.replicate_succ, List.replicate_zero, ir_near_Words, rs_near_Words, ZZ, Za, Zb, Zc, Zd, Ze, Zf, Zg, Zh, rd, AV.un, AV.unA, AV.ad, Zi, Zj, Zk, Zl, Zm, Zn, Zo, Zp, Zq, Zr, Zs, Zt, Zu, Zv, Zw, Zx, Zy, Zz, Zaa, Zab, Zac, Zad, wk1, wk, Zae, Zaf, Zag, Zah, Zai, Zaj, Zak, Zal, AV.kill, AO.kill, AV.thaw, AO.thaw, Zam, Zan, Zao, Zap, Zaq, Zar, Zas, Zat, Zau, ite_true, ite_false, reduceCtorEq, Nat.reduceAdd, Nat.reduceMul, Nat.reduceLeDiff, Nat.reduceLT, Nat.reduceEqDiff, forall_const]
  refine loop_intro (fun n fr L => ∃ (i : Nat) (f : Option Nat) (l : List (List UInt8)), t.length + 1 - i = n ∧ (i ≤ t.length + 1) ∧ (∀ a, f = some a → a < i ∧ i ≤ t.length) ∧ (l.length ≤ i) ∧ (l ++ (Sp.wsp i f (t.drop i)).map (wordF t) = wordsF t) ∧ fr = [.p (.str t), .any, .any, .row (.l 3), .p (int (fromI f)), .p (int (i : Nat)), .any, .any, .any, .any, .any, .any, .any, .any, .any, .any, .any, .any, .any, .any, .any, .any, .any, .any, .any, .any, .any, .any, .any, .any, .any, .any, .any, .any, .any, .any, .any, .any, .any, .any, .any, .any, .any, .any] ∧ L = [(.l 3, .row (strE l) tStr 1 true)]) (t.length + 1 - 0) [.p (.str t), .any, .any, .row (.l 3), .p (int (fromI none)), .p (int (0 : Nat)), .any, .any, .any, .any, .any, .any, .any, .any, .any, .any, .any, .any, .any, .any, .any, .any, .any, .any, .any, .any, .any, .any, .any, .any, .any, .any, .any, .any, .any, .any, .any, .any, .any, .any, .any, .any, .any, .any] [(.l 3, .row (strE []) tStr 1 true)] (by (simp only [ZZ, Za, Zb, Zc, Zd, Ze, Zf, Zg, Zh, rd, AV.un, AV.unA, AV.ad, Zi, Zj, Zk, Zl, Zm, Zn, Zo, Zp, Zq, Zr, Zs, Zt, Zu, Zv, Zw, Zx, Zy, Zz, Zaa, Zab, Zac, Zad, wk1, wk, Zae, Zaf, Zag, Zah, Zai, Zaj, Zak, Zal, AV.kill, AO.kill, AV.thaw, AO.thaw, Zam, Zan, Zao, Zap, Zaq, Zar, Zas, Zat, Zau, ite_true, ite_false, reduceCtorEq, Nat.reduceAdd, Nat.reduceMul, Nat.reduceLeDiff, Nat.reduceLT, Nat.reduceEqDiff, forall_const]; try trivial)) (by (simp only [ZZ, Za, Zb, Zc, Zd, Ze, Zf, Zg, Zh, rd, AV.un, AV.unA, AV.ad, Zi, Zj, Zk, Zl, Zm, Zn, Zo, Zp, Zq, Zr, Zs, Zt, Zu, Zv, Zw, Zx, Zy, Zz, Zaa, Zab, Zac, Zad, wk1, wk, Zae, Zaf, Zag, Zah, Zai, Zaj, Zak, Zal, AV.kill, AO.kill, AV.thaw, AO.thaw, Zam, Zan, Zao, Zap, Zaq, Zar, Zas, Zat, Zau, ite_true, ite_false, reduceCtorEq, Nat.reduceAdd, Nat.reduceMul, Nat.reduceLeDiff, Nat.reduceLT, Nat.reduceEqDiff, forall_const]; try trivial)) ⟨0, none, [], rfl, by omega, by simp, by simp, rfl, rfl, rfl⟩ ?_
  rintro n fr L ⟨i, f, l, rfl, hi1, hf, hll, hl, rfl, rfl⟩
  simp only [ir_near_Words_L0, ZZ, Za, Zb, Zc, Zd, Ze, Zf, Zg, Zh, rd, AV.un, AV.unA, AV.ad, Zi, Zj, Zk, Zl, Zm, Zn, Zo, Zp, Zq, Zr, Zs, Zt, Zu, Zv, Zw, Zx, Zy, Zz, Zaa, Zab, Zac, Zad, wk1, wk, Zae, Zaf, Zag, Zah, Zai, Zaj, Zak, Zal, AV.kill, AO.kill, AV.thaw, AO.thaw, Zam, Zan, Zao, Zap, Zaq, Zar, Zas, Zat, Zau, ite_true, ite_false, reduceCtorEq, Nat.reduceAdd, Nat.reduceMul, Nat.reduceLeDiff, Nat.reduceLT, Nat.reduceEqDiff, forall_const]
  refine br ?_ ?_
  · intro h
    have hle : i ≤ t.length := by have := of_decide_eq_true h; omega
    simp only [ZZ, Za, Zb, Zc, Zd, Ze, Zf, Zg, Zh, rd, AV.un, AV.unA, AV.ad, Zi, Zj, Zk, Zl, Zm, Zn, Zo, Zp, Zq, Zr, Zs, Zt, Zu, Zv, Zw, Zx, Zy, Zz, Zaa, Zab, Zac, Zad, wk1, wk, Zae, Zaf, Zag, Zah, Zai, Zaj, Zak, Zal, AV.kill, AO.kill, AV.thaw, AO.thaw, Zam, Zan, Zao, Zap, Zaq, Zar, Zas, Zat, Zau, ite_true, ite_false, reduceCtorEq, Nat.reduceAdd, Nat.reduceMul, Nat.reduceLeDiff, Nat.reduceLT, Nat.reduceEqDiff, forall_const]
    ((repeat' (with_reducible apply And.intro)) <;> try ((first | first | assumption | trivial | exact (fun hq => by rw [hq]; rfl) | exact i64_of (by omega) (by omega) | omega | (simp; done) | (simp; omega) | (intro hsc; have hs0 := hsc; (try have hsd := of_decide_eq_true hsc); (try simp only [Bool.not_eq_true', Bool.or_eq_false_iff, Bool.and_eq_true, Bool.or_eq_true, decide_eq_true_eq, decide_eq_false_iff_not] at hsc); (repeat' (with_reducible apply And.intro)) <;> (first | assumption | trivial | exact (fun hq => by rw [hq]; rfl) | exact i64_of (by omega) (by omega) | omega | (simp; done) | (simp; omega) | (intro hse; simp [hse, hs0]; done))))))
    refine useG (fun _ => letter_ok (t.getD i 0)) rfl (.inl rfl) ?_
    simp only [ZZ, Za, Zb, Zc, Zd, Ze, Zf, Zg, Zh, rd, AV.un, AV.unA, AV.ad, Zi, Zj, Zk, Zl, Zm, Zn, Zo, Zp, Zq, Zr, Zs, Zt, Zu, Zv, Zw, Zx, Zy, Zz, Zaa, Zab, Zac, Zad, wk1, wk, Zae, Zaf, Zag, Zah, Zai, Zaj, Zak, Zal, AV.kill, AO.kill, AV.thaw, AO.thaw, Zam, Zan, Zao, Zap, Zaq, Zar, Zas, Zat, Zau, ite_true, ite_false, reduceCtorEq, Nat.reduceAdd, Nat.reduceMul, Nat.reduceLeDiff, Nat.reduceLT, Nat.reduceEqDiff, forall_const]
    ((repeat' (with_reducible apply And.intro)) <;> try ((first | first | assumption | trivial | exact (fun hq => by rw [hq]; rfl) | exact i64_of (by omega) (by omega) | omega | (simp; done) | (simp; omega) | (intro hsc; have hs0 := hsc; (try have hsd := of_decide_eq_true hsc); (try simp only [Bool.not_eq_true', Bool.or_eq_false_iff, Bool.and_eq_true, Bool.or_eq_true, decide_eq_true_eq, decide_eq_false_iff_not] at hsc); (repeat' (with_reducible apply And.intro)) <;> (first | assumption | trivial | exact (fun hq => by rw [hq]; rfl) | exact i64_of (by omega) (by omega) | omega | (simp; done) | (simp; omega) | (intro hse; simp [hse, hs0]; done))))))
    have hin : (decide ((i : Int) < t.length) && letB (t.getD i 0)) = true → ∃ hh : i < t.length, Sp.isLet t[i] = true := by
      intro hb
      simp only [Bool.and_eq_true, decide_eq_true_eq] at hb
      have hh : i < t.length := by omega
      refine ⟨hh, ?_⟩
      rw [← letB_spec, ← hb.2]
      simp [List.getD, hh]
    have hout : (decide ((i : Int) < t.length) && letB (t.getD i 0)) = false → ∀ hh : i < t.length, Sp.isLet t[i] = false := by
      intro hb hh
      rw [show decide ((i : Int) < t.length) = true from by simp [hh], Bool.true_and] at hb
      rw [← letB_spec, ← hb]
      simp [List.getD, hh]
    generalize (decide ((i : Int) < t.length) && letB (t.getD i 0)) = b at hin hout ⊢
    cases f with
    | none =>
      have e1 : decide (fromI none < 0) = true := by decide
      have e2 : decide (0 ≤ fromI none) = false := by decide
      cases b with
      | true =>
        obtain ⟨hh, hlet⟩ := hin rfl
        have e3 : decide (0 ≤ (i : Int)) = true := by simp
        have hnx := Sp.wsp_let t i none hh _ rfl hlet
        simp only [ZZ, Za, Zb, Zc, Zd, Ze, Zf, Zg, Zh, rd, AV.un, AV.unA, AV.ad, Zi, Zj, Zk, Zl, Zm, Zn, Zo, Zp, Zq, Zr, Zs, Zt, Zu, Zv, Zw, Zx, Zy, Zz, Zaa, Zab, Zac, Zad, wk1, wk, Zae, Zaf, Zag, Zah, Zai, Zaj, Zak, Zal, AV.kill, AO.kill, AV.thaw, AO.thaw, Zam, Zan, Zao, Zap, Zaq, Zar, Zas, Zat, Zau, ite_true, ite_false, reduceCtorEq, Nat.reduceAdd, Nat.reduceMul, Nat.reduceLeDiff, Nat.reduceLT, Nat.reduceEqDiff, forall_const, e1, e2, e3, Bool.false_and]
        refine cut_same (by simp only [ZZ, Za, Zb, Zc, Zd, Ze, Zf, Zg, Zh, rd, AV.un, AV.unA, AV.ad, Zi, Zj, Zk, Zl, Zm, Zn, Zo, Zp, Zq, Zr, Zs, Zt, Zu, Zv, Zw, Zx, Zy, Zz, Zaa, Zab, Zac, Zad, wk1, wk, Zae, Zaf, Zag, Zah, Zai, Zaj, Zak, Zal, AV.kill, AO.kill, AV.thaw, AO.thaw, Zam, Zan, Zao, Zap, Zaq, Zar, Zas, Zat, Zau, ite_true, ite_false, reduceCtorEq, Nat.reduceAdd, Nat.reduceMul, Nat.reduceLeDiff, Nat.reduceLT, Nat.reduceEqDiff, forall_const]) ?_
        simp only [ZZ, Za, Zb, Zc, Zd, Ze, Zf, Zg, Zh, rd, AV.un, AV.unA, AV.ad, Zi, Zj, Zk, Zl, Zm, Zn, Zo, Zp, Zq, Zr, Zs, Zt, Zu, Zv, Zw, Zx, Zy, Zz, Zaa, Zab, Zac, Zad, wk1, wk, Zae, Zaf, Zag, Zah, Zai, Zaj, Zak, Zal, AV.kill, AO.kill, AV.thaw, AO.thaw, Zam, Zan, Zao, Zap, Zaq, Zar, Zas, Zat, Zau, ite_true, ite_false, reduceCtorEq, Nat.reduceAdd, Nat.reduceMul, Nat.reduceLeDiff, Nat.reduceLT, Nat.reduceEqDiff, forall_const, e1, e2, e3, Bool.false_and]
        refine cut_same (by simp only [ZZ, Za, Zb, Zc, Zd, Ze, Zf, Zg, Zh, rd, AV.un, AV.unA, AV.ad, Zi, Zj, Zk, Zl, Zm, Zn, Zo, Zp, Zq, Zr, Zs, Zt, Zu, Zv, Zw, Zx, Zy, Zz, Zaa, Zab, Zac, Zad, wk1, wk, Zae, Zaf, Zag, Zah, Zai, Zaj, Zak, Zal, AV.kill, AO.kill, AV.thaw, AO.thaw, Zam, Zan, Zao, Zap, Zaq, Zar, Zas, Zat, Zau, ite_true, ite_false, reduceCtorEq, Nat.reduceAdd, Nat.reduceMul, Nat.reduceLeDiff, Nat.reduceLT, Nat.reduceEqDiff, forall_const]) ?_
        simp only [ZZ, Za, Zb, Zc, Zd, Ze, Zf, Zg, Zh, rd, AV.un, AV.unA, AV.ad, Zi, Zj, Zk, Zl, Zm, Zn, Zo, Zp, Zq, Zr, Zs, Zt, Zu, Zv, Zw, Zx, Zy, Zz, Zaa, Zab, Zac, Zad, wk1, wk, Zae, Zaf, Zag, Zah, Zai, Zaj, Zak, Zal, AV.kill, AO.kill, AV.thaw, AO.thaw, Zam, Zan, Zao, Zap, Zaq, Zar, Zas, Zat, Zau, ite_true, ite_false, reduceCtorEq, Nat.reduceAdd, Nat.reduceMul, Nat.reduceLeDiff, Nat.reduceLT, Nat.reduceEqDiff, forall_const]
        ((repeat' (with_reducible apply And.intro)) <;> try ((first | first | assumption | trivial | exact (fun hq => by rw [hq]; rfl) | exact i64_of (by omega) (by omega) | omega | (simp; done) | (simp; omega) | (intro hsc; have hs0 := hsc; (try have hsd := of_decide_eq_true hsc); (try simp only [Bool.not_eq_true', Bool.or_eq_false_iff, Bool.and_eq_true, Bool.or_eq_true, decide_eq_true_eq, decide_eq_false_iff_not] at hsc); (repeat' (with_reducible apply And.intro)) <;> (first | assumption | trivial | exact (fun hq => by rw [hq]; rfl) | exact i64_of (by omega) (by omega) | omega | (simp; done) | (simp; omega) | (intro hse; simp [hse, hs0]; done))))))
        refine end_round (t.length + 1 - (i + 1)) [.p (.str t), .any, .any, .row (.l 3), .p (int (fromI (some i))), .p (int ((i + 1) : Nat)), .any, .any, .any, .any, .any, .any, .any, .any, .any, .any, .any, .any, .any, .any, .any, .any, .any, .any, .any, .any, .any, .any, .any, .any, .any, .any, .any, .any, .any, .any, .any, .any, .any, .any, .any, .any, .any, .any] [(.l 3, .row (strE l) tStr 1 true)] (by omega) (by (simp only [ZZ, Za, Zb, Zc, Zd, Ze, Zf, Zg, Zh, rd, AV.un, AV.unA, AV.ad, Zi, Zj, Zk, Zl, Zm, Zn, Zo, Zp, Zq, Zr, Zs, Zt, Zu, Zv, Zw, Zx, Zy, Zz, Zaa, Zab, Zac, Zad, wk1, wk, Zae, Zaf, Zag, Zah, Zai, Zaj, Zak, Zal, AV.kill, AO.kill, AV.thaw, AO.thaw, Zam, Zan, Zao, Zap, Zaq, Zar, Zas, Zat, Zau, ite_true, ite_false, reduceCtorEq, Nat.reduceAdd, Nat.reduceMul, Nat.reduceLeDiff, Nat.reduceLT, Nat.reduceEqDiff, forall_const]; try trivial)) (by (simp only [ZZ, Za, Zb, Zc, Zd, Ze, Zf, Zg, Zh, rd, AV.un, AV.unA, AV.ad, Zi, Zj, Zk, Zl, Zm, Zn, Zo, Zp, Zq, Zr, Zs, Zt, Zu, Zv, Zw, Zx, Zy, Zz, Zaa, Zab, Zac, Zad, wk1, wk, Zae, Zaf, Zag, Zah, Zai, Zaj, Zak, Zal, AV.kill, AO.kill, AV.thaw, AO.thaw, Zam, Zan, Zao, Zap, Zaq, Zar, Zas, Zat, Zau, ite_true, ite_false, reduceCtorEq, Nat.reduceAdd, Nat.reduceMul, Nat.reduceLeDiff, Nat.reduceLT, Nat.reduceEqDiff, forall_const]; try trivial)) ⟨i + 1, some i, l, rfl, by omega, by intro a ha; cases ha; omega, by omega, by rw [← hl, hnx]; rfl, rfl, rfl⟩
      | false =>
        have hnx : Sp.wsp i none (t.drop i) = Sp.wsp (i + 1) none (t.drop (i + 1)) := by
          by_cases hh : i < t.length
          · exact Sp.wsp_non t i hh _ rfl (hout rfl hh)
          · rw [Sp.wsp_out t i (by omega), Sp.wsp_out t (i + 1) (by omega)]
        simp only [ZZ, Za, Zb, Zc, Zd, Ze, Zf, Zg, Zh, rd, AV.un, AV.unA, AV.ad, Zi, Zj, Zk, Zl, Zm, Zn, Zo, Zp, Zq, Zr, Zs, Zt, Zu, Zv, Zw, Zx, Zy, Zz, Zaa, Zab, Zac, Zad, wk1, wk, Zae, Zaf, Zag, Zah, Zai, Zaj, Zak, Zal, AV.kill, AO.kill, AV.thaw, AO.thaw, Zam, Zan, Zao, Zap, Zaq, Zar, Zas, Zat, Zau, ite_true, ite_false, reduceCtorEq, Nat.reduceAdd, Nat.reduceMul, Nat.reduceLeDiff, Nat.reduceLT, Nat.reduceEqDiff, forall_const, e1, e2, Bool.false_and]
        refine cut_same (by simp only [ZZ, Za, Zb, Zc, Zd, Ze, Zf, Zg, Zh, rd, AV.un, AV.unA, AV.ad, Zi, Zj, Zk, Zl, Zm, Zn, Zo, Zp, Zq, Zr, Zs, Zt, Zu, Zv, Zw, Zx, Zy, Zz, Zaa, Zab, Zac, Zad, wk1, wk, Zae, Zaf, Zag, Zah, Zai, Zaj, Zak, Zal, AV.kill, AO.kill, AV.thaw, AO.thaw, Zam, Zan, Zao, Zap, Zaq, Zar, Zas, Zat, Zau, ite_true, ite_false, reduceCtorEq, Nat.reduceAdd, Nat.reduceMul, Nat.reduceLeDiff, Nat.reduceLT, Nat.reduceEqDiff, forall_const]) ?_
        simp only [ZZ, Za, Zb, Zc, Zd, Ze, Zf, Zg, Zh, rd, AV.un, AV.unA, AV.ad, Zi, Zj, Zk, Zl, Zm, Zn, Zo, Zp, Zq, Zr, Zs, Zt, Zu, Zv, Zw, Zx, Zy, Zz, Zaa, Zab, Zac, Zad, wk1, wk, Zae, Zaf, Zag, Zah, Zai, Zaj, Zak, Zal, AV.kill, AO.kill, AV.thaw, AO.thaw, Zam, Zan, Zao, Zap, Zaq, Zar, Zas, Zat, Zau, ite_true, ite_false, reduceCtorEq, Nat.reduceAdd, Nat.reduceMul, Nat.reduceLeDiff, Nat.reduceLT, Nat.reduceEqDiff, forall_const, e1, e2, Bool.false_and]
        refine cut_same (by simp only [ZZ, Za, Zb, Zc, Zd, Ze, Zf, Zg, Zh, rd, AV.un, AV.unA, AV.ad, Zi, Zj, Zk, Zl, Zm, Zn, Zo, Zp, Zq, Zr, Zs, Zt, Zu, Zv, Zw, Zx, Zy, Zz, Zaa, Zab, Zac, Zad, wk1, wk, Zae, Zaf, Zag, Zah, Zai, Zaj, Zak, Zal, AV.kill, AO.kill, AV.thaw, AO.thaw, Zam, Zan, Zao, Zap, Zaq, Zar, Zas, Zat, Zau, ite_true, ite_false, reduceCtorEq, Nat.reduceAdd, Nat.reduceMul, Nat.reduceLeDiff, Nat.reduceLT, Nat.reduceEqDiff, forall_const]) ?_
        simp only [ZZ, Za, Zb, Zc, Zd, Ze, Zf, Zg, Zh, rd, AV.un, AV.unA, AV.ad, Zi, Zj, Zk, Zl, Zm, Zn, Zo, Zp, Zq, Zr, Zs, Zt, Zu, Zv, Zw, Zx, Zy, Zz, Zaa, Zab, Zac, Zad, wk1, wk, Zae, Zaf, Zag, Zah, Zai, Zaj, Zak, Zal, AV.kill, AO.kill, AV.thaw, AO.thaw, Zam, Zan, Zao, Zap, Zaq, Zar, Zas, Zat, Zau, ite_true, ite_false, reduceCtorEq, Nat.reduceAdd, Nat.reduceMul, Nat.reduceLeDiff, Nat.reduceLT, Nat.reduceEqDiff, forall_const]
        ((repeat' (with_reducible apply And.intro)) <;> try ((first | first | assumption | trivial | exact (fun hq => by rw [hq]; rfl) | exact i64_of (by omega) (by omega) | omega | (simp; done) | (simp; omega) | (intro hsc; have hs0 := hsc; (try have hsd := of_decide_eq_true hsc); (try simp only [Bool.not_eq_true', Bool.or_eq_false_iff, Bool.and_eq_true, Bool.or_eq_true, decide_eq_true_eq, decide_eq_false_iff_not] at hsc); (repeat' (with_reducible apply And.intro)) <;> (first | assumption | trivial | exact (fun hq => by rw [hq]; rfl) | exact i64_of (by omega) (by omega) | omega | (simp; done) | (simp; omega) | (intro hse; simp [hse, hs0]; done))))))
        refine end_round (t.length + 1 - (i + 1)) [.p (.str t), .any, .any, .row (.l 3), .p (int (fromI (none))), .p (int ((i + 1) : Nat)), .any, .any, .any, .any, .any, .any, .any, .any, .any, .any, .any, .any, .any, .any, .any, .any, .any, .any, .any, .any, .any, .any, .any, .any, .any, .any, .any, .any, .any, .any, .any, .any, .any, .any, .any, .any, .any, .any] [(.l 3, .row (strE l) tStr 1 true)] (by omega) (by (simp only [ZZ, Za, Zb, Zc, Zd, Ze, Zf, Zg, Zh, rd, AV.un, AV.unA, AV.ad, Zi, Zj, Zk, Zl, Zm, Zn, Zo, Zp, Zq, Zr, Zs, Zt, Zu, Zv, Zw, Zx, Zy, Zz, Zaa, Zab, Zac, Zad, wk1, wk, Zae, Zaf, Zag, Zah, Zai, Zaj, Zak, Zal, AV.kill, AO.kill, AV.thaw, AO.thaw, Zam, Zan, Zao, Zap, Zaq, Zar, Zas, Zat, Zau, ite_true, ite_false, reduceCtorEq, Nat.reduceAdd, Nat.reduceMul, Nat.reduceLeDiff, Nat.reduceLT, Nat.reduceEqDiff, forall_const]; try trivial)) (by (simp only [ZZ, Za, Zb, Zc, Zd, Ze, Zf, Zg, Zh, rd, AV.un, AV.unA, AV.ad, Zi, Zj, Zk, Zl, Zm, Zn, Zo, Zp, Zq, Zr, Zs, Zt, Zu, Zv, Zw, Zx, Zy, Zz, Zaa, Zab, Zac, Zad, wk1, wk, Zae, Zaf, Zag, Zah, Zai, Zaj, Zak, Zal, AV.kill, AO.kill, AV.thaw, AO.thaw, Zam, Zan, Zao, Zap, Zaq, Zar, Zas, Zat, Zau, ite_true, ite_false, reduceCtorEq, Nat.reduceAdd, Nat.reduceMul, Nat.reduceLeDiff, Nat.reduceLT, Nat.reduceEqDiff, forall_const]; try trivial)) ⟨i + 1, none, l, rfl, by omega, by simp, by omega, by rw [← hl, hnx], rfl, rfl⟩
    | some a =>
      obtain ⟨ha1, ha2⟩ := hf a rfl
      have e1 : decide (fromI (some a) < 0) = false := decide_eq_false (by simp only [fromI]; omega)
      have e2 : decide (0 ≤ fromI (some a)) = true := decide_eq_true (by simp only [fromI]; omega)
      cases b with
      | true =>
        obtain ⟨hh, hlet⟩ := hin rfl
        have hnx := Sp.wsp_let t i (some a) hh _ rfl hlet
        simp only [ZZ, Za, Zb, Zc, Zd, Ze, Zf, Zg, Zh, rd, AV.un, AV.unA, AV.ad, Zi, Zj, Zk, Zl, Zm, Zn, Zo, Zp, Zq, Zr, Zs, Zt, Zu, Zv, Zw, Zx, Zy, Zz, Zaa, Zab, Zac, Zad, wk1, wk, Zae, Zaf, Zag, Zah, Zai, Zaj, Zak, Zal, AV.kill, AO.kill, AV.thaw, AO.thaw, Zam, Zan, Zao, Zap, Zaq, Zar, Zas, Zat, Zau, ite_true, ite_false, reduceCtorEq, Nat.reduceAdd, Nat.reduceMul, Nat.reduceLeDiff, Nat.reduceLT, Nat.reduceEqDiff, forall_const, e1, e2, Bool.false_and]
        refine cut_same (by simp only [ZZ, Za, Zb, Zc, Zd, Ze, Zf, Zg, Zh, rd, AV.un, AV.unA, AV.ad, Zi, Zj, Zk, Zl, Zm, Zn, Zo, Zp, Zq, Zr, Zs, Zt, Zu, Zv, Zw, Zx, Zy, Zz, Zaa, Zab, Zac, Zad, wk1, wk, Zae, Zaf, Zag, Zah, Zai, Zaj, Zak, Zal, AV.kill, AO.kill, AV.thaw, AO.thaw, Zam, Zan, Zao, Zap, Zaq, Zar, Zas, Zat, Zau, ite_true, ite_false, reduceCtorEq, Nat.reduceAdd, Nat.reduceMul, Nat.reduceLeDiff, Nat.reduceLT, Nat.reduceEqDiff, forall_const]) ?_
        simp only [ZZ, Za, Zb, Zc, Zd, Ze, Zf, Zg, Zh, rd, AV.un, AV.unA, AV.ad, Zi, Zj, Zk, Zl, Zm, Zn, Zo, Zp, Zq, Zr, Zs, Zt, Zu, Zv, Zw, Zx, Zy, Zz, Zaa, Zab, Zac, Zad, wk1, wk, Zae, Zaf, Zag, Zah, Zai, Zaj, Zak, Zal, AV.kill, AO.kill, AV.thaw, AO.thaw, Zam, Zan, Zao, Zap, Zaq, Zar, Zas, Zat, Zau, ite_true, ite_false, reduceCtorEq, Nat.reduceAdd, Nat.reduceMul, Nat.reduceLeDiff, Nat.reduceLT, Nat.reduceEqDiff, forall_const, e1, e2, Bool.false_and]
        refine cut_same (by simp only [ZZ, Za, Zb, Zc, Zd, Ze, Zf, Zg, Zh, rd, AV.un, AV.unA, AV.ad, Zi, Zj, Zk, Zl, Zm, Zn, Zo, Zp, Zq, Zr, Zs, Zt, Zu, Zv, Zw, Zx, Zy, Zz, Zaa, Zab, Zac, Zad, wk1, wk, Zae, Zaf, Zag, Zah, Zai, Zaj, Zak, Zal, AV.kill, AO.kill, AV.thaw, AO.thaw, Zam, Zan, Zao, Zap, Zaq, Zar, Zas, Zat, Zau, ite_true, ite_false, reduceCtorEq, Nat.reduceAdd, Nat.reduceMul, Nat.reduceLeDiff, Nat.reduceLT, Nat.reduceEqDiff, forall_const]) ?_
        simp only [ZZ, Za, Zb, Zc, Zd, Ze, Zf, Zg, Zh, rd, AV.un, AV.unA, AV.ad, Zi, Zj, Zk, Zl, Zm, Zn, Zo, Zp, Zq, Zr, Zs, Zt, Zu, Zv, Zw, Zx, Zy, Zz, Zaa, Zab, Zac, Zad, wk1, wk, Zae, Zaf, Zag, Zah, Zai, Zaj, Zak, Zal, AV.kill, AO.kill, AV.thaw, AO.thaw, Zam, Zan, Zao, Zap, Zaq, Zar, Zas, Zat, Zau, ite_true, ite_false, reduceCtorEq, Nat.reduceAdd, Nat.reduceMul, Nat.reduceLeDiff, Nat.reduceLT, Nat.reduceEqDiff, forall_const]
        ((repeat' (with_reducible apply And.intro)) <;> try ((first | first | assumption | trivial | exact (fun hq => by rw [hq]; rfl) | exact i64_of (by omega) (by omega) | omega | (simp; done) | (simp; omega) | (intro hsc; have hs0 := hsc; (try have hsd := of_decide_eq_true hsc); (try simp only [Bool.not_eq_true', Bool.or_eq_false_iff, Bool.and_eq_true, Bool.or_eq_true, decide_eq_true_eq, decide_eq_false_iff_not] at hsc); (repeat' (with_reducible apply And.intro)) <;> (first | assumption | trivial | exact (fun hq => by rw [hq]; rfl) | exact i64_of (by omega) (by omega) | omega | (simp; done) | (simp; omega) | (intro hse; simp [hse, hs0]; done))))))
        refine end_round (t.length + 1 - (i + 1)) [.p (.str t), .any, .any, .row (.l 3), .p (int (fromI (some a))), .p (int ((i + 1) : Nat)), .any, .any, .any, .any, .any, .any, .any, .any, .any, .any, .any, .any, .any, .any, .any, .any, .any, .any, .any, .any, .any, .any, .any, .any, .any, .any, .any, .any, .any, .any, .any, .any, .any, .any, .any, .any, .any, .any] [(.l 3, .row (strE l) tStr 1 true)] (by omega) (by (simp only [ZZ, Za, Zb, Zc, Zd, Ze, Zf, Zg, Zh, rd, AV.un, AV.unA, AV.ad, Zi, Zj, Zk, Zl, Zm, Zn, Zo, Zp, Zq, Zr, Zs, Zt, Zu, Zv, Zw, Zx, Zy, Zz, Zaa, Zab, Zac, Zad, wk1, wk, Zae, Zaf, Zag, Zah, Zai, Zaj, Zak, Zal, AV.kill, AO.kill, AV.thaw, AO.thaw, Zam, Zan, Zao, Zap, Zaq, Zar, Zas, Zat, Zau, ite_true, ite_false, reduceCtorEq, Nat.reduceAdd, Nat.reduceMul, Nat.reduceLeDiff, Nat.reduceLT, Nat.reduceEqDiff, forall_const]; try trivial)) (by (simp only [ZZ, Za, Zb, Zc, Zd, Ze, Zf, Zg, Zh, rd, AV.un, AV.unA, AV.ad, Zi, Zj, Zk, Zl, Zm, Zn, Zo, Zp, Zq, Zr, Zs, Zt, Zu, Zv, Zw, Zx, Zy, Zz, Zaa, Zab, Zac, Zad, wk1, wk, Zae, Zaf, Zag, Zah, Zai, Zaj, Zak, Zal, AV.kill, AO.kill, AV.thaw, AO.thaw, Zam, Zan, Zao, Zap, Zaq, Zar, Zas, Zat, Zau, ite_true, ite_false, reduceCtorEq, Nat.reduceAdd, Nat.reduceMul, Nat.reduceLeDiff, Nat.reduceLT, Nat.reduceEqDiff, forall_const]; try trivial)) ⟨i + 1, some a, l, rfl, by omega, by intro q hq; cases hq; omega, by omega, by rw [← hl, hnx]; rfl, rfl, rfl⟩
      | false =>
        have hnx : Sp.wsp i (some a) (t.drop i) = (a, i) :: Sp.wsp (i + 1) none (t.drop (i + 1)) := by
          by_cases hh : i < t.length
          · exact Sp.wsp_end t i a hh _ rfl (hout rfl hh)
          · exact Sp.wsp_fin t i a (by omega)
        simp only [ZZ, Za, Zb, Zc, Zd, Ze, Zf, Zg, Zh, rd, AV.un, AV.unA, AV.ad, Zi, Zj, Zk, Zl, Zm, Zn, Zo, Zp, Zq, Zr, Zs, Zt, Zu, Zv, Zw, Zx, Zy, Zz, Zaa, Zab, Zac, Zad, wk1, wk, Zae, Zaf, Zag, Zah, Zai, Zaj, Zak, Zal, AV.kill, AO.kill, AV.thaw, AO.thaw, Zam, Zan, Zao, Zap, Zaq, Zar, Zas, Zat, Zau, ite_true, ite_false, reduceCtorEq, Nat.reduceAdd, Nat.reduceMul, Nat.reduceLeDiff, Nat.reduceLT, Nat.reduceEqDiff, forall_const, e1, e2, Bool.false_and]
        refine cut_same (by simp only [ZZ, Za, Zb, Zc, Zd, Ze, Zf, Zg, Zh, rd, AV.un, AV.unA, AV.ad, Zi, Zj, Zk, Zl, Zm, Zn, Zo, Zp, Zq, Zr, Zs, Zt, Zu, Zv, Zw, Zx, Zy, Zz, Zaa, Zab, Zac, Zad, wk1, wk, Zae, Zaf, Zag, Zah, Zai, Zaj, Zak, Zal, AV.kill, AO.kill, AV.thaw, AO.thaw, Zam, Zan, Zao, Zap, Zaq, Zar, Zas, Zat, Zau, ite_true, ite_false, reduceCtorEq, Nat.reduceAdd, Nat.reduceMul, Nat.reduceLeDiff, Nat.reduceLT, Nat.reduceEqDiff, forall_const]) ?_
        have e4 : decide (0 ≤ ((a : Nat) : Int)) = true := by simp
        simp only [ZZ, Za, Zb, Zc, Zd, Ze, Zf, Zg, Zh, rd, AV.un, AV.unA, AV.ad, Zi, Zj, Zk, Zl, Zm, Zn, Zo, Zp, Zq, Zr, Zs, Zt, Zu, Zv, Zw, Zx, Zy, Zz, Zaa, Zab, Zac, Zad, wk1, wk, Zae, Zaf, Zag, Zah, Zai, Zaj, Zak, Zal, AV.kill, AO.kill, AV.thaw, AO.thaw, Zam, Zan, Zao, Zap, Zaq, Zar, Zas, Zat, Zau, ite_true, ite_false, reduceCtorEq, Nat.reduceAdd, Nat.reduceMul, Nat.reduceLeDiff, Nat.reduceLT, Nat.reduceEqDiff, forall_const, e1, e2, e4, fromI, Bool.false_and]
        ((repeat' (with_reducible apply And.intro)) <;> try ((first | first | assumption | trivial | exact (fun hq => by rw [hq]; rfl) | exact i64_of (by omega) (by omega) | omega | (simp; done) | (simp; omega) | (intro hsc; have hs0 := hsc; (try have hsd := of_decide_eq_true hsc); (try simp only [Bool.not_eq_true', Bool.or_eq_false_iff, Bool.and_eq_true, Bool.or_eq_true, decide_eq_true_eq, decide_eq_false_iff_not] at hsc); (repeat' (with_reducible apply And.intro)) <;> (first | assumption | trivial | exact (fun hq => by rw [hq]; rfl) | exact i64_of (by omega) (by omega) | omega | (simp; done) | (simp; omega) | (intro hse; simp [hse, hs0]; done))))))
        refine use1 (Lower_ok (Sp.part t (a, i)) (by have := Sp.part_len t a i; omega)) rfl (.inl rfl) ?_
        simp only [ZZ, Za, Zb, Zc, Zd, Ze, Zf, Zg, Zh, rd, AV.un, AV.unA, AV.ad, Zi, Zj, Zk, Zl, Zm, Zn, Zo, Zp, Zq, Zr, Zs, Zt, Zu, Zv, Zw, Zx, Zy, Zz, Zaa, Zab, Zac, Zad, wk1, wk, Zae, Zaf, Zag, Zah, Zai, Zaj, Zak, Zal, AV.kill, AO.kill, AV.thaw, AO.thaw, Zam, Zan, Zao, Zap, Zaq, Zar, Zas, Zat, Zau, ite_true, ite_false, reduceCtorEq, Nat.reduceAdd, Nat.reduceMul, Nat.reduceLeDiff, Nat.reduceLT, Nat.reduceEqDiff, forall_const]
        simp only [strE_len, strE_one, ← strE_app]
        ((repeat' (with_reducible apply And.intro)) <;> try ((first | first | assumption | trivial | exact (fun hq => by rw [hq]; rfl) | exact i64_of (by omega) (by omega) | omega | (simp; done) | (simp; omega) | (intro hsc; have hs0 := hsc; (try have hsd := of_decide_eq_true hsc); (try simp only [Bool.not_eq_true', Bool.or_eq_false_iff, Bool.and_eq_true, Bool.or_eq_true, decide_eq_true_eq, decide_eq_false_iff_not] at hsc); (repeat' (with_reducible apply And.intro)) <;> (first | assumption | trivial | exact (fun hq => by rw [hq]; rfl) | exact i64_of (by omega) (by omega) | omega | (simp; done) | (simp; omega) | (intro hse; simp [hse, hs0]; done))))))
        refine cut_same (by simp only [ZZ, Za, Zb, Zc, Zd, Ze, Zf, Zg, Zh, rd, AV.un, AV.unA, AV.ad, Zi, Zj, Zk, Zl, Zm, Zn, Zo, Zp, Zq, Zr, Zs, Zt, Zu, Zv, Zw, Zx, Zy, Zz, Zaa, Zab, Zac, Zad, wk1, wk, Zae, Zaf, Zag, Zah, Zai, Zaj, Zak, Zal, AV.kill, AO.kill, AV.thaw, AO.thaw, Zam, Zan, Zao, Zap, Zaq, Zar, Zas, Zat, Zau, ite_true, ite_false, reduceCtorEq, Nat.reduceAdd, Nat.reduceMul, Nat.reduceLeDiff, Nat.reduceLT, Nat.reduceEqDiff, forall_const]) ?_
        simp only [ZZ, Za, Zb, Zc, Zd, Ze, Zf, Zg, Zh, rd, AV.un, AV.unA, AV.ad, Zi, Zj, Zk, Zl, Zm, Zn, Zo, Zp, Zq, Zr, Zs, Zt, Zu, Zv, Zw, Zx, Zy, Zz, Zaa, Zab, Zac, Zad, wk1, wk, Zae, Zaf, Zag, Zah, Zai, Zaj, Zak, Zal, AV.kill, AO.kill, AV.thaw, AO.thaw, Zam, Zan, Zao, Zap, Zaq, Zar, Zas, Zat, Zau, ite_true, ite_false, reduceCtorEq, Nat.reduceAdd, Nat.reduceMul, Nat.reduceLeDiff, Nat.reduceLT, Nat.reduceEqDiff, forall_const]
        ((repeat' (with_reducible apply And.intro)) <;> try ((first | first | assumption | trivial | exact (fun hq => by rw [hq]; rfl) | exact i64_of (by omega) (by omega) | omega | (simp; done) | (simp; omega) | (intro hsc; have hs0 := hsc; (try have hsd := of_decide_eq_true hsc); (try simp only [Bool.not_eq_true', Bool.or_eq_false_iff, Bool.and_eq_true, Bool.or_eq_true, decide_eq_true_eq, decide_eq_false_iff_not] at hsc); (repeat' (with_reducible apply And.intro)) <;> (first | assumption | trivial | exact (fun hq => by rw [hq]; rfl) | exact i64_of (by omega) (by omega) | omega | (simp; done) | (simp; omega) | (intro hse; simp [hse, hs0]; done))))))
        refine end_round (t.length + 1 - (i + 1)) [.p (.str t), .any, .any, .row (.l 3), .p (int (fromI (none))), .p (int ((i + 1) : Nat)), .any, .any, .any, .any, .any, .any, .any, .any, .any, .any, .any, .any, .any, .any, .any, .any, .any, .any, .any, .any, .any, .any, .any, .any, .any, .any, .any, .any, .any, .any, .any, .any, .any, .any, .any, .any, .any, .any] [(.l 3, .row (strE (l ++ [lowF (Sp.part t (a, i))])) tStr 1 true)] (by omega) (by (simp only [ZZ, Za, Zb, Zc, Zd, Ze, Zf, Zg, Zh, rd, AV.un, AV.unA, AV.ad, Zi, Zj, Zk, Zl, Zm, Zn, Zo, Zp, Zq, Zr, Zs, Zt, Zu, Zv, Zw, Zx, Zy, Zz, Zaa, Zab, Zac, Zad, wk1, wk, Zae, Zaf, Zag, Zah, Zai, Zaj, Zak, Zal, AV.kill, AO.kill, AV.thaw, AO.thaw, Zam, Zan, Zao, Zap, Zaq, Zar, Zas, Zat, Zau, ite_true, ite_false, reduceCtorEq, Nat.reduceAdd, Nat.reduceMul, Nat.reduceLeDiff, Nat.reduceLT, Nat.reduceEqDiff, forall_const]; try trivial)) (by (simp only [ZZ, Za, Zb, Zc, Zd, Ze, Zf, Zg, Zh, rd, AV.un, AV.unA, AV.ad, Zi, Zj, Zk, Zl, Zm, Zn, Zo, Zp, Zq, Zr, Zs, Zt, Zu, Zv, Zw, Zx, Zy, Zz, Zaa, Zab, Zac, Zad, wk1, wk, Zae, Zaf, Zag, Zah, Zai, Zaj, Zak, Zal, AV.kill, AO.kill, AV.thaw, AO.thaw, Zam, Zan, Zao, Zap, Zaq, Zar, Zas, Zat, Zau, ite_true, ite_false, reduceCtorEq, Nat.reduceAdd, Nat.reduceMul, Nat.reduceLeDiff, Nat.reduceLT, Nat.reduceEqDiff, forall_const]; try trivial)) ⟨i + 1, none, l ++ [lowF (Sp.part t (a, i))], rfl, by omega, by simp, by rw [List.length_append]; simp; omega, by rw [← hl, hnx]; simp [wordF], rfl, rfl⟩
  · intro h
    have hgt : i = t.length + 1 := by have := of_decide_eq_false h; omega
    have hfn : f = none := by
      cases f with
      | none => rfl
      | some a => have := (hf a rfl).2; omega
    subst hfn
    rw [Sp.wsp_out t i (by omega)] at hl
    simp only [List.map_nil, List.append_nil] at hl
    simp only [ZZ, Za, Zb, Zc, Zd, Ze, Zf, Zg, Zh, rd, AV.un, AV.unA, AV.ad, Zi, Zj, Zk, Zl, Zm, Zn, Zo, Zp, Zq, Zr, Zs, Zt, Zu, Zv, Zw, Zx, Zy, Zz, Zaa, Zab, Zac, Zad, wk1, wk, Zae, Zaf, Zag, Zah, Zai, Zaj, Zak, Zal, AV.kill, AO.kill, AV.thaw, AO.thaw, Zam, Zan, Zao, Zap, Zaq, Zar, Zas, Zat, Zau, ite_true, ite_false, reduceCtorEq, Nat.reduceAdd, Nat.reduceMul, Nat.reduceLeDiff, Nat.reduceLT, Nat.reduceEqDiff, forall_const]
    rw [strs_eq, hl]
def sp2 (p : Nat × Nat) : Int × Int := (((p.1 : Nat) : Int), ((p.2 : Nat) : Int))
def spansI (t : List UInt8) : List (Int × Int) := (Sp.spans t).map sp2
theorem wordSpans_ok (t : List UInt8) (ht : t.length ≤ 1000000000) : PCall Tryd.prog E 100 [.str t] (· = sps (spansI t)) := by
  refine pcallF mixed Tryd.func100 ck_chaseref1_wordSpans ?_
  simp only [a0, l0, OS.ao, List.map_cons, List.map_nil, List.length_cons, List.length_nil, List.cons_append, List.nil_append, Nat.reduceSub, Nat.reduceAdd, List.replicate_succ, List.replicate_zero, ir_chaseref1_wordSpans, rs_chaseref1_wordSpans, ZZ, Za, Zb, Zc, Zd, Ze, Zf, Zg, Zh, rd, AV.un, AV.unA, AV.ad, Zi, Zj, Zk, Zl, Zm, Zn, Zo, Zp, Zq, Zr, Zs, Zt, Zu, Zv, Zw, Zx, Zy, Zz, Zaa, Zab, Zac, Zad, wk1, wk, Zae, Zaf, Zag, Zah, Zai, Zaj, Zak, Zal, AV.kill, AO.kill, AV.thaw, AO.thaw, Zam, Zan, Zao, Zap, Zaq, Zar, Zas, Zat, Zau, ite_true, ite_false, reduceCtorEq, Nat.reduceAdd, Nat.reduceMul, Nat.reduceLeDiff, Nat.reduceLT, Nat.reduceEqDiff, forall_const]
  refine loop_intro (fun n fr L => ∃ (i : Nat) (l : List (Int × Int)), t.length + 1 - i = n ∧ (i ≤ t.length + 1) ∧ (l.length ≤ i) ∧ (l ++ (Sp.wsp i none (t.drop i)).map sp2 = spansI t) ∧ fr = [.p (.str t), .any, .any, .row (.l 3), .p (int (i : Nat)), .any, .any, .any, .any, .any, .any, .any, .any, .any, .any, .any, .any, .any, .any, .any, .any, .any, .any, .any, .any, .any, .any, .any, .any, .any, .any, .any, .any, .any, .any, .any, .any, .any] ∧ L = [(.l 3, .row (l.map spn) tSpan 2 true)]) (t.length + 1 - 0) [.p (.str t), .any, .any, .row (.l 3), .p (int (0 : Nat)), .any, .any, .any, .any, .any, .any, .any, .any, .any, .any, .any, .any, .any, .any, .any, .any, .any, .any, .any, .any, .any, .any, .any, .any, .any, .any, .any, .any, .any, .any, .any, .any, .any] [(.l 3, .row ([].map spn) tSpan 2 true)] (by (simp only [ZZ, Za, Zb, Zc, Zd, Ze, Zf, Zg, Zh, rd, AV.un, AV.unA, AV.ad, Zi, Zj, Zk, Zl, Zm, Zn, Zo, Zp, Zq, Zr, Zs, Zt, Zu, Zv, Zw, Zx, Zy, Zz, Zaa, Zab, Zac, Zad, wk1, wk, Zae, Zaf, Zag, Zah, Zai, Zaj, Zak, Zal, AV.kill, AO.kill, AV.thaw, AO.thaw, Zam, Zan, Zao, Zap, Zaq, Zar, Zas, Zat, Zau, ite_true, ite_false, reduceCtorEq, Nat.reduceAdd, Nat.reduceMul, Nat.reduceLeDiff, Nat.reduceLT, Nat.reduceEqDiff, forall_const]; try trivial)) (by (simp only [ZZ, Za, Zb, Zc, Zd, Ze, Zf, Zg, Zh, rd, AV.un, AV.unA, AV.ad, Zi, Zj, Zk, Zl, Zm, Zn, Zo, Zp, Zq, Zr, Zs, Zt, Zu, Zv, Zw, Zx, Zy, Zz, Zaa, Zab, Zac, Zad, wk1, wk, Zae, Zaf, Zag, Zah, Zai, Zaj, Zak, Zal, AV.kill, AO.kill, AV.thaw, AO.thaw, Zam, Zan, Zao, Zap, Zaq, Zar, Zas, Zat, Zau, ite_true, ite_false, reduceCtorEq, Nat.reduceAdd, Nat.reduceMul, Nat.reduceLeDiff, Nat.reduceLT, Nat.reduceEqDiff, forall_const]; try trivial)) ⟨0, [], rfl, by omega, by simp, rfl, rfl, rfl⟩ ?_
  rintro n fr L ⟨i, l, rfl, hi1, hll, hl, rfl, rfl⟩
  simp only [ir_chaseref1_wordSpans_L0, ZZ, Za, Zb, Zc, Zd, Ze, Zf, Zg, Zh, rd, AV.un, AV.unA, AV.ad, Zi, Zj, Zk, Zl, Zm, Zn, Zo, Zp, Zq, Zr, Zs, Zt, Zu, Zv, Zw, Zx, Zy, Zz, Zaa, Zab, Zac, Zad, wk1, wk, Zae, Zaf, Zag, Zah, Zai, Zaj, Zak, Zal, AV.kill, AO.kill, AV.thaw, AO.thaw, Zam, Zan, Zao, Zap, Zaq, Zar, Zas, Zat, Zau, ite_true, ite_false, reduceCtorEq, Nat.reduceAdd, Nat.reduceMul, Nat.reduceLeDiff, Nat.reduceLT, Nat.reduceEqDiff, forall_const]
  refine br ?_ ?_
  · intro h
    have hlt : i < t.length := by have := of_decide_eq_true h; omega
    have hgi : t.getD i 0 = t[i] := by simp [List.getD, hlt]
    simp only [ZZ, Za, Zb, Zc, Zd, Ze, Zf, Zg, Zh, rd, AV.un, AV.unA, AV.ad, Zi, Zj, Zk, Zl, Zm, Zn, Zo, Zp, Zq, Zr, Zs, Zt, Zu, Zv, Zw, Zx, Zy, Zz, Zaa, Zab, Zac, Zad, wk1, wk, Zae, Zaf, Zag, Zah, Zai, Zaj, Zak, Zal, AV.kill, AO.kill, AV.thaw, AO.thaw, Zam, Zan, Zao, Zap, Zaq, Zar, Zas, Zat, Zau, ite_true, ite_false, reduceCtorEq, Nat.reduceAdd, Nat.reduceMul, Nat.reduceLeDiff, Nat.reduceLT, Nat.reduceEqDiff, forall_const]
    ((repeat' (with_reducible apply And.intro)) <;> try ((first | first | assumption | trivial | exact (fun hq => by rw [hq]; rfl) | exact i64_of (by omega) (by omega) | omega | (simp; done) | (simp; omega) | (intro hsc; have hs0 := hsc; (try have hsd := of_decide_eq_true hsc); (try simp only [Bool.not_eq_true', Bool.or_eq_false_iff, Bool.and_eq_true, Bool.or_eq_true, decide_eq_true_eq, decide_eq_false_iff_not] at hsc); (repeat' (with_reducible apply And.intro)) <;> (first | assumption | trivial | exact (fun hq => by rw [hq]; rfl) | exact i64_of (by omega) (by omega) | omega | (simp; done) | (simp; omega) | (intro hse; simp [hse, hs0]; done))))))
    refine use1 (wordByte_ok (t.getD i 0)) rfl (.inl rfl) ?_
    rw [hgi]
    simp only [ZZ, Za, Zb, Zc, Zd, Ze, Zf, Zg, Zh, rd, AV.un, AV.unA, AV.ad, Zi, Zj, Zk, Zl, Zm, Zn, Zo, Zp, Zq, Zr, Zs, Zt, Zu, Zv, Zw, Zx, Zy, Zz, Zaa, Zab, Zac, Zad, wk1, wk, Zae, Zaf, Zag, Zah, Zai, Zaj, Zak, Zal, AV.kill, AO.kill, AV.thaw, AO.thaw, Zam, Zan, Zao, Zap, Zaq, Zar, Zas, Zat, Zau, ite_true, ite_false, reduceCtorEq, Nat.reduceAdd, Nat.reduceMul, Nat.reduceLeDiff, Nat.reduceLT, Nat.reduceEqDiff, forall_const]
    refine br ?_ ?_
    · intro hb
      have hb : Sp.isLet t[i] = false := by rw [← letB_spec]; simpa using hb
      have hnx := Sp.wsp_non t i hlt _ rfl hb
      simp only [ZZ, Za, Zb, Zc, Zd, Ze, Zf, Zg, Zh, rd, AV.un, AV.unA, AV.ad, Zi, Zj, Zk, Zl, Zm, Zn, Zo, Zp, Zq, Zr, Zs, Zt, Zu, Zv, Zw, Zx, Zy, Zz, Zaa, Zab, Zac, Zad, wk1, wk, Zae, Zaf, Zag, Zah, Zai, Zaj, Zak, Zal, AV.kill, AO.kill, AV.thaw, AO.thaw, Zam, Zan, Zao, Zap, Zaq, Zar, Zas, Zat, Zau, ite_true, ite_false, reduceCtorEq, Nat.reduceAdd, Nat.reduceMul, Nat.reduceLeDiff, Nat.reduceLT, Nat.reduceEqDiff, forall_const]
      refine cut_same (by simp only [ZZ, Za, Zb, Zc, Zd, Ze, Zf, Zg, Zh, rd, AV.un, AV.unA, AV.ad, Zi, Zj, Zk, Zl, Zm, Zn, Zo, Zp, Zq, Zr, Zs, Zt, Zu, Zv, Zw, Zx, Zy, Zz, Zaa, Zab, Zac, Zad, wk1, wk, Zae, Zaf, Zag, Zah, Zai, Zaj, Zak, Zal, AV.kill, AO.kill, AV.thaw, AO.thaw, Zam, Zan, Zao, Zap, Zaq, Zar, Zas, Zat, Zau, ite_true, ite_false, reduceCtorEq, Nat.reduceAdd, Nat.reduceMul, Nat.reduceLeDiff, Nat.reduceLT, Nat.reduceEqDiff, forall_const]) ?_
      simp only [ZZ, Za, Zb, Zc, Zd, Ze, Zf, Zg, Zh, rd, AV.un, AV.unA, AV.ad, Zi, Zj, Zk, Zl, Zm, Zn, Zo, Zp, Zq, Zr, Zs, Zt, Zu, Zv, Zw, Zx, Zy, Zz, Zaa, Zab, Zac, Zad, wk1, wk, Zae, Zaf, Zag, Zah, Zai, Zaj, Zak, Zal, AV.kill, AO.kill, AV.thaw, AO.thaw, Zam, Zan, Zao, Zap, Zaq, Zar, Zas, Zat, Zau, ite_true, ite_false, reduceCtorEq, Nat.reduceAdd, Nat.reduceMul, Nat.reduceLeDiff, Nat.reduceLT, Nat.reduceEqDiff, forall_const]
      ((repeat' (with_reducible apply And.intro)) <;> try ((first | first | assumption | trivial | exact (fun hq => by rw [hq]; rfl) | exact i64_of (by omega) (by omega) | omega | (simp; done) | (simp; omega) | (intro hsc; have hs0 := hsc; (try have hsd := of_decide_eq_true hsc); (try simp only [Bool.not_eq_true', Bool.or_eq_false_iff, Bool.and_eq_true, Bool.or_eq_true, decide_eq_true_eq, decide_eq_false_iff_not] at hsc); (repeat' (with_reducible apply And.intro)) <;> (first | assumption | trivial | exact (fun hq => by rw [hq]; rfl) | exact i64_of (by omega) (by omega) | omega | (simp; done) | (simp; omega) | (intro hse; simp [hse, hs0]; done))))))
      refine end_round (t.length + 1 - (i + 1)) [.p (.str t), .any, .any, .row (.l 3), .p (int ((i + 1) : Nat)), .any, .any, .any, .any, .any, .any, .any, .any, .any, .any, .any, .any, .any, .any, .any, .any, .any, .any, .any, .any, .any, .any, .any, .any, .any, .any, .any, .any, .any, .any, .any, .any, .any] [(.l 3, .row (l.map spn) tSpan 2 true)] (by omega) (by (simp only [ZZ, Za, Zb, Zc, Zd, Ze, Zf, Zg, Zh, rd, AV.un, AV.unA, AV.ad, Zi, Zj, Zk, Zl, Zm, Zn, Zo, Zp, Zq, Zr, Zs, Zt, Zu, Zv, Zw, Zx, Zy, Zz, Zaa, Zab, Zac, Zad, wk1, wk, Zae, Zaf, Zag, Zah, Zai, Zaj, Zak, Zal, AV.kill, AO.kill, AV.thaw, AO.thaw, Zam, Zan, Zao, Zap, Zaq, Zar, Zas, Zat, Zau, ite_true, ite_false, reduceCtorEq, Nat.reduceAdd, Nat.reduceMul, Nat.reduceLeDiff, Nat.reduceLT, Nat.reduceEqDiff, forall_const]; try trivial)) (by (simp only [ZZ, Za, Zb, Zc, Zd, Ze, Zf, Zg, Zh, rd, AV.un, AV.unA, AV.ad, Zi, Zj, Zk, Zl, Zm, Zn, Zo, Zp, Zq, Zr, Zs, Zt, Zu, Zv, Zw, Zx, Zy, Zz, Zaa, Zab, Zac, Zad, wk1, wk, Zae, Zaf, Zag, Zah, Zai, Zaj, Zak, Zal, AV.kill, AO.kill, AV.thaw, AO.thaw, Zam, Zan, Zao, Zap, Zaq, Zar, Zas, Zat, Zau, ite_true, ite_false, reduceCtorEq, Nat.reduceAdd, Nat.reduceMul, Nat.reduceLeDiff, Nat.reduceLT, Nat.reduceEqDiff, forall_const]; try trivial)) ⟨i + 1, l, rfl, by omega, by omega, by rw [← hl, hnx], rfl, rfl⟩
    · intro hb
      have hb : Sp.isLet t[i] = true := by rw [← letB_spec]; simpa using hb
      have hnx := Sp.wsp_let t i none hlt _ rfl hb
      simp only [ZZ, Za, Zb, Zc, Zd, Ze, Zf, Zg, Zh, rd, AV.un, AV.unA, AV.ad, Zi, Zj, Zk, Zl, Zm, Zn, Zo, Zp, Zq, Zr, Zs, Zt, Zu, Zv, Zw, Zx, Zy, Zz, Zaa, Zab, Zac, Zad, wk1, wk, Zae, Zaf, Zag, Zah, Zai, Zaj, Zak, Zal, AV.kill, AO.kill, AV.thaw, AO.thaw, Zam, Zan, Zao, Zap, Zaq, Zar, Zas, Zat, Zau, ite_true, ite_false, reduceCtorEq, Nat.reduceAdd, Nat.reduceMul, Nat.reduceLeDiff, Nat.reduceLT, Nat.reduceEqDiff, forall_const]
      refine loop_intro (fun n fr L => ∃ (k : Nat), t.length - k = n ∧ (i ≤ k ∧ k ≤ t.length) ∧ (i < k → Sp.wsp i none (t.drop i) = Sp.wsp k (some i) (t.drop k)) ∧ fr = [.p (.str t), .any, .any, .row (.l 3), .p (int (i : Nat)), .p (int (k : Nat)), .any, .any, .any, .any, .any, .any, .any, .any, .any, .any, .any, .any, .any, .any, .any, .any, .any, .any, .any, .any, .any, .any, .any, .any, .any, .any, .any, .any, .any, .any, .any, .any] ∧ L = [(.l 3, .row (l.map spn) tSpan 2 true)]) (t.length - i) [.p (.str t), .any, .any, .row (.l 3), .p (int (i : Nat)), .p (int (i : Nat)), .any, .any, .any, .any, .any, .any, .any, .any, .any, .any, .any, .any, .any, .any, .any, .any, .any, .any, .any, .any, .any, .any, .any, .any, .any, .any, .any, .any, .any, .any, .any, .any] [(.l 3, .row (l.map spn) tSpan 2 true)] (by (simp only [ZZ, Za, Zb, Zc, Zd, Ze, Zf, Zg, Zh, rd, AV.un, AV.unA, AV.ad, Zi, Zj, Zk, Zl, Zm, Zn, Zo, Zp, Zq, Zr, Zs, Zt, Zu, Zv, Zw, Zx, Zy, Zz, Zaa, Zab, Zac, Zad, wk1, wk, Zae, Zaf, Zag, Zah, Zai, Zaj, Zak, Zal, AV.kill, AO.kill, AV.thaw, AO.thaw, Zam, Zan, Zao, Zap, Zaq, Zar, Zas, Zat, Zau, ite_true, ite_false, reduceCtorEq, Nat.reduceAdd, Nat.reduceMul, Nat.reduceLeDiff, Nat.reduceLT, Nat.reduceEqDiff, forall_const]; try trivial)) (by (simp only [ZZ, Za, Zb, Zc, Zd, Ze, Zf, Zg, Zh, rd, AV.un, AV.unA, AV.ad, Zi, Zj, Zk, Zl, Zm, Zn, Zo, Zp, Zq, Zr, Zs, Zt, Zu, Zv, Zw, Zx, Zy, Zz, Zaa, Zab, Zac, Zad, wk1, wk, Zae, Zaf, Zag, Zah, Zai, Zaj, Zak, Zal, AV.kill, AO.kill, AV.thaw, AO.thaw, Zam, Zan, Zao, Zap, Zaq, Zar, Zas, Zat, Zau, ite_true, ite_false, reduceCtorEq, Nat.reduceAdd, Nat.reduceMul, Nat.reduceLeDiff, Nat.reduceLT, Nat.reduceEqDiff, forall_const]; try trivial)) ⟨i, rfl, by omega, by omega, rfl, rfl⟩ ?_
      rintro n fr L ⟨k, rfl, hk1, hk2, rfl, rfl⟩
      simp only [ir_chaseref1_wordSpans_L1, ZZ, Za, Zb, Zc, Zd, Ze, Zf, Zg, Zh, rd, AV.un, AV.unA, AV.ad, Zi, Zj, Zk, Zl, Zm, Zn, Zo, Zp, Zq, Zr, Zs, Zt, Zu, Zv, Zw, Zx, Zy, Zz, Zaa, Zab, Zac, Zad, wk1, wk, Zae, Zaf, Zag, Zah, Zai, Zaj, Zak, Zal, AV.kill, AO.kill, AV.thaw, AO.thaw, Zam, Zan, Zao, Zap, Zaq, Zar, Zas, Zat, Zau, ite_true, ite_false, reduceCtorEq, Nat.reduceAdd, Nat.reduceMul, Nat.reduceLeDiff, Nat.reduceLT, Nat.reduceEqDiff, forall_const]
      ((repeat' (with_reducible apply And.intro)) <;> try ((first | first | assumption | trivial | exact (fun hq => by rw [hq]; rfl) | exact i64_of (by omega) (by omega) | omega | (simp; done) | (simp; omega) | (intro hsc; have hs0 := hsc; (try have hsd := of_decide_eq_true hsc); (try simp only [Bool.not_eq_true', Bool.or_eq_false_iff, Bool.and_eq_true, Bool.or_eq_true, decide_eq_true_eq, decide_eq_false_iff_not] at hsc); (repeat' (with_reducible apply And.intro)) <;> (first | assumption | trivial | exact (fun hq => by rw [hq]; rfl) | exact i64_of (by omega) (by omega) | omega | (simp; done) | (simp; omega) | (intro hse; simp [hse, hs0]; done))))))
      refine useG (fun _ => wordByte_ok (t.getD k 0)) rfl (.inl rfl) ?_
      simp only [ZZ, Za, Zb, Zc, Zd, Ze, Zf, Zg, Zh, rd, AV.un, AV.unA, AV.ad, Zi, Zj, Zk, Zl, Zm, Zn, Zo, Zp, Zq, Zr, Zs, Zt, Zu, Zv, Zw, Zx, Zy, Zz, Zaa, Zab, Zac, Zad, wk1, wk, Zae, Zaf, Zag, Zah, Zai, Zaj, Zak, Zal, AV.kill, AO.kill, AV.thaw, AO.thaw, Zam, Zan, Zao, Zap, Zaq, Zar, Zas, Zat, Zau, ite_true, ite_false, reduceCtorEq, Nat.reduceAdd, Nat.reduceMul, Nat.reduceLeDiff, Nat.reduceLT, Nat.reduceEqDiff, forall_const]
      ((repeat' (with_reducible apply And.intro)) <;> try ((first | first | assumption | trivial | exact (fun hq => by rw [hq]; rfl) | exact i64_of (by omega) (by omega) | omega | (simp; done) | (simp; omega) | (intro hsc; have hs0 := hsc; (try have hsd := of_decide_eq_true hsc); (try simp only [Bool.not_eq_true', Bool.or_eq_false_iff, Bool.and_eq_true, Bool.or_eq_true, decide_eq_true_eq, decide_eq_false_iff_not] at hsc); (repeat' (with_reducible apply And.intro)) <;> (first | assumption | trivial | exact (fun hq => by rw [hq]; rfl) | exact i64_of (by omega) (by omega) | omega | (simp; done) | (simp; omega) | (intro hse; simp [hse, hs0]; done))))))
      refine br ?_ ?_
      · intro hc
        simp only [Bool.and_eq_true, decide_eq_true_eq] at hc
        have hkl : k < t.length := by omega
        have hlk : Sp.isLet t[k] = true := by
          rw [← letB_spec, ← hc.2]
          simp [List.getD, hkl]
        have hnx3 : Sp.wsp i none (t.drop i) = Sp.wsp (k + 1) (some i) (t.drop (k + 1)) := by
          rcases Nat.lt_or_ge i k with h' | h'
          · rw [hk2 h', Sp.wsp_let t k (some i) hkl _ rfl hlk]
            rfl
          · have e : k = i := by omega
            subst e
            exact hnx
        simp only [ZZ, Za, Zb, Zc, Zd, Ze, Zf, Zg, Zh, rd, AV.un, AV.unA, AV.ad, Zi, Zj, Zk, Zl, Zm, Zn, Zo, Zp, Zq, Zr, Zs, Zt, Zu, Zv, Zw, Zx, Zy, Zz, Zaa, Zab, Zac, Zad, wk1, wk, Zae, Zaf, Zag, Zah, Zai, Zaj, Zak, Zal, AV.kill, AO.kill, AV.thaw, AO.thaw, Zam, Zan, Zao, Zap, Zaq, Zar, Zas, Zat, Zau, ite_true, ite_false, reduceCtorEq, Nat.reduceAdd, Nat.reduceMul, Nat.reduceLeDiff, Nat.reduceLT, Nat.reduceEqDiff, forall_const]
        ((repeat' (with_reducible apply And.intro)) <;> try ((first | first | assumption | trivial | exact (fun hq => by rw [hq]; rfl) | exact i64_of (by omega) (by omega) | omega | (simp; done) | (simp; omega) | (intro hsc; have hs0 := hsc; (try have hsd := of_decide_eq_true hsc); (try simp only [Bool.not_eq_true', Bool.or_eq_false_iff, Bool.and_eq_true, Bool.or_eq_true, decide_eq_true_eq, decide_eq_false_iff_not] at hsc); (repeat' (with_reducible apply And.intro)) <;> (first | assumption | trivial | exact (fun hq => by rw [hq]; rfl) | exact i64_of (by omega) (by omega) | omega | (simp; done) | (simp; omega) | (intro hse; simp [hse, hs0]; done))))))
        refine end_round (t.length - (k + 1)) [.p (.str t), .any, .any, .row (.l 3), .p (int (i : Nat)), .p (int ((k + 1) : Nat)), .any, .any, .any, .any, .any, .any, .any, .any, .any, .any, .any, .any, .any, .any, .any, .any, .any, .any, .any, .any, .any, .any, .any, .any, .any, .any, .any, .any, .any, .any, .any, .any] [(.l 3, .row (l.map spn) tSpan 2 true)] (by omega) (by (simp only [ZZ, Za, Zb, Zc, Zd, Ze, Zf, Zg, Zh, rd, AV.un, AV.unA, AV.ad, Zi, Zj, Zk, Zl, Zm, Zn, Zo, Zp, Zq, Zr, Zs, Zt, Zu, Zv, Zw, Zx, Zy, Zz, Zaa, Zab, Zac, Zad, wk1, wk, Zae, Zaf, Zag, Zah, Zai, Zaj, Zak, Zal, AV.kill, AO.kill, AV.thaw, AO.thaw, Zam, Zan, Zao, Zap, Zaq, Zar, Zas, Zat, Zau, ite_true, ite_false, reduceCtorEq, Nat.reduceAdd, Nat.reduceMul, Nat.reduceLeDiff, Nat.reduceLT, Nat.reduceEqDiff, forall_const]; try trivial)) (by (simp only [ZZ, Za, Zb, Zc, Zd, Ze, Zf, Zg, Zh, rd, AV.un, AV.unA, AV.ad, Zi, Zj, Zk, Zl, Zm, Zn, Zo, Zp, Zq, Zr, Zs, Zt, Zu, Zv, Zw, Zx, Zy, Zz, Zaa, Zab, Zac, Zad, wk1, wk, Zae, Zaf, Zag, Zah, Zai, Zaj, Zak, Zal, AV.kill, AO.kill, AV.thaw, AO.thaw, Zam, Zan, Zao, Zap, Zaq, Zar, Zas, Zat, Zau, ite_true, ite_false, reduceCtorEq, Nat.reduceAdd, Nat.reduceMul, Nat.reduceLeDiff, Nat.reduceLT, Nat.reduceEqDiff, forall_const]; try trivial)) ⟨k + 1, rfl, by omega, fun _ => hnx3, rfl, rfl⟩
      · intro hc
        have hik : i < k := by
          rcases Nat.lt_or_ge i k with h' | h'
          · exact h'
          · have e : k = i := by omega
            subst e
            rw [show decide ((k : Int) < t.length) = true from by simp [hlt], Bool.true_and, hgi, letB_spec, hb] at hc
            cases hc
        have hnx2 : Sp.wsp k (some i) (t.drop k) = (i, k) :: Sp.wsp (k + 1) none (t.drop (k + 1)) := by
          by_cases hh : k < t.length
          · refine Sp.wsp_end t k i hh _ rfl ?_
            rw [show decide ((k : Int) < t.length) = true from by simp [hh], Bool.true_and, letB_spec] at hc
            rw [← hc]
            simp [List.getD, hh]
          · exact Sp.wsp_fin t k i (by omega)
        simp only [ZZ, Za, Zb, Zc, Zd, Ze, Zf, Zg, Zh, rd, AV.un, AV.unA, AV.ad, Zi, Zj, Zk, Zl, Zm, Zn, Zo, Zp, Zq, Zr, Zs, Zt, Zu, Zv, Zw, Zx, Zy, Zz, Zaa, Zab, Zac, Zad, wk1, wk, Zae, Zaf, Zag, Zah, Zai, Zaj, Zak, Zal, AV.kill, AO.kill, AV.thaw, AO.thaw, Zam, Zan, Zao, Zap, Zaq, Zar, Zas, Zat, Zau, ite_true, ite_false, reduceCtorEq, Nat.reduceAdd, Nat.reduceMul, Nat.reduceLeDiff, Nat.reduceLT, Nat.reduceEqDiff, forall_const]
        simp only [List.length_map]
        ((repeat' (with_reducible apply And.intro)) <;> try ((first | first | assumption | trivial | exact (fun hq => by rw [hq]; rfl) | exact i64_of (by omega) (by omega) | omega | (simp; done) | (simp; omega) | (intro hsc; have hs0 := hsc; (try have hsd := of_decide_eq_true hsc); (try simp only [Bool.not_eq_true', Bool.or_eq_false_iff, Bool.and_eq_true, Bool.or_eq_true, decide_eq_true_eq, decide_eq_false_iff_not] at hsc); (repeat' (with_reducible apply And.intro)) <;> (first | assumption | trivial | exact (fun hq => by rw [hq]; rfl) | exact i64_of (by omega) (by omega) | omega | (simp; done) | (simp; omega) | (intro hse; simp [hse, hs0]; done))))))
        refine cut_same (by simp only [ZZ, Za, Zb, Zc, Zd, Ze, Zf, Zg, Zh, rd, AV.un, AV.unA, AV.ad, Zi, Zj, Zk, Zl, Zm, Zn, Zo, Zp, Zq, Zr, Zs, Zt, Zu, Zv, Zw, Zx, Zy, Zz, Zaa, Zab, Zac, Zad, wk1, wk, Zae, Zaf, Zag, Zah, Zai, Zaj, Zak, Zal, AV.kill, AO.kill, AV.thaw, AO.thaw, Zam, Zan, Zao, Zap, Zaq, Zar, Zas, Zat, Zau, ite_true, ite_false, reduceCtorEq, Nat.reduceAdd, Nat.reduceMul, Nat.reduceLeDiff, Nat.reduceLT, Nat.reduceEqDiff, forall_const]) ?_
        simp only [ZZ, Za, Zb, Zc, Zd, Ze, Zf, Zg, Zh, rd, AV.un, AV.unA, AV.ad, Zi, Zj, Zk, Zl, Zm, Zn, Zo, Zp, Zq, Zr, Zs, Zt, Zu, Zv, Zw, Zx, Zy, Zz, Zaa, Zab, Zac, Zad, wk1, wk, Zae, Zaf, Zag, Zah, Zai, Zaj, Zak, Zal, AV.kill, AO.kill, AV.thaw, AO.thaw, Zam, Zan, Zao, Zap, Zaq, Zar, Zas, Zat, Zau, ite_true, ite_false, reduceCtorEq, Nat.reduceAdd, Nat.reduceMul, Nat.reduceLeDiff, Nat.reduceLT, Nat.reduceEqDiff, forall_const]
        ((repeat' (with_reducible apply And.intro)) <;> try ((first | first | assumption | trivial | exact (fun hq => by rw [hq]; rfl) | exact i64_of (by omega) (by omega) | omega | (simp; done) | (simp; omega) | (intro hsc; have hs0 := hsc; (try have hsd := of_decide_eq_true hsc); (try simp only [Bool.not_eq_true', Bool.or_eq_false_iff, Bool.and_eq_true, Bool.or_eq_true, decide_eq_true_eq, decide_eq_false_iff_not] at hsc); (repeat' (with_reducible apply And.intro)) <;> (first | assumption | trivial | exact (fun hq => by rw [hq]; rfl) | exact i64_of (by omega) (by omega) | omega | (simp; done) | (simp; omega) | (intro hse; simp [hse, hs0]; done))))))
        refine end_round (t.length + 1 - (k + 1)) [.p (.str t), .any, .any, .row (.l 3), .p (int ((k + 1) : Nat)), .any, .any, .any, .any, .any, .any, .any, .any, .any, .any, .any, .any, .any, .any, .any, .any, .any, .any, .any, .any, .any, .any, .any, .any, .any, .any, .any, .any, .any, .any, .any, .any, .any] [(.l 3, .row ((l ++ [(((i : Nat) : Int), ((k : Nat) : Int))]).map spn) tSpan 2 true)] (by omega) (by (simp only [ZZ, Za, Zb, Zc, Zd, Ze, Zf, Zg, Zh, rd, AV.un, AV.unA, AV.ad, Zi, Zj, Zk, Zl, Zm, Zn, Zo, Zp, Zq, Zr, Zs, Zt, Zu, Zv, Zw, Zx, Zy, Zz, Zaa, Zab, Zac, Zad, wk1, wk, Zae, Zaf, Zag, Zah, Zai, Zaj, Zak, Zal, AV.kill, AO.kill, AV.thaw, AO.thaw, Zam, Zan, Zao, Zap, Zaq, Zar, Zas, Zat, Zau, ite_true, ite_false, reduceCtorEq, Nat.reduceAdd, Nat.reduceMul, Nat.reduceLeDiff, Nat.reduceLT, Nat.reduceEqDiff, forall_const]; try trivial)) (by rw [List.map_append]; simp only [spn, ZZ, Za, Zb, Zc, Zd, Ze, Zf, Zg, Zh, rd, AV.un, AV.unA, AV.ad, Zi, Zj, Zk, Zl, Zm, Zn, Zo, Zp, Zq, Zr, Zs, Zt, Zu, Zv, Zw, Zx, Zy, Zz, Zaa, Zab, Zac, Zad, wk1, wk, Zae, Zaf, Zag, Zah, Zai, Zaj, Zak, Zal, AV.kill, AO.kill, AV.thaw, AO.thaw, Zam, Zan, Zao, Zap, Zaq, Zar, Zas, Zat, Zau, ite_true, ite_false, reduceCtorEq, Nat.reduceAdd, Nat.reduceMul, Nat.reduceLeDiff, Nat.reduceLT, Nat.reduceEqDiff, forall_const]) ⟨k + 1, l ++ [(((i : Nat) : Int), ((k : Nat) : Int))], rfl, by omega, by rw [List.length_append]; simp; omega, by rw [← hl, hk2 hik, hnx2]; simp [sp2], rfl, rfl⟩
  · intro h
    have hgt : t.length ≤ i := by have := of_decide_eq_false h; omega
    rw [Sp.wsp_out t i hgt] at hl
    simp only [List.map_nil, List.append_nil] at hl
    simp only [ZZ, Za, Zb, Zc, Zd, Ze, Zf, Zg, Zh, rd, AV.un, AV.unA, AV.ad, Zi, Zj, Zk, Zl, Zm, Zn, Zo, Zp, Zq, Zr, Zs, Zt, Zu, Zv, Zw, Zx, Zy, Zz, Zaa, Zab, Zac, Zad, wk1, wk, Zae, Zaf, Zag, Zah, Zai, Zaj, Zak, Zal, AV.kill, AO.kill, AV.thaw, AO.thaw, Zam, Zan, Zao, Zap, Zaq, Zar, Zas, Zat, Zau, ite_true, ite_false, reduceCtorEq, Nat.reduceAdd, Nat.reduceMul, Nat.reduceLeDiff, Nat.reduceLT, Nat.reduceEqDiff, forall_const]
    rw [hl]
    rfl
end
theorem spans_in (t : Sp.Bs) : ∀ (i : Nat) (f : Option Nat), (∀ a, f = some a → a ≤ i) → ∀ p ∈ Sp.wsp i f t, p.1 ≤ p.2 ∧ p.2 ≤ i + t.length := by
  induction t with
  | nil =>
    intro i f hf p hp
    cases f with
    | none => simp [Sp.wsp] at hp
    | some a => simp [Sp.wsp] at hp; subst hp; have := hf a rfl; simp; omega
  | cons c r ih =>
    intro i f hf p hp
    unfold Sp.wsp at hp
    split at hp
    · have := ih (i + 1) _ (by rintro a ⟨⟩; cases f with | none => simp | some b => have := hf b rfl; simp; omega) p hp
      simp; omega
    · cases f with
      | none => have := ih (i + 1) none (by simp) p hp; simp; omega
      | some a =>
        simp at hp
        rcases hp with rfl | hp
        · have := hf a rfl; simp; omega
        · have := ih (i + 1) none (by simp) p hp; simp; omega
theorem spans_bd (t : Sp.Bs) (p : Nat × Nat) (hp : p ∈ Sp.spans t) : p.1 ≤ p.2 ∧ p.2 ≤ t.length := by
  have := spans_in t 0 none (by simp) p hp
  omega

section
variable {E : Envt}
theorem WordsOf_ok (t : List UInt8) (ht : t.length ≤ 1000000000) : PCall Tryd.prog E 31 [.str t] (· = strs (wordsF t)) := by
  refine pcallF mixed Tryd.func31 ck_chaseref1_WordsOf ?_
  simp only [a0, l0, OS.ao, List.map_cons, List.map_nil, List.length_cons, List.length_nil, List.cons_append, List.nil_append, Nat.reduceSub, Nat.reduceAdd, List.replicate_succ, List.replicate_zero, ir_chaseref1_WordsOf, rs_chaseref1_WordsOf, ZZ, Za, Zb, Zc, Zd, Ze, Zf, Zg, Zh, rd, AV.un, AV.unA, AV.ad, Zi, Zj, Zk, Zl, Zm, Zn, Zo, Zp, Zq, Zr, Zs, Zt, Zu, Zv, Zw, Zx, Zy, Zz, Zaa, Zab, Zac, Zad, wk1, wk, Zae, Zaf, Zag, Zah, Zai, Zaj, Zak, Zal, AV.kill, AO.kill, AV.thaw, AO.thaw, Zam, Zan, Zao, Zap, Zaq, Zar, Zas, Zat, Zau, ite_true, ite_false, reduceCtorEq, Nat.reduceAdd, Nat.reduceMul, Nat.reduceLeDiff, Nat.reduceLT, Nat.reduceEqDiff, forall_const]
  refine use1 (wordSpans_ok t ht) rfl (.inl rfl) ?_
  simp only [ZZ, Za, Zb, Zc, Zd, Ze, Zf, Zg, Zh, rd, AV.un, AV.unA, AV.ad, Zi, Zj, Zk, Zl, Zm, Zn, Zo, Zp, Zq, Zr, Zs, Zt, Zu, Zv, Zw, Zx, Zy, Zz, Zaa, Zab, Zac, Zad, wk1, wk, Zae, Zaf, Zag, Zah, Zai, Zaj, Zak, Zal, AV.kill, AO.kill, AV.thaw, AO.thaw, Zam, Zan, Zao, Zap, Zaq, Zar, Zas, Zat, Zau, ite_true, ite_false, reduceCtorEq, Nat.reduceAdd, Nat.reduceMul, Nat.reduceLeDiff, Nat.reduceLT, Nat.reduceEqDiff, forall_const, sps]
  have hsl := Sp.spans_len t
  have hln : ((spansI t).map spn).length = (Sp.spans t).length := by simp [spansI]
  have hget : ∀ k p, (Sp.spans t)[k]? = some p → ((spansI t).map spn).getD k [] = [int (p.1 : Nat), int (p.2 : Nat)] := fun k p hp => by
    rw [show (spansI t).map spn = (Sp.spans t).map (fun p => [int (p.1 : Nat), int (p.2 : Nat)]) from by simp [spansI, sp2, spn]]
    exact getD_map hp
  generalize (spansI t).map spn = es at hln hget ⊢
  refine loop_intro (fun n fr L => ∃ (k : Nat) (l : List (List UInt8)), k ≤ (Sp.spans t).length ∧ n = (Sp.spans t).length - k ∧ (l = ((Sp.spans t).take k).map (wordF t)) ∧ fr = [.p (.str t), .any, .any, .row (.l 3), .any, .any, .any, .p (.sl 2 es), .p (int ((Sp.spans t).length : Nat)), .p (int (k : Nat)), .any, .any, .any, .any, .any, .any, .any, .any, .any, .any, .any, .any, .any, .any, .any] ∧ L = [(.l 3, .row (strE l) tStr 1 true)]) ((Sp.spans t).length) [.p (.str t), .any, .any, .row (.l 3), .any, .any, .any, .p (.sl 2 es), .p (int ((Sp.spans t).length : Nat)), .p (int (0 : Nat)), .any, .any, .any, .any, .any, .any, .any, .any, .any, .any, .any, .any, .any, .any, .any] [(.l 3, .row (strE []) tStr 1 true)] (by simp only [hln, ZZ, Za, Zb, Zc, Zd, Ze, Zf, Zg, Zh, rd, AV.un, AV.unA, AV.ad, Zi, Zj, Zk, Zl, Zm, Zn, Zo, Zp, Zq, Zr, Zs, Zt, Zu, Zv, Zw, Zx, Zy, Zz, Zaa, Zab, Zac, Zad, wk1, wk, Zae, Zaf, Zag, Zah, Zai, Zaj, Zak, Zal, AV.kill, AO.kill, AV.thaw, AO.thaw, Zam, Zan, Zao, Zap, Zaq, Zar, Zas, Zat, Zau, ite_true, ite_false, reduceCtorEq, Nat.reduceAdd, Nat.reduceMul, Nat.reduceLeDiff, Nat.reduceLT, Nat.reduceEqDiff, forall_const]; try trivial) (by (simp only [ZZ, Za, Zb, Zc, Zd, Ze, Zf, Zg, Zh, rd, AV.un, AV.unA, AV.ad, Zi, Zj, Zk, Zl, Zm, Zn, Zo, Zp, Zq, Zr, Zs, Zt, Zu, Zv, Zw, Zx, Zy, Zz, Zaa, Zab, Zac, Zad, wk1, wk, Zae, Zaf, Zag, Zah, Zai, Zaj, Zak, Zal, AV.kill, AO.kill, AV.thaw, AO.thaw, Zam, Zan, Zao, Zap, Zaq, Zar, Zas, Zat, Zau, ite_true, ite_false, reduceCtorEq, Nat.reduceAdd, Nat.reduceMul, Nat.reduceLeDiff, Nat.reduceLT, Nat.reduceEqDiff, forall_const]; try trivial)) ⟨0, [], by omega, by omega, by simp, rfl, rfl⟩ ?_
  rintro n fr L ⟨k, l, hk, rfl, hl, rfl, rfl⟩
  simp only [ir_chaseref1_WordsOf_L0, ZZ, Za, Zb, Zc, Zd, Ze, Zf, Zg, Zh, rd, AV.un, AV.unA, AV.ad, Zi, Zj, Zk, Zl, Zm, Zn, Zo, Zp, Zq, Zr, Zs, Zt, Zu, Zv, Zw, Zx, Zy, Zz, Zaa, Zab, Zac, Zad, wk1, wk, Zae, Zaf, Zag, Zah, Zai, Zaj, Zak, Zal, AV.kill, AO.kill, AV.thaw, AO.thaw, Zam, Zan, Zao, Zap, Zaq, Zar, Zas, Zat, Zau, ite_true, ite_false, reduceCtorEq, Nat.reduceAdd, Nat.reduceMul, Nat.reduceLeDiff, Nat.reduceLT, Nat.reduceEqDiff, forall_const]
  refine br ?_ ?_
  · intro h
    have hlt : k < (Sp.spans t).length := by have := of_decide_eq_true h; omega
    obtain ⟨p, hp⟩ : ∃ x, (Sp.spans t)[k]? = some x := ⟨_, List.getElem?_eq_getElem hlt⟩
    have hg := hget k p hp
    obtain ⟨hp1, hp2⟩ := spans_bd t p (List.mem_of_getElem? hp)
    have hlk : l.length = k := by rw [hl]; simp; omega
    simp only [ZZ, Za, Zb, Zc, Zd, Ze, Zf, Zg, Zh, rd, AV.un, AV.unA, AV.ad, Zi, Zj, Zk, Zl, Zm, Zn, Zo, Zp, Zq, Zr, Zs, Zt, Zu, Zv, Zw, Zx, Zy, Zz, Zaa, Zab, Zac, Zad, wk1, wk, Zae, Zaf, Zag, Zah, Zai, Zaj, Zak, Zal, AV.kill, AO.kill, AV.thaw, AO.thaw, Zam, Zan, Zao, Zap, Zaq, Zar, Zas, Zat, Zau, ite_true, ite_false, reduceCtorEq, Nat.reduceAdd, Nat.reduceMul, Nat.reduceLeDiff, Nat.reduceLT, Nat.reduceEqDiff, forall_const, hg, hln]
    ((repeat' (with_reducible apply And.intro)) <;> try ((first | first | assumption | trivial | exact (fun hq => by rw [hq]; rfl) | exact i64_of (by omega) (by omega) | omega | (simp; done) | (simp; omega) | (intro hsc; have hs0 := hsc; (try have hsd := of_decide_eq_true hsc); (try simp only [Bool.not_eq_true', Bool.or_eq_false_iff, Bool.and_eq_true, Bool.or_eq_true, decide_eq_true_eq, decide_eq_false_iff_not] at hsc); (repeat' (with_reducible apply And.intro)) <;> (first | assumption | trivial | exact (fun hq => by rw [hq]; rfl) | exact i64_of (by omega) (by omega) | omega | (simp; done) | (simp; omega) | (intro hse; simp [hse, hs0]; done))))))
    refine use1 (lowerR_ok (Sp.part t (p.1, p.2)) (by have := Sp.part_len t p.1 p.2; omega)) rfl (.inl rfl) ?_
    simp only [ZZ, Za, Zb, Zc, Zd, Ze, Zf, Zg, Zh, rd, AV.un, AV.unA, AV.ad, Zi, Zj, Zk, Zl, Zm, Zn, Zo, Zp, Zq, Zr, Zs, Zt, Zu, Zv, Zw, Zx, Zy, Zz, Zaa, Zab, Zac, Zad, wk1, wk, Zae, Zaf, Zag, Zah, Zai, Zaj, Zak, Zal, AV.kill, AO.kill, AV.thaw, AO.thaw, Zam, Zan, Zao, Zap, Zaq, Zar, Zas, Zat, Zau, ite_true, ite_false, reduceCtorEq, Nat.reduceAdd, Nat.reduceMul, Nat.reduceLeDiff, Nat.reduceLT, Nat.reduceEqDiff, forall_const]
    simp only [strE_len, strE_one, ← strE_app]
    ((repeat' (with_reducible apply And.intro)) <;> try ((first | first | assumption | trivial | exact (fun hq => by rw [hq]; rfl) | exact i64_of (by omega) (by omega) | omega | (simp; done) | (simp; omega) | (intro hsc; have hs0 := hsc; (try have hsd := of_decide_eq_true hsc); (try simp only [Bool.not_eq_true', Bool.or_eq_false_iff, Bool.and_eq_true, Bool.or_eq_true, decide_eq_true_eq, decide_eq_false_iff_not] at hsc); (repeat' (with_reducible apply And.intro)) <;> (first | assumption | trivial | exact (fun hq => by rw [hq]; rfl) | exact i64_of (by omega) (by omega) | omega | (simp; done) | (simp; omega) | (intro hse; simp [hse, hs0]; done))))))
    refine end_round ((Sp.spans t).length - (k + 1)) [.p (.str t), .any, .any, .row (.l 3), .any, .any, .any, .p (.sl 2 es), .p (int ((Sp.spans t).length : Nat)), .p (int ((k + 1) : Nat)), .any, .any, .any, .any, .any, .any, .any, .any, .any, .any, .any, .any, .any, .any, .any] [(.l 3, .row (strE (l ++ [lowF (Sp.part t (p.1, p.2))])) tStr 1 true)] (by omega) (by (simp only [ZZ, Za, Zb, Zc, Zd, Ze, Zf, Zg, Zh, rd, AV.un, AV.unA, AV.ad, Zi, Zj, Zk, Zl, Zm, Zn, Zo, Zp, Zq, Zr, Zs, Zt, Zu, Zv, Zw, Zx, Zy, Zz, Zaa, Zab, Zac, Zad, wk1, wk, Zae, Zaf, Zag, Zah, Zai, Zaj, Zak, Zal, AV.kill, AO.kill, AV.thaw, AO.thaw, Zam, Zan, Zao, Zap, Zaq, Zar, Zas, Zat, Zau, ite_true, ite_false, reduceCtorEq, Nat.reduceAdd, Nat.reduceMul, Nat.reduceLeDiff, Nat.reduceLT, Nat.reduceEqDiff, forall_const]; try trivial)) (by (simp only [ZZ, Za, Zb, Zc, Zd, Ze, Zf, Zg, Zh, rd, AV.un, AV.unA, AV.ad, Zi, Zj, Zk, Zl, Zm, Zn, Zo, Zp, Zq, Zr, Zs, Zt, Zu, Zv, Zw, Zx, Zy, Zz, Zaa, Zab, Zac, Zad, wk1, wk, Zae, Zaf, Zag, Zah, Zai, Zaj, Zak, Zal, AV.kill, AO.kill, AV.thaw, AO.thaw, Zam, Zan, Zao, Zap, Zaq, Zar, Zas, Zat, Zau, ite_true, ite_false, reduceCtorEq, Nat.reduceAdd, Nat.reduceMul, Nat.reduceLeDiff, Nat.reduceLT, Nat.reduceEqDiff, forall_const]; try trivial)) ⟨k + 1, l ++ [lowF (Sp.part t (p.1, p.2))], by omega, rfl, by rw [hl, List.take_succ_eq_append_getElem hlt, (List.getElem?_eq_some_iff.1 hp).2, List.map_append]; rfl, rfl, rfl⟩
  · intro h
    have hge : (Sp.spans t).length ≤ k := by have := of_decide_eq_false h; omega
    rw [List.take_of_length_le hge] at hl
    simp only [ZZ, Za, Zb, Zc, Zd, Ze, Zf, Zg, Zh, rd, AV.un, AV.unA, AV.ad, Zi, Zj, Zk, Zl, Zm, Zn, Zo, Zp, Zq, Zr, Zs, Zt, Zu, Zv, Zw, Zx, Zy, Zz, Zaa, Zab, Zac, Zad, wk1, wk, Zae, Zaf, Zag, Zah, Zai, Zaj, Zak, Zal, AV.kill, AO.kill, AV.thaw, AO.thaw, Zam, Zan, Zao, Zap, Zaq, Zar, Zas, Zat, Zau, ite_true, ite_false, reduceCtorEq, Nat.reduceAdd, Nat.reduceMul, Nat.reduceLeDiff, Nat.reduceLT, Nat.reduceEqDiff, forall_const]
    rw [strs_eq, hl]
    rfl
end
end Go.Proofs.YtpddiepfolfnoaaDoor

/- Sets as maps; the ends of words; what is seen and what leaks (plain). -/
namespace Go.Proofs.YtpddiepfolfnoaaDoor
set_option linter.unusedVariables false
set_option linter.unusedSimpArgs false
set_option linter.defProp false

theorem mpF_mpS : ∀ (kv : List (List UInt8 × PV)) (s t : List UInt8) (v : PV), mpF (mpS kv s v) t = if s = t then some v else mpF kv t
  | [], s, t, v => by simp [mpS, mpF]
  | p :: r, s, t, v => by
    simp only [mpS]
    split
    · rename_i h
      by_cases hs : s = t
      · simp [mpF, hs]
      · simp [mpF, hs, h]
    · rename_i h
      simp only [mpF, mpF_mpS r s t v]
      by_cases hp : p.1 = t
      · have : ¬ s = t := fun e => h (hp.trans e.symm)
        simp [hp, this]
      · simp [hp]
/-- A map that is a set. -/
def setOf (kv : List (List UInt8 × PV)) (W : List (List UInt8)) : Prop := ∀ w, mpD kv w (.bool false) = .bool (decide (w ∈ W))
theorem setOf_nil : setOf [] [] := fun w => by simp [mpD, mpF]
theorem setOf_put {kv : List (List UInt8 × PV)} {W : List (List UInt8)} (h : setOf kv W) (s : List UInt8) : setOf (mpS kv s (.bool true)) (W ++ [s]) := fun w => by
  have h := h w
  unfold mpD at h ⊢
  rw [mpF_mpS]
  by_cases hs : s = w
  · simp [hs]
  · have hw : ¬ w = s := fun e => hs e.symm
    rw [if_neg hs, h]
    simp [hw]

/-- Whether a span's end goes on at a place. -/
def widC (s : List UInt8) (i : Nat) : Bool := (letB (s.getD (i - 1) 0) && letB (s.getD i 0)) || insE s (i : Int)
def widL (s : List UInt8) : Nat → Nat
  | 0 => 0
  | f + 1 => if widC s (f + 1) = true then widL s f else f + 1
def widR (s : List UInt8) : Nat → Nat → Nat
  | 0, t => t
  | d + 1, t => if widC s t = true then widR s d (t + 1) else t
theorem widL_le (s : List UInt8) : ∀ n, widL s n ≤ n
  | 0 => Nat.le_refl _
  | f + 1 => by
    unfold widL
    split
    · have := widL_le s f; omega
    · exact Nat.le_refl _
theorem widR_ge (s : List UInt8) : ∀ d t, t ≤ widR s d t
  | 0, t => Nat.le_refl _
  | d + 1, t => by
    unfold widR
    split
    · have := widR_ge s d (t + 1); omega
    · exact Nat.le_refl _
theorem widR_le (s : List UInt8) : ∀ d t, t + d = s.length → widR s d t ≤ s.length
  | 0, t, h => by simp [widR]; omega
  | d + 1, t, h => by
    unfold widR
    split
    · exact widR_le s d (t + 1) (by omega)
    · omega
def widF (s : List UInt8) (p : Int × Int) : Int × Int := ((widL s p.1.toNat : Nat), (widR s (s.length - p.2.toNat) p.2.toNat : Nat))
def widenF (s : List UInt8) (l : List (Int × Int)) : List (Int × Int) := spansFromF (tab s.length (cov (l.map (widF s))))
theorem widF_in {s : List UInt8} {p : Int × Int} (h : 0 ≤ p.1 ∧ p.1 < p.2 ∧ p.2 ≤ s.length) : 0 ≤ (widF s p).1 ∧ (widF s p).1 < (widF s p).2 ∧ (widF s p).2 ≤ s.length := by
  have h1 := widL_le s p.1.toNat
  have h2 := widR_ge s (s.length - p.2.toNat) p.2.toNat
  have h3 := widR_le s (s.length - p.2.toNat) p.2.toNat (by omega)
  simp only [widF]
  omega
theorem pntF_in {s : List UInt8} {p : Int × Int} (h : 0 ≤ p.1 ∧ p.1 < p.2 ∧ p.2 ≤ s.length) : 0 ≤ (pntF s p).1 ∧ (pntF s p).1 < (pntF s p).2 ∧ (pntF s p).2 ≤ s.length := by
  have h1 := backN_le s p.1.toNat
  have h2 := fwdN_ge s (s.length - p.2.toNat) p.2.toNat
  have h3 := fwdN_le s (s.length - p.2.toNat) p.2.toNat (by omega)
  simp only [pntF]
  omega
/-- Spans put together: those of what they cover. -/
theorem put_cov {n : Nat} {l l' : List (Int × Int)} (hin : ∀ s ∈ l, 0 ≤ s.1 ∧ s.1 < s.2 ∧ s.2 ≤ n) (hm : ∀ s, s ∈ l' ↔ s ∈ l) (hs : l'.Pairwise (fun u v => u.1 ≤ v.1)) : putF l' = spansFromF (tab n (cov l)) := by
  refine put_paint (fun s h => hin s ((hm s).1 h)) hs (fun j _ => ?_)
  rw [cov_cv]
  constructor
  · rintro ⟨s, h1, h2⟩; exact ⟨s, (hm s).2 h1, h2⟩
  · rintro ⟨s, h1, h2⟩; exact ⟨s, (hm s).1 h1, h2⟩

/-- A part of a string, by a span. -/
def prt (s : List UInt8) (g : Int × Int) : List UInt8 := (s.take g.2.toNat).drop g.1.toNat
theorem prt_len (s : List UInt8) (g : Int × Int) : (prt s g).length ≤ s.length := by simp [prt]; omega
theorem wordsF_nil : wordsF [] = [] := rfl
theorem prt_empty {s : List UInt8} {g : Int × Int} (h : g.2 ≤ g.1) : prt s g = [] := by
  refine List.eq_nil_of_length_eq_zero ?_
  simp [prt]
  omega
theorem flatMap_filter {α β : Type} {f : α → List β} {p : α → Bool} : ∀ (l : List α), (∀ x ∈ l, p x = false → f x = []) → (l.filter p).flatMap f = l.flatMap f
  | [], _ => rfl
  | x :: r, h => by
    have ih := flatMap_filter (f := f) (p := p) r (fun y hy => h y (by simp [hy]))
    rw [List.filter_cons]
    split
    · simp [ih]
    · rename_i hp
      have := h x (by simp) (by simpa using hp)
      simp [ih, this]
def gwF (s : List UInt8) (R : List (Int × Int)) (a : Int) : List (List UInt8) := (gapsF s.length a R).flatMap fun g => wordsF (prt s g)
/-- The words that are seen: of the gaps. -/
def seenF (s : List UInt8) (l : List (Int × Int)) : List (List UInt8) := (spansFromF (tab s.length fun j => !cov (pointsF s l) j)).flatMap fun g => wordsF (prt s g)
theorem seen_gaps {s : List UInt8} {l R : List (Int × Int)} (hR : R = spansFromF (tab s.length (cov (pointsF s l)))) : gwF s R 0 = seenF s l := by
  have h1 : Right R := by rw [hR]; exact spansFrom_right _
  have hc : ∀ j : Int, cv R j ↔ ∃ i : Nat, j = i ∧ i < s.length ∧ cov (pointsF s l) i = true := by
    intro j
    rw [hR, spansFrom_cov]
    constructor
    · rintro ⟨i, rfl, h1, h2⟩
      rw [tab_len] at h1
      exact ⟨i, rfl, h1, by rw [onAt_tab h1] at h2; exact h2⟩
    · rintro ⟨i, rfl, h1, h2⟩
      exact ⟨i, rfl, by rw [tab_len]; exact h1, by rw [onAt_tab h1]; exact h2⟩
  have hb : ∀ r ∈ R, 0 ≤ r.1 ∧ r.2 ≤ s.length := by
    intro r hr
    have h2 := h1.ok r hr
    have h3 := (hc r.1).1 ⟨r, hr, by omega, h2⟩
    have h4 := (hc (r.2 - 1)).1 ⟨r, hr, by omega, by omega⟩
    obtain ⟨i, h5, h6, _⟩ := h3
    obtain ⟨k, h7, h8, _⟩ := h4
    omega
  have hg := gaps_from (f := fun j => !cov (pointsF s l) j) h1 hb (fun j hj => by
    rw [hc]
    simp only [Bool.not_eq_true']
    constructor
    · rintro h ⟨i, h1, h2, h3⟩
      have : i = j := by omega
      subst this
      rw [h] at h3
      cases h3
    · intro h
      cases hh : cov (pointsF s l) j with
      | false => rfl
      | true => exact absurd ⟨j, rfl, hj, hh⟩ h)
  unfold seenF gwF
  rw [← hg, gapG, flatMap_filter]
  intro g _ h
  rw [prt_empty (by simpa using h), wordsF_nil]
theorem gwF_cons (s : List UInt8) (r : Int × Int) (R : List (Int × Int)) (a : Int) : gwF s (r :: R) a = wordsF (prt s (a, r.1)) ++ gwF s R r.2 := rfl
theorem gwF_nil (s : List UInt8) (a : Int) : gwF s [] a = wordsF (prt s (a, s.length)) := by simp [gwF, gapsF]
theorem wordsF_len (t : List UInt8) : (wordsF t).length ≤ t.length + 1 := by
  have := Sp.spans_len t
  simpa [wordsF] using this
/-- The words that spans hide. -/
def secF (s : List UInt8) (ps : List (Int × Int)) : List (List UInt8) := ps.flatMap fun p => wordsF (prt s p)
theorem secF_take {s : List UInt8} {ps : List (Int × Int)} {k : Nat} {p : Int × Int} (h : ps[k]? = some p) : secF s (ps.take (k + 1)) = secF s (ps.take k) ++ wordsF (prt s p) := by
  unfold secF
  rw [List.take_add_one, h]
  simp
def leakB (s : List UInt8) (l : List (Int × Int)) (p : Nat × Nat) : Bool := (decide ((4 : Int) ≤ (p.2 : Int) - p.1) && !(((tab s.length (cov (pointsF s l))).take p.2).drop p.1).any (· == true)) && decide (wordF s p ∈ secF s (pointsF s l))
def leaksF (s : List UInt8) (l : List (Int × Int)) : List (Int × Int) := ((Sp.spans s).filter (leakB s l)).map sp2
/-- What one span hides, byte by byte. -/
theorem prt_step {s : List UInt8} {a b k : Nat} (hk : k < s.length) (hb : b ≤ s.length) : (s.take (min (k + 1) b)).drop a = if (decide (a ≤ k) && decide (k < b)) = true then (s.take (min k b)).drop a ++ (s.take (k + 1)).drop k else (s.take (min k b)).drop a := by
  split
  · rename_i h
    simp only [Bool.and_eq_true, decide_eq_true_eq] at h
    rw [Nat.min_eq_left (by omega), Nat.min_eq_left (by omega), List.take_add_one, List.getElem?_eq_getElem hk]
    have hl : (s.take k).length = k := by simp; omega
    rw [List.drop_append_of_le_length (by omega), List.drop_append_of_le_length (by omega)]
    congr 1
    rw [List.drop_eq_nil_of_le (by omega)]
    rfl
  · rename_i h
    simp only [Bool.and_eq_true, decide_eq_true_eq] at h
    by_cases hkb : k < b
    · have : k < a := by omega
      rw [List.drop_eq_nil_of_le (by simp; omega), List.drop_eq_nil_of_le (by simp; omega)]
    · rw [Nat.min_eq_right (by omega), Nat.min_eq_right (by omega)]
theorem cov_one (p : Int × Int) (j : Nat) : cov [p] j = (decide (p.1 ≤ j) && decide ((j : Int) < p.2)) := by simp [cov]
end Go.Proofs.YtpddiepfolfnoaaDoor
