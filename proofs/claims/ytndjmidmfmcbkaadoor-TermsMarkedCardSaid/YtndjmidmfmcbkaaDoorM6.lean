
/- Own texts, put together: C6 G5 G6 H1 H2 H3 C2 C3 C4 C5 C7 C8 E1. -/
import Derived.Test.YtndjmidmfmcbkaaDoorM5
import Derived.Test.YtndjmidmfmcbkaaDoorSpec
import Derived.Test.YtndjmidmfmcbkaaDoorM4
import Derived.Test.YtndjmidmfmcbkaaDoorM3
import Derived.WalkKit
import Derived.OwnWalk
import Derived.Lib.Builder
import Derived.Laws.Externs
import Derived.Maps.AppendAt
import Derived.Shelf.RegionOpenPlain
import Derived.Lib.Strings
import Derived.Lib.Slices
import Derived.Lib.Walk
import Derived.Lib.MakeNoZero
import Derived.Laws.IdiomCopy
import Derived.Laws.BitsLemmas
import Derived.KernelRfl
import Derived.Lib.Join
import Derived.Lib.IndexMore
import Derived.Lib.ValidLaws
import Derived.Test.YtndjmidmfmcbkaaDoorLayDecode
/- Letters and words. -/
namespace Go.Proofs.YtndjmidmfmcbkaaDoor
open Go.RowKit
set_option linter.unusedVariables false
set_option linter.unusedSimpArgs false
set_option linter.defProp false

/- paperchase/base.Digit -/
def ir_base_Digit : IC :=
  (.seq (.reg [⟨some 2, .mov (.c (.bool false)), none⟩])
    (.seq (.reg [⟨some 3, .mov (.t 0), none⟩,
      ⟨some 4, .bin .geq (.t 3) (.c (.int .u8 48)), none⟩,
      ⟨some 5, .mov (.t 4), none⟩,
      ⟨some 6, .mov (.t 0), (some (5, true))⟩,
      ⟨some 7, .bin .leq (.t 6) (.c (.int .u8 57)), (some (5, true))⟩,
      ⟨some 8, .pick (.t 5) (.t 7) (.c (.bool false)), none⟩,
      ⟨some 2, .mov (.t 8), none⟩])
    .ret))
def rs_base_Digit : List IRes := [.t 2]
theorem ck_base_Digit : chkF Tryd.prog Tryd.f135 ir_base_Digit rs_base_Digit 9 = true := by kernel_rfl
/- paperchase/near.letter -/
def ir_near_letter : IC :=
  (.seq (.reg [⟨some 2, .mov (.c (.bool false)), none⟩])
    (.seq (.reg [⟨some 3, .mov (.t 0), none⟩,
      ⟨some 4, .bin .geq (.t 3) (.c (.int .u8 97)), none⟩,
      ⟨some 5, .mov (.t 4), none⟩,
      ⟨some 6, .mov (.t 0), (some (5, true))⟩,
      ⟨some 7, .bin .leq (.t 6) (.c (.int .u8 122)), (some (5, true))⟩,
      ⟨some 8, .pick (.t 5) (.t 7) (.c (.bool false)), none⟩,
      ⟨some 9, .mov (.t 8), none⟩,
      ⟨some 10, .mov (.t 0), (some (9, false))⟩,
      ⟨some 11, .bin .geq (.t 10) (.c (.int .u8 65)), (some (9, false))⟩,
      ⟨some 12, .mov (.t 11), (some (9, false))⟩,
      ⟨some 13, .mov (.t 0), (some (12, true))⟩,
      ⟨some 14, .bin .leq (.t 13) (.c (.int .u8 90)), (some (12, true))⟩,
      ⟨some 15, .pick (.t 12) (.t 14) (.c (.bool false)), (some (9, false))⟩,
      ⟨some 16, .pick (.t 9) (.c (.bool true)) (.t 15), none⟩,
      ⟨some 17, .mov (.t 16), none⟩,
      ⟨some 18, .mov (.t 0), (some (17, false))⟩,
      ⟨some 19, .call 135 [.t 18], (some (17, false))⟩,
      ⟨some 20, .pick (.t 17) (.c (.bool true)) (.t 19), none⟩,
      ⟨some 21, .mov (.t 20), none⟩,
      ⟨some 22, .mov (.t 0), (some (21, false))⟩,
      ⟨some 23, .bin .geq (.t 22) (.c (.int .u8 128)), (some (21, false))⟩,
      ⟨some 24, .pick (.t 21) (.c (.bool true)) (.t 23), none⟩,
      ⟨some 2, .mov (.t 24), none⟩])
    .ret))
def rs_near_letter : List IRes := [.t 2]
theorem ck_near_letter : chkF Tryd.prog Tryd.f95 ir_near_letter rs_near_letter 25 = true := by kernel_rfl
/- paperchase/chaseref1.wordByte -/
def ir_chaseref1_wordByte : IC :=
  (.seq (.reg [⟨some 2, .mov (.c (.bool false)), none⟩])
    (.seq (.reg [⟨some 3, .mov (.t 0), none⟩,
      ⟨some 4, .bin .geq (.t 3) (.c (.int .u8 128)), none⟩,
      ⟨some 5, .mov (.t 4), none⟩,
      ⟨some 6, .mov (.t 0), (some (5, false))⟩,
      ⟨some 7, .call 115 [.c (.str [97, 98, 99, 100, 101, 102, 103, 104, 105, 106, 107, 108, 109, 110, 111, 112, 113, 114, 115, 116, 117, 118, 119, 120, 121, 122, 65, 66, 67, 68, 69, 70, 71, 72, 73, 74, 75, 76, 77, 78, 79, 80, 81, 82, 83, 84, 85, 86, 87, 88, 89, 90, 48, 49, 50, 51, 52, 53, 54, 55, 56, 57]), .t 6], (some (5, false))⟩,
      ⟨some 8, .bin .geq (.t 7) (.c (.int .i64 0)), (some (5, false))⟩,
      ⟨some 9, .pick (.t 5) (.c (.bool true)) (.t 8), none⟩,
      ⟨some 2, .mov (.t 9), none⟩])
    .ret))
def rs_chaseref1_wordByte : List IRes := [.t 2]
theorem ck_chaseref1_wordByte : chkF Tryd.prog Tryd.f134 ir_chaseref1_wordByte rs_chaseref1_wordByte 10 = true := by kernel_rfl
/- paperchase/near.Words -/
def ir_near_Words_L0 : IC :=
  (.seq (.seq (.reg [⟨some 7, .mov (.t 5), none⟩,
      ⟨some 8, .mov (.t 0), none⟩,
      ⟨some 9, .sln (.t 8), none⟩,
      ⟨some 10, .bin .leq (.t 7) (.t 9), none⟩])
    (.cond (.t 10) .skip (.exit 0)))
    (.seq (.block 1 (.seq (.reg [⟨some 13, .mov (.t 5), none⟩,
      ⟨some 14, .mov (.t 0), none⟩,
      ⟨some 15, .sln (.t 14), none⟩,
      ⟨some 16, .bin .lss (.t 13) (.t 15), none⟩,
      ⟨some 17, .mov (.t 16), none⟩,
      ⟨some 18, .mov (.t 0), (some (17, true))⟩,
      ⟨some 19, .mov (.t 5), (some (17, true))⟩,
      ⟨some 20, .idx (.t 18) (.t 19), (some (17, true))⟩,
      ⟨some 21, .call 95 [.t 20], (some (17, true))⟩,
      ⟨some 22, .pick (.t 17) (.t 21) (.c (.bool false)), none⟩,
      ⟨some 6, .mov (.t 22), none⟩])
    (.seq (.seq (.reg [⟨some 23, .mov (.t 6), none⟩,
      ⟨some 24, .mov (.t 23), none⟩,
      ⟨some 25, .mov (.t 4), (some (24, true))⟩,
      ⟨some 26, .bin .lss (.t 25) (.c (.int .i64 0)), (some (24, true))⟩,
      ⟨some 27, .pick (.t 24) (.t 26) (.c (.bool false)), none⟩])
    (.cond (.t 27) (.reg [⟨some 28, .mov (.t 5), none⟩,
      ⟨some 4, .mov (.t 28), none⟩]) .skip))
    (.cut (.seq (.reg [⟨some 29, .mov (.t 6), none⟩,
      ⟨some 30, .not (.t 29), none⟩,
      ⟨some 31, .mov (.t 30), none⟩,
      ⟨some 32, .mov (.t 4), (some (31, true))⟩,
      ⟨some 33, .bin .geq (.t 32) (.c (.int .i64 0)), (some (31, true))⟩,
      ⟨some 34, .pick (.t 31) (.t 33) (.c (.bool false)), none⟩])
    (.cond (.t 34) (.seq (.reg [⟨some 35, .mov (.t 3), none⟩,
      ⟨some 36, .mov (.t 0), none⟩,
      ⟨some 37, .mov (.t 4), none⟩,
      ⟨some 38, .mov (.t 5), none⟩,
      ⟨some 39, .ssl (.t 36) (some (.t 37)) (some (.t 38)), none⟩,
      ⟨some 40, .call 67 [.t 39], none⟩,
      ⟨some 41, .bsl 1 [.t 40], none⟩,
      ⟨some 42, .app 9 1 16 (.t 35) (.t 41), none⟩,
      ⟨some 3, .mov (.t 42), none⟩])
    (.reg [⟨some 4, .mov (.c (.int .i64 (-1))), none⟩])) .skip))))))
    (.cut (.reg [⟨some 11, .mov (.t 5), none⟩,
      ⟨some 12, .bin .add (.t 11) (.c (.int .i64 1)), none⟩,
      ⟨some 5, .mov (.t 12), none⟩]))))
def ir_near_Words : IC :=
  (.seq (.reg [⟨some 2, .mov (.c (.nl 1)), none⟩])
    (.seq (.reg [⟨some 3, .nilr 9 1, none⟩])
    (.seq (.reg [⟨some 4, .mov (.c (.int .i64 (-1))), none⟩])
    (.seq (.seq (.reg [⟨some 5, .mov (.c (.int .i64 0)), none⟩])
    (.block 0 (.loop ir_near_Words_L0)))
    (.seq (.reg [⟨some 43, .mov (.t 3), none⟩,
      ⟨some 2, .mov (.t 43), none⟩])
    .ret)))))
def rs_near_Words : List IRes := [.t 2]
theorem ck_near_Words : chkF Tryd.prog Tryd.f46 ir_near_Words rs_near_Words 44 = true := by kernel_rfl
/- paperchase/chaseref1.wordSpans -/
def ir_chaseref1_wordSpans_L1 : IC :=
  (.seq (.seq (.reg [⟨some 18, .mov (.t 5), none⟩,
      ⟨some 19, .mov (.t 0), none⟩,
      ⟨some 20, .sln (.t 19), none⟩,
      ⟨some 21, .bin .lss (.t 18) (.t 20), none⟩,
      ⟨some 22, .mov (.t 21), none⟩,
      ⟨some 23, .mov (.t 0), (some (22, true))⟩,
      ⟨some 24, .mov (.t 5), (some (22, true))⟩,
      ⟨some 25, .idx (.t 23) (.t 24), (some (22, true))⟩,
      ⟨some 26, .call 134 [.t 25], (some (22, true))⟩,
      ⟨some 27, .pick (.t 22) (.t 26) (.c (.bool false)), none⟩])
    (.cond (.t 27) .skip (.exit 2)))
    (.block 3 (.reg [⟨some 28, .mov (.t 5), none⟩,
      ⟨some 29, .bin .add (.t 28) (.c (.int .i64 1)), none⟩,
      ⟨some 5, .mov (.t 29), none⟩])))
def ir_chaseref1_wordSpans_L0 : IC :=
  (.seq (.seq (.reg [⟨some 6, .mov (.t 4), none⟩,
      ⟨some 7, .mov (.t 0), none⟩,
      ⟨some 8, .sln (.t 7), none⟩,
      ⟨some 9, .bin .lss (.t 6) (.t 8), none⟩])
    (.cond (.t 9) .skip (.exit 0)))
    (.seq (.block 1 (.seq (.seq (.reg [⟨some 12, .mov (.t 0), none⟩,
      ⟨some 13, .mov (.t 4), none⟩,
      ⟨some 14, .idx (.t 12) (.t 13), none⟩,
      ⟨some 15, .call 134 [.t 14], none⟩,
      ⟨some 16, .not (.t 15), none⟩])
    (.cond (.t 16) (.exit 1) .skip))
    (.seq (.reg [⟨some 17, .mov (.t 4), none⟩,
      ⟨some 5, .mov (.t 17), none⟩])
    (.seq (.block 2 (.loop ir_chaseref1_wordSpans_L1))
    (.seq (.reg [⟨some 30, .mov (.t 3), none⟩,
      ⟨some 31, .mov (.t 4), none⟩,
      ⟨some 32, .mov (.t 5), none⟩,
      ⟨some 33, .bld [.int .i64 0, .int .i64 0] [(0, 1, .t 31), (1, 1, .t 32)], none⟩,
      ⟨some 34, .bsl 2 [.t 33], none⟩,
      ⟨some 35, .app 77 2 16 (.t 30) (.t 34), none⟩,
      ⟨some 3, .mov (.t 35), none⟩])
    (.reg [⟨some 36, .mov (.t 5), none⟩,
      ⟨some 4, .mov (.t 36), none⟩]))))))
    (.cut (.reg [⟨some 10, .mov (.t 4), none⟩,
      ⟨some 11, .bin .add (.t 10) (.c (.int .i64 1)), none⟩,
      ⟨some 4, .mov (.t 11), none⟩]))))
def ir_chaseref1_wordSpans : IC :=
  (.seq (.reg [⟨some 2, .mov (.c (.nl 2)), none⟩])
    (.seq (.reg [⟨some 3, .nilr 77 2, none⟩])
    (.seq (.seq (.reg [⟨some 4, .mov (.c (.int .i64 0)), none⟩])
    (.block 0 (.loop ir_chaseref1_wordSpans_L0)))
    (.seq (.reg [⟨some 37, .mov (.t 3), none⟩,
      ⟨some 2, .mov (.t 37), none⟩])
    .ret))))
def rs_chaseref1_wordSpans : List IRes := [.t 2]
theorem ck_chaseref1_wordSpans : chkF Tryd.prog Tryd.f93 ir_chaseref1_wordSpans rs_chaseref1_wordSpans 38 = true := by kernel_rfl
/- paperchase/chaseref1.WordsOf -/
def ir_chaseref1_WordsOf_L0 : IC :=
  (.seq (.reg [⟨some 10, .bin .lss (.t 9) (.t 8), none⟩])
    (.seq (.cond (.t 10) .skip (.exit 0))
    (.seq (.block 1 (.seq (.reg [⟨some 11, .ixa 2 (.t 7) (.t 9), none⟩,
      ⟨some 12, .ld 2 true (.t 11), none⟩,
      ⟨some 5, .alc 77 [.int .i64 0, .int .i64 0], none⟩,
      ⟨none, .st 2 (.t 5) (.t 12), none⟩])
    (.reg [⟨some 13, .mov (.t 3), none⟩,
      ⟨some 14, .mov (.t 0), none⟩,
      ⟨some 15, .fla 0 (.t 5), none⟩,
      ⟨some 16, .ld 1 false (.t 15), none⟩,
      ⟨some 17, .fla 1 (.t 5), none⟩,
      ⟨some 18, .ld 1 false (.t 17), none⟩,
      ⟨some 19, .ssl (.t 14) (some (.t 16)) (some (.t 18)), none⟩,
      ⟨some 20, .call 70 [.t 19], none⟩,
      ⟨some 21, .bsl 1 [.t 20], none⟩,
      ⟨some 22, .app 9 1 16 (.t 13) (.t 21), none⟩,
      ⟨some 3, .mov (.t 22), none⟩])))
    (.reg [⟨some 23, .bin .add (.t 9) (.c (.int .i64 1)), none⟩,
      ⟨some 9, .mov (.t 23), none⟩]))))
def ir_chaseref1_WordsOf : IC :=
  (.seq (.reg [⟨some 2, .mov (.c (.nl 1)), none⟩])
    (.seq (.reg [⟨some 3, .nilr 9 1, none⟩])
    (.seq (.seq (.reg [⟨some 6, .mov (.t 0), none⟩,
      ⟨some 7, .call 93 [.t 6], none⟩,
      ⟨some 8, .len (.t 7), none⟩,
      ⟨some 9, .mov (.c (.int .i64 0)), none⟩])
    (.block 0 (.loop ir_chaseref1_WordsOf_L0)))
    (.seq (.reg [⟨some 24, .mov (.t 3), none⟩,
      ⟨some 2, .mov (.t 24), none⟩])
    .ret))))
def rs_chaseref1_WordsOf : List IRes := [.t 2]
theorem ck_chaseref1_WordsOf : chkF Tryd.prog Tryd.f43 ir_chaseref1_WordsOf rs_chaseref1_WordsOf 25 = true := by kernel_rfl


abbrev tStr : Nat := 9
def digB (c : UInt8) : Bool := decide (48 ≤ (c.toNat : Int)) && decide ((c.toNat : Int) ≤ 57)
def letB (c : UInt8) : Bool := ((decide (97 ≤ (c.toNat : Int)) && decide ((c.toNat : Int) ≤ 122) || decide (65 ≤ (c.toNat : Int)) && decide ((c.toNat : Int) ≤ 90)) || digB c) || decide (128 ≤ (c.toNat : Int))
def alphL : List UInt8 := smallL ++ capL ++ [48, 49, 50, 51, 52, 53, 54, 55, 56, 57]
theorem letB_spec (c : UInt8) : letB c = Sp.isLet c := all256 (p := fun c => letB c = Sp.isLet c) (by decide +kernel) c
theorem letB_alph (c : UInt8) : (decide (128 ≤ (c.toNat : Int)) || decide (0 ≤ Lib.indexByte alphL c)) = letB c := all256 (p := fun c => (decide (128 ≤ (c.toNat : Int)) || decide (0 ≤ Lib.indexByte alphL c)) = letB c) (by decide +kernel) c
section
variable {E : Envt}
theorem Digit_ok (c : UInt8) : PCall Tryd.prog E 135 [.int .u8 (c.toNat : Nat)] (· = .bool (digB c)) := by
  refine pcallF mixed Tryd.func135 ck_base_Digit ?_
  simp only [a0, l0, OS.ao, List.map_cons, List.map_nil, List.length_cons, List.length_nil, List.cons_append, List.nil_append, Nat.reduceSub, Nat.reduceAdd, List.replicate_succ, List.replicate_zero, ir_base_Digit, rs_base_Digit, ZZ, IsnK_some, Za, Zb, Zc, Zd, Ze, Zf, Zg, Zh, rd, AV.un, AV.unA, AV.ad, Zi, Zj, Zk, Zl, Zm, Zn, Zo, Zp, Zq, Zr, Zs, Zt, Zu, Zv, Zw, Zx, Zy, Zz, Zaa, Zab, Zac, Zad, Zae, Zaf, Zag, Zah, Zai, Zaj, Zak, Zal, Zam, Zan, wk1, wk, Zao, Zap, Zaq, Zar, Zas, Zat, Zau, Zav, AV.kill, AO.kill, AV.thaw, AO.thaw, Zaw, Zax, Zay, Zaz, Zba, Zbb, Zbc, Zbd, Zbe, ite_true, ite_false, reduceCtorEq, Nat.reduceAdd, Nat.reduceMul, Nat.reduceLeDiff, Nat.reduceLT, Nat.reduceEqDiff, forall_const]
  ((repeat' (with_reducible apply And.intro)) <;> try ((first | first | assumption | trivial | exact (fun hq => by rw [hq]; rfl) | exact i64_of (by omega) (by omega) | omega | (simp; done) | (simp; omega) | (intro hsc; have hs0 := hsc; (try have hsd := of_decide_eq_true hsc); (try simp only [Bool.not_eq_true', Bool.or_eq_false_iff, Bool.and_eq_true, Bool.or_eq_true, decide_eq_true_eq, decide_eq_false_iff_not] at hsc); (repeat' (with_reducible apply And.intro)) <;> (first | assumption | trivial | exact (fun hq => by rw [hq]; rfl) | exact i64_of (by omega) (by omega) | omega | (simp; done) | (simp; omega) | (intro hse; simp [hse, hs0]; done) | (intro hse; simp only [hse, hs0, Bool.true_and, Bool.and_true, Bool.not_false, Bool.not_true, Bool.and_self]; done))))))
theorem letter_ok (c : UInt8) : PCall Tryd.prog E 95 [.int .u8 (c.toNat : Nat)] (· = .bool (letB c)) := by
  refine pcallF mixed Tryd.func95 ck_near_letter ?_
  simp only [a0, l0, OS.ao, List.map_cons, List.map_nil, List.length_cons, List.length_nil, List.cons_append, List.nil_append, Nat.reduceSub, Nat.reduceAdd, List.replicate_succ, List.replicate_zero, ir_near_letter, rs_near_letter, ZZ, IsnK_some, Za, Zb, Zc, Zd, Ze, Zf, Zg, Zh, rd, AV.un, AV.unA, AV.ad, Zi, Zj, Zk, Zl, Zm, Zn, Zo, Zp, Zq, Zr, Zs, Zt, Zu, Zv, Zw, Zx, Zy, Zz, Zaa, Zab, Zac, Zad, Zae, Zaf, Zag, Zah, Zai, Zaj, Zak, Zal, Zam, Zan, wk1, wk, Zao, Zap, Zaq, Zar, Zas, Zat, Zau, Zav, AV.kill, AO.kill, AV.thaw, AO.thaw, Zaw, Zax, Zay, Zaz, Zba, Zbb, Zbc, Zbd, Zbe, ite_true, ite_false, reduceCtorEq, Nat.reduceAdd, Nat.reduceMul, Nat.reduceLeDiff, Nat.reduceLT, Nat.reduceEqDiff, forall_const]
  ((repeat' (with_reducible apply And.intro)) <;> try ((first | first | assumption | trivial | exact (fun hq => by rw [hq]; rfl) | exact i64_of (by omega) (by omega) | omega | (simp; done) | (simp; omega) | (intro hsc; have hs0 := hsc; (try have hsd := of_decide_eq_true hsc); (try simp only [Bool.not_eq_true', Bool.or_eq_false_iff, Bool.and_eq_true, Bool.or_eq_true, decide_eq_true_eq, decide_eq_false_iff_not] at hsc); (repeat' (with_reducible apply And.intro)) <;> (first | assumption | trivial | exact (fun hq => by rw [hq]; rfl) | exact i64_of (by omega) (by omega) | omega | (simp; done) | (simp; omega) | (intro hse; simp [hse, hs0]; done) | (intro hse; simp only [hse, hs0, Bool.true_and, Bool.and_true, Bool.not_false, Bool.not_true, Bool.and_self]; done))))))
  refine useG (fun _ => Digit_ok c) rfl (.inl rfl) ?_
  simp only [ZZ, IsnK_some, Za, Zb, Zc, Zd, Ze, Zf, Zg, Zh, rd, AV.un, AV.unA, AV.ad, Zi, Zj, Zk, Zl, Zm, Zn, Zo, Zp, Zq, Zr, Zs, Zt, Zu, Zv, Zw, Zx, Zy, Zz, Zaa, Zab, Zac, Zad, Zae, Zaf, Zag, Zah, Zai, Zaj, Zak, Zal, Zam, Zan, wk1, wk, Zao, Zap, Zaq, Zar, Zas, Zat, Zau, Zav, AV.kill, AO.kill, AV.thaw, AO.thaw, Zaw, Zax, Zay, Zaz, Zba, Zbb, Zbc, Zbd, Zbe, ite_true, ite_false, reduceCtorEq, Nat.reduceAdd, Nat.reduceMul, Nat.reduceLeDiff, Nat.reduceLT, Nat.reduceEqDiff, forall_const]
  ((repeat' (with_reducible apply And.intro)) <;> try ((first | first | assumption | trivial | exact (fun hq => by rw [hq]; rfl) | exact i64_of (by omega) (by omega) | omega | (simp; done) | (simp; omega) | (intro hsc; have hs0 := hsc; (try have hsd := of_decide_eq_true hsc); (try simp only [Bool.not_eq_true', Bool.or_eq_false_iff, Bool.and_eq_true, Bool.or_eq_true, decide_eq_true_eq, decide_eq_false_iff_not] at hsc); (repeat' (with_reducible apply And.intro)) <;> (first | assumption | trivial | exact (fun hq => by rw [hq]; rfl) | exact i64_of (by omega) (by omega) | omega | (simp; done) | (simp; omega) | (intro hse; simp [hse, hs0]; done) | (intro hse; simp only [hse, hs0, Bool.true_and, Bool.and_true, Bool.not_false, Bool.not_true, Bool.and_self]; done))))))
theorem wordByte_ok (c : UInt8) : PCall Tryd.prog E 134 [.int .u8 (c.toNat : Nat)] (· = .bool (letB c)) := by
  refine pcallF mixed Tryd.func134 ck_chaseref1_wordByte ?_
  simp only [a0, l0, OS.ao, List.map_cons, List.map_nil, List.length_cons, List.length_nil, List.cons_append, List.nil_append, Nat.reduceSub, Nat.reduceAdd, List.replicate_succ, List.replicate_zero, ir_chaseref1_wordByte, rs_chaseref1_wordByte, ZZ, IsnK_some, Za, Zb, Zc, Zd, Ze, Zf, Zg, Zh, rd, AV.un, AV.unA, AV.ad, Zi, Zj, Zk, Zl, Zm, Zn, Zo, Zp, Zq, Zr, Zs, Zt, Zu, Zv, Zw, Zx, Zy, Zz, Zaa, Zab, Zac, Zad, Zae, Zaf, Zag, Zah, Zai, Zaj, Zak, Zal, Zam, Zan, wk1, wk, Zao, Zap, Zaq, Zar, Zas, Zat, Zau, Zav, AV.kill, AO.kill, AV.thaw, AO.thaw, Zaw, Zax, Zay, Zaz, Zba, Zbb, Zbc, Zbd, Zbe, ite_true, ite_false, reduceCtorEq, Nat.reduceAdd, Nat.reduceMul, Nat.reduceLeDiff, Nat.reduceLT, Nat.reduceEqDiff, forall_const]
  ((repeat' (with_reducible apply And.intro)) <;> try ((first | first | assumption | trivial | exact (fun hq => by rw [hq]; rfl) | exact i64_of (by omega) (by omega) | omega | (simp; done) | (simp; omega) | (intro hsc; have hs0 := hsc; (try have hsd := of_decide_eq_true hsc); (try simp only [Bool.not_eq_true', Bool.or_eq_false_iff, Bool.and_eq_true, Bool.or_eq_true, decide_eq_true_eq, decide_eq_false_iff_not] at hsc); (repeat' (with_reducible apply And.intro)) <;> (first | assumption | trivial | exact (fun hq => by rw [hq]; rfl) | exact i64_of (by omega) (by omega) | omega | (simp; done) | (simp; omega) | (intro hse; simp [hse, hs0]; done) | (intro hse; simp only [hse, hs0, Bool.true_and, Bool.and_true, Bool.not_false, Bool.not_true, Bool.and_self]; done))))))
  refine useG (fun _ => IndexByte_ok alphL c) rfl (.inl rfl) ?_
  simp only [ZZ, IsnK_some, Za, Zb, Zc, Zd, Ze, Zf, Zg, Zh, rd, AV.un, AV.unA, AV.ad, Zi, Zj, Zk, Zl, Zm, Zn, Zo, Zp, Zq, Zr, Zs, Zt, Zu, Zv, Zw, Zx, Zy, Zz, Zaa, Zab, Zac, Zad, Zae, Zaf, Zag, Zah, Zai, Zaj, Zak, Zal, Zam, Zan, wk1, wk, Zao, Zap, Zaq, Zar, Zas, Zat, Zau, Zav, AV.kill, AO.kill, AV.thaw, AO.thaw, Zaw, Zax, Zay, Zaz, Zba, Zbb, Zbc, Zbd, Zbe, ite_true, ite_false, reduceCtorEq, Nat.reduceAdd, Nat.reduceMul, Nat.reduceLeDiff, Nat.reduceLT, Nat.reduceEqDiff, forall_const]
  ((repeat' (with_reducible apply And.intro)) <;> try ((first | first | assumption | trivial | exact (fun hq => by rw [hq]; rfl) | exact i64_of (by omega) (by omega) | omega | (simp; done) | (simp; omega) | (intro hsc; have hs0 := hsc; (try have hsd := of_decide_eq_true hsc); (try simp only [Bool.not_eq_true', Bool.or_eq_false_iff, Bool.and_eq_true, Bool.or_eq_true, decide_eq_true_eq, decide_eq_false_iff_not] at hsc); (repeat' (with_reducible apply And.intro)) <;> (first | assumption | trivial | exact (fun hq => by rw [hq]; rfl) | exact i64_of (by omega) (by omega) | omega | (simp; done) | (simp; omega) | (intro hse; simp [hse, hs0]; done) | (intro hse; simp only [hse, hs0, Bool.true_and, Bool.and_true, Bool.not_false, Bool.not_true, Bool.and_self]; done))))))
  rw [letB_alph]
def wordF (t : List UInt8) (p : Nat × Nat) : List UInt8 := lowF (Sp.part t p)
def wordsF (t : List UInt8) : List (List UInt8) := (Sp.spans t).map (wordF t)
def strE (l : List (List UInt8)) : List (List PV) := l.map fun x => [PV.str x]
theorem strE_len (l : List (List UInt8)) : (strE l).length = l.length := by simp [strE]
theorem strE_app (l m : List (List UInt8)) : strE (l ++ m) = strE l ++ strE m := by simp [strE]
theorem strs_eq (l : List (List UInt8)) : strs l = .sl 1 (strE l) := rfl
theorem strE_get {l : List (List UInt8)} {k : Nat} {x : List UInt8} (h : l[k]? = some x) : (strE l).getD k [] = [.str x] := getD_map h
theorem strE_one (x : List UInt8) : [[PV.str x]] = strE [x] := rfl
def fromI (f : Option Nat) : Int := match f with | none => -1 | some a => (a : Int)
theorem Words_ok (t : List UInt8) (ht : t.length ≤ 1000000000) : PCall Tryd.prog E 46 [.str t] (· = strs (wordsF t)) := by
  refine pcallF mixed Tryd.func46 ck_near_Words ?_
  simp only [a0, l0, OS.ao, List.map_cons, List.map_nil, List.length_cons, List.length_nil, List.cons_append, List.nil_append, Nat.reduceSub, Nat.reduceAdd, List.replicate_succ, List.replicate_zero, ir_near_Words, rs_near_Words, ZZ, IsnK_some, Za, Zb, Zc, Zd, Ze, Zf, Zg, Zh, rd, AV.un, AV.unA, AV.ad, Zi, Zj, Zk, Zl, Zm, Zn, Zo, Zp, Zq, Zr, Zs, Zt, Zu, Zv, Zw, Zx, Zy, Zz, Zaa, Zab, Zac, Zad, Zae, Zaf, Zag, Zah, Zai, Zaj, Zak, Zal, Zam, Zan, wk1, wk, Zao, Zap, Zaq, Zar, Zas, Zat, Zau, Zav, AV.kill, AO.kill, AV.thaw, AO.thaw, Zaw, Zax, Zay, Zaz, Zba, Zbb, Zbc, Zbd, Zbe, ite_true, ite_false, reduceCtorEq, Nat.reduceAdd, Nat.reduceMul, Nat.reduceLeDiff, Nat.reduceLT, Nat.reduceEqDiff, forall_const]
  refine loop_intro (fun n fr L => ∃ (i : Nat) (f : Option Nat) (l : List (List UInt8)), t.length + 1 - i = n ∧ (i ≤ t.length + 1) ∧ (∀ a, f = some a → a < i ∧ i ≤ t.length) ∧ (l.length ≤ i) ∧ (l ++ (Sp.wsp i f (t.drop i)).map (wordF t) = wordsF t) ∧ fr = [.p (.str t), .any, .any, .row (.l 3), .p (int (fromI f)), .p (int (i : Nat)), .any, .any, .any, .any, .any, .any, .any, .any, .any, .any, .any, .any, .any, .any, .any, .any, .any, .any, .any, .any, .any, .any, .any, .any, .any, .any, .any, .any, .any, .any, .any, .any, .any, .any, .any, .any, .any, .any] ∧ L = [(.l 3, .row (strE l) tStr 1 true)]) (t.length + 1 - 0) [.p (.str t), .any, .any, .row (.l 3), .p (int (fromI none)), .p (int (0 : Nat)), .any, .any, .any, .any, .any, .any, .any, .any, .any, .any, .any, .any, .any, .any, .any, .any, .any, .any, .any, .any, .any, .any, .any, .any, .any, .any, .any, .any, .any, .any, .any, .any, .any, .any, .any, .any, .any, .any] [(.l 3, .row (strE []) tStr 1 true)] (by (simp only [ZZ, IsnK_some, Za, Zb, Zc, Zd, Ze, Zf, Zg, Zh, rd, AV.un, AV.unA, AV.ad, Zi, Zj, Zk, Zl, Zm, Zn, Zo, Zp, Zq, Zr, Zs, Zt, Zu, Zv, Zw, Zx, Zy, Zz, Zaa, Zab, Zac, Zad, Zae, Zaf, Zag, Zah, Zai, Zaj, Zak, Zal, Zam, Zan, wk1, wk, Zao, Zap, Zaq, Zar, Zas, Zat, Zau, Zav, AV.kill, AO.kill, AV.thaw, AO.thaw, Zaw, Zax, Zay, Zaz, Zba, Zbb, Zbc, Zbd, Zbe, ite_true, ite_false, reduceCtorEq, Nat.reduceAdd, Nat.reduceMul, Nat.reduceLeDiff, Nat.reduceLT, Nat.reduceEqDiff, forall_const]; try trivial)) (by (simp only [ZZ, IsnK_some, Za, Zb, Zc, Zd, Ze, Zf, Zg, Zh, rd, AV.un, AV.unA, AV.ad, Zi, Zj, Zk, Zl, Zm, Zn, Zo, Zp, Zq, Zr, Zs, Zt, Zu, Zv, Zw, Zx, Zy, Zz, Zaa, Zab, Zac, Zad, Zae, Zaf, Zag, Zah, Zai, Zaj, Zak, Zal, Zam, Zan, wk1, wk, Zao, Zap, Zaq, Zar, Zas, Zat, Zau, Zav, AV.kill, AO.kill, AV.thaw, AO.thaw, Zaw, Zax, Zay, Zaz, Zba, Zbb, Zbc, Zbd, Zbe, ite_true, ite_false, reduceCtorEq, Nat.reduceAdd, Nat.reduceMul, Nat.reduceLeDiff, Nat.reduceLT, Nat.reduceEqDiff, forall_const]; try trivial)) ⟨0, none, [], rfl, by omega, by simp, by simp, rfl, rfl, rfl⟩ ?_
  rintro n fr L ⟨i, f, l, rfl, hi1, hf, hll, hl, rfl, rfl⟩
  simp only [ir_near_Words_L0, ZZ, IsnK_some, Za, Zb, Zc, Zd, Ze, Zf, Zg, Zh, rd, AV.un, AV.unA, AV.ad, Zi, Zj, Zk, Zl, Zm, Zn, Zo, Zp, Zq, Zr, Zs, Zt, Zu, Zv, Zw, Zx, Zy, Zz, Zaa, Zab, Zac, Zad, Zae, Zaf, Zag, Zah, Zai, Zaj, Zak, Zal, Zam, Zan, wk1, wk, Zao, Zap, Zaq, Zar, Zas, Zat, Zau, Zav, AV.kill, AO.kill, AV.thaw, AO.thaw, Zaw, Zax, Zay, Zaz, Zba, Zbb, Zbc, Zbd, Zbe, ite_true, ite_false, reduceCtorEq, Nat.reduceAdd, Nat.reduceMul, Nat.reduceLeDiff, Nat.reduceLT, Nat.reduceEqDiff, forall_const]
  refine br ?_ ?_
  · intro h
    have hle : i ≤ t.length := by have := of_decide_eq_true h; omega
    simp only [ZZ, IsnK_some, Za, Zb, Zc, Zd, Ze, Zf, Zg, Zh, rd, AV.un, AV.unA, AV.ad, Zi, Zj, Zk, Zl, Zm, Zn, Zo, Zp, Zq, Zr, Zs, Zt, Zu, Zv, Zw, Zx, Zy, Zz, Zaa, Zab, Zac, Zad, Zae, Zaf, Zag, Zah, Zai, Zaj, Zak, Zal, Zam, Zan, wk1, wk, Zao, Zap, Zaq, Zar, Zas, Zat, Zau, Zav, AV.kill, AO.kill, AV.thaw, AO.thaw, Zaw, Zax, Zay, Zaz, Zba, Zbb, Zbc, Zbd, Zbe, ite_true, ite_false, reduceCtorEq, Nat.reduceAdd, Nat.reduceMul, Nat.reduceLeDiff, Nat.reduceLT, Nat.reduceEqDiff, forall_const]
    ((repeat' (with_reducible apply And.intro)) <;> try ((first | first | assumption | trivial | exact (fun hq => by rw [hq]; rfl) | exact i64_of (by omega) (by omega) | omega | (simp; done) | (simp; omega) | (intro hsc; have hs0 := hsc; (try have hsd := of_decide_eq_true hsc); (try simp only [Bool.not_eq_true', Bool.or_eq_false_iff, Bool.and_eq_true, Bool.or_eq_true, decide_eq_true_eq, decide_eq_false_iff_not] at hsc); (repeat' (with_reducible apply And.intro)) <;> (first | assumption | trivial | exact (fun hq => by rw [hq]; rfl) | exact i64_of (by omega) (by omega) | omega | (simp; done) | (simp; omega) | (intro hse; simp [hse, hs0]; done) | (intro hse; simp only [hse, hs0, Bool.true_and, Bool.and_true, Bool.not_false, Bool.not_true, Bool.and_self]; done))))))
    refine useG (fun _ => letter_ok (t.getD i 0)) rfl (.inl rfl) ?_
    simp only [ZZ, IsnK_some, Za, Zb, Zc, Zd, Ze, Zf, Zg, Zh, rd, AV.un, AV.unA, AV.ad, Zi, Zj, Zk, Zl, Zm, Zn, Zo, Zp, Zq, Zr, Zs, Zt, Zu, Zv, Zw, Zx, Zy, Zz, Zaa, Zab, Zac, Zad, Zae, Zaf, Zag, Zah, Zai, Zaj, Zak, Zal, Zam, Zan, wk1, wk, Zao, Zap, Zaq, Zar, Zas, Zat, Zau, Zav, AV.kill, AO.kill, AV.thaw, AO.thaw, Zaw, Zax, Zay, Zaz, Zba, Zbb, Zbc, Zbd, Zbe, ite_true, ite_false, reduceCtorEq, Nat.reduceAdd, Nat.reduceMul, Nat.reduceLeDiff, Nat.reduceLT, Nat.reduceEqDiff, forall_const]
    ((repeat' (with_reducible apply And.intro)) <;> try ((first | first | assumption | trivial | exact (fun hq => by rw [hq]; rfl) | exact i64_of (by omega) (by omega) | omega | (simp; done) | (simp; omega) | (intro hsc; have hs0 := hsc; (try have hsd := of_decide_eq_true hsc); (try simp only [Bool.not_eq_true', Bool.or_eq_false_iff, Bool.and_eq_true, Bool.or_eq_true, decide_eq_true_eq, decide_eq_false_iff_not] at hsc); (repeat' (with_reducible apply And.intro)) <;> (first | assumption | trivial | exact (fun hq => by rw [hq]; rfl) | exact i64_of (by omega) (by omega) | omega | (simp; done) | (simp; omega) | (intro hse; simp [hse, hs0]; done) | (intro hse; simp only [hse, hs0, Bool.true_and, Bool.and_true, Bool.not_false, Bool.not_true, Bool.and_self]; done))))))
    have hin : (decide ((i : Int) < t.length) && letB (t.getD i 0)) = true → ∃ hh : i < t.length, Sp.isLet t[i] = true := by
      intro hb
      simp only [Bool.and_eq_true, decide_eq_true_eq] at hb
      have hh : i < t.length := by omega
      refine ⟨hh, ?_⟩
      rw [← letB_spec, ← hb.2]
      simp [List.getD, hh]
    have hout : (decide ((i : Int) < t.length) && letB (t.getD i 0)) = false → ∀ hh : i < t.length, Sp.isLet t[i] = false := by
      intro hb hh
      rw [show decide ((i : Int) < t.length) = true from by simp [hh], Bool.true_and] at hb
      rw [← letB_spec, ← hb]
      simp [List.getD, hh]
    generalize (decide ((i : Int) < t.length) && letB (t.getD i 0)) = b at hin hout ⊢
    cases f with
    | none =>
      have e1 : decide (fromI none < 0) = true := by decide
      have e2 : decide (0 ≤ fromI none) = false := by decide
      cases b with
      | true =>
        obtain ⟨hh, hlet⟩ := hin rfl
        have e3 : decide (0 ≤ (i : Int)) = true := by simp
        have hnx := Sp.wsp_let t i none hh _ rfl hlet
        simp only [ZZ, IsnK_some, Za, Zb, Zc, Zd, Ze, Zf, Zg, Zh, rd, AV.un, AV.unA, AV.ad, Zi, Zj, Zk, Zl, Zm, Zn, Zo, Zp, Zq, Zr, Zs, Zt, Zu, Zv, Zw, Zx, Zy, Zz, Zaa, Zab, Zac, Zad, Zae, Zaf, Zag, Zah, Zai, Zaj, Zak, Zal, Zam, Zan, wk1, wk, Zao, Zap, Zaq, Zar, Zas, Zat, Zau, Zav, AV.kill, AO.kill, AV.thaw, AO.thaw, Zaw, Zax, Zay, Zaz, Zba, Zbb, Zbc, Zbd, Zbe, ite_true, ite_false, reduceCtorEq, Nat.reduceAdd, Nat.reduceMul, Nat.reduceLeDiff, Nat.reduceLT, Nat.reduceEqDiff, forall_const, e1, e2, e3, Bool.false_and]
        refine cut_same (by simp only [ZZ, IsnK_some, Za, Zb, Zc, Zd, Ze, Zf, Zg, Zh, rd, AV.un, AV.unA, AV.ad, Zi, Zj, Zk, Zl, Zm, Zn, Zo, Zp, Zq, Zr, Zs, Zt, Zu, Zv, Zw, Zx, Zy, Zz, Zaa, Zab, Zac, Zad, Zae, Zaf, Zag, Zah, Zai, Zaj, Zak, Zal, Zam, Zan, wk1, wk, Zao, Zap, Zaq, Zar, Zas, Zat, Zau, Zav, AV.kill, AO.kill, AV.thaw, AO.thaw, Zaw, Zax, Zay, Zaz, Zba, Zbb, Zbc, Zbd, Zbe, ite_true, ite_false, reduceCtorEq, Nat.reduceAdd, Nat.reduceMul, Nat.reduceLeDiff, Nat.reduceLT, Nat.reduceEqDiff, forall_const]) ?_
        simp only [ZZ, IsnK_some, Za, Zb, Zc, Zd, Ze, Zf, Zg, Zh, rd, AV.un, AV.unA, AV.ad, Zi, Zj, Zk, Zl, Zm, Zn, Zo, Zp, Zq, Zr, Zs, Zt, Zu, Zv, Zw, Zx, Zy, Zz, Zaa, Zab, Zac, Zad, Zae, Zaf, Zag, Zah, Zai, Zaj, Zak, Zal, Zam, Zan, wk1, wk, Zao, Zap, Zaq, Zar, Zas, Zat, Zau, Zav, AV.kill, AO.kill, AV.thaw, AO.thaw, Zaw, Zax, Zay, Zaz, Zba, Zbb, Zbc, Zbd, Zbe, ite_true, ite_false, reduceCtorEq, Nat.reduceAdd, Nat.reduceMul, Nat.reduceLeDiff, Nat.reduceLT, Nat.reduceEqDiff, forall_const, e1, e2, e3, Bool.false_and]
        refine cut_same (by simp only [ZZ, IsnK_some, Za, Zb, Zc, Zd, Ze, Zf, Zg, Zh, rd, AV.un, AV.unA, AV.ad, Zi, Zj, Zk, Zl, Zm, Zn, Zo, Zp, Zq, Zr, Zs, Zt, Zu, Zv, Zw, Zx, Zy, Zz, Zaa, Zab, Zac, Zad, Zae, Zaf, Zag, Zah, Zai, Zaj, Zak, Zal, Zam, Zan, wk1, wk, Zao, Zap, Zaq, Zar, Zas, Zat, Zau, Zav, AV.kill, AO.kill, AV.thaw, AO.thaw, Zaw, Zax, Zay, Zaz, Zba, Zbb, Zbc, Zbd, Zbe, ite_true, ite_false, reduceCtorEq, Nat.reduceAdd, Nat.reduceMul, Nat.reduceLeDiff, Nat.reduceLT, Nat.reduceEqDiff, forall_const]) ?_
        simp only [ZZ, IsnK_some, Za, Zb, Zc, Zd, Ze, Zf, Zg, Zh, rd, AV.un, AV.unA, AV.ad, Zi, Zj, Zk, Zl, Zm, Zn, Zo, Zp, Zq, Zr, Zs, Zt, Zu, Zv, Zw, Zx, Zy, Zz, Zaa, Zab, Zac, Zad, Zae, Zaf, Zag, Zah, Zai, Zaj, Zak, Zal, Zam, Zan, wk1, wk, Zao, Zap, Zaq, Zar, Zas, Zat, Zau, Zav, AV.kill, AO.kill, AV.thaw, AO.thaw, Zaw, Zax, Zay, Zaz, Zba, Zbb, Zbc, Zbd, Zbe, ite_true, ite_false, reduceCtorEq, Nat.reduceAdd, Nat.reduceMul, Nat.reduceLeDiff, Nat.reduceLT, Nat.reduceEqDiff, forall_const]
        ((repeat' (with_reducible apply And.intro)) <;> try ((first | first | assumption | trivial | exact (fun hq => by rw [hq]; rfl) | exact i64_of (by omega) (by omega) | omega | (simp; done) | (simp; omega) | (intro hsc; have hs0 := hsc; (try have hsd := of_decide_eq_true hsc); (try simp only [Bool.not_eq_true', Bool.or_eq_false_iff, Bool.and_eq_true, Bool.or_eq_true, decide_eq_true_eq, decide_eq_false_iff_not] at hsc); (repeat' (with_reducible apply And.intro)) <;> (first | assumption | trivial | exact (fun hq => by rw [hq]; rfl) | exact i64_of (by omega) (by omega) | omega | (simp; done) | (simp; omega) | (intro hse; simp [hse, hs0]; done) | (intro hse; simp only [hse, hs0, Bool.true_and, Bool.and_true, Bool.not_false, Bool.not_true, Bool.and_self]; done))))))
        refine end_round (t.length + 1 - (i + 1)) [.p (.str t), .any, .any, .row (.l 3), .p (int (fromI (some i))), .p (int ((i + 1) : Nat)), .any, .any, .any, .any, .any, .any, .any, .any, .any, .any, .any, .any, .any, .any, .any, .any, .any, .any, .any, .any, .any, .any, .any, .any, .any, .any, .any, .any, .any, .any, .any, .any, .any, .any, .any, .any, .any, .any] [(.l 3, .row (strE l) tStr 1 true)] (by omega) (by (simp only [ZZ, IsnK_some, Za, Zb, Zc, Zd, Ze, Zf, Zg, Zh, rd, AV.un, AV.unA, AV.ad, Zi, Zj, Zk, Zl, Zm, Zn, Zo, Zp, Zq, Zr, Zs, Zt, Zu, Zv, Zw, Zx, Zy, Zz, Zaa, Zab, Zac, Zad, Zae, Zaf, Zag, Zah, Zai, Zaj, Zak, Zal, Zam, Zan, wk1, wk, Zao, Zap, Zaq, Zar, Zas, Zat, Zau, Zav, AV.kill, AO.kill, AV.thaw, AO.thaw, Zaw, Zax, Zay, Zaz, Zba, Zbb, Zbc, Zbd, Zbe, ite_true, ite_false, reduceCtorEq, Nat.reduceAdd, Nat.reduceMul, Nat.reduceLeDiff, Nat.reduceLT, Nat.reduceEqDiff, forall_const]; try trivial)) (by (simp only [ZZ, IsnK_some, Za, Zb, Zc, Zd, Ze, Zf, Zg, Zh, rd, AV.un, AV.unA, AV.ad, Zi, Zj, Zk, Zl, Zm, Zn, Zo, Zp, Zq, Zr, Zs, Zt, Zu, Zv, Zw, Zx, Zy, Zz, Zaa, Zab, Zac, Zad, Zae, Zaf, Zag, Zah, Zai, Zaj, Zak, Zal, Zam, Zan, wk1, wk, Zao, Zap, Zaq, Zar, Zas, Zat, Zau, Zav, AV.kill, AO.kill, AV.thaw, AO.thaw, Zaw, Zax, Zay, Zaz, Zba, Zbb, Zbc, Zbd, Zbe, ite_true, ite_false, reduceCtorEq, Nat.reduceAdd, Nat.reduceMul, Nat.reduceLeDiff, Nat.reduceLT, Nat.reduceEqDiff, forall_const]; try trivial)) ⟨i + 1, some i, l, rfl, by omega, by intro a ha; cases ha; omega, by omega, by rw [← hl, hnx]; rfl, rfl, rfl⟩
      | false =>
        have hnx : Sp.wsp i none (t.drop i) = Sp.wsp (i + 1) none (t.drop (i + 1)) := by
          by_cases hh : i < t.length
          · exact Sp.wsp_non t i hh _ rfl (hout rfl hh)
          · rw [Sp.wsp_out t i (by omega), Sp.wsp_out t (i + 1) (by omega)]
        simp only [ZZ, IsnK_some, Za, Zb, Zc, Zd, Ze, Zf, Zg, Zh, rd, AV.un, AV.unA, AV.ad, Zi, Zj, Zk, Zl, Zm, Zn, Zo, Zp, Zq, Zr, Zs, Zt, Zu, Zv, Zw, Zx, Zy, Zz, Zaa, Zab, Zac, Zad, Zae, Zaf, Zag, Zah, Zai, Zaj, Zak, Zal, Zam, Zan, wk1, wk, Zao, Zap, Zaq, Zar, Zas, Zat, Zau, Zav, AV.kill, AO.kill, AV.thaw, AO.thaw, Zaw, Zax, Zay, Zaz, Zba, Zbb, Zbc, Zbd, Zbe, ite_true, ite_false, reduceCtorEq, Nat.reduceAdd, Nat.reduceMul, Nat.reduceLeDiff, Nat.reduceLT, Nat.reduceEqDiff, forall_const, e1, e2, Bool.false_and]
        refine cut_same (by simp only [ZZ, IsnK_some, Za, Zb, Zc, Zd, Ze, Zf, Zg, Zh, rd, AV.un, AV.unA, AV.ad, Zi, Zj, Zk, Zl, Zm, Zn, Zo, Zp, Zq, Zr, Zs, Zt, Zu, Zv, Zw, Zx, Zy, Zz, Zaa, Zab, Zac, Zad, Zae, Zaf, Zag, Zah, Zai, Zaj, Zak, Zal, Zam, Zan, wk1, wk, Zao, Zap, Zaq, Zar, Zas, Zat, Zau, Zav, AV.kill, AO.kill, AV.thaw, AO.thaw, Zaw, Zax, Zay, Zaz, Zba, Zbb, Zbc, Zbd, Zbe, ite_true, ite_false, reduceCtorEq, Nat.reduceAdd, Nat.reduceMul, Nat.reduceLeDiff, Nat.reduceLT, Nat.reduceEqDiff, forall_const]) ?_
        simp only [ZZ, IsnK_some, Za, Zb, Zc, Zd, Ze, Zf, Zg, Zh, rd, AV.un, AV.unA, AV.ad, Zi, Zj, Zk, Zl, Zm, Zn, Zo, Zp, Zq, Zr, Zs, Zt, Zu, Zv, Zw, Zx, Zy, Zz, Zaa, Zab, Zac, Zad, Zae, Zaf, Zag, Zah, Zai, Zaj, Zak, Zal, Zam, Zan, wk1, wk, Zao, Zap, Zaq, Zar, Zas, Zat, Zau, Zav, AV.kill, AO.kill, AV.thaw, AO.thaw, Zaw, Zax, Zay, Zaz, Zba, Zbb, Zbc, Zbd, Zbe, ite_true, ite_false, reduceCtorEq, Nat.reduceAdd, Nat.reduceMul, Nat.reduceLeDiff, Nat.reduceLT, Nat.reduceEqDiff, forall_const, e1, e2, Bool.false_and]
        refine cut_same (by simp only [ZZ, IsnK_some, Za, Zb, Zc, Zd, Ze, Zf, Zg, Zh, rd, AV.un, AV.unA, AV.ad, Zi, Zj, Zk, Zl, Zm, Zn, Zo, Zp, Zq, Zr, Zs, Zt, Zu, Zv, Zw, Zx, Zy, Zz, Zaa, Zab, Zac, Zad, Zae, Zaf, Zag, Zah, Zai, Zaj, Zak, Zal, Zam, Zan, wk1, wk, Zao, Zap, Zaq, Zar, Zas, Zat, Zau, Zav, AV.kill, AO.kill, AV.thaw, AO.thaw, Zaw, Zax, Zay, Zaz, Zba, Zbb, Zbc, Zbd, Zbe, ite_true, ite_false, reduceCtorEq, Nat.reduceAdd, Nat.reduceMul, Nat.reduceLeDiff, Nat.reduceLT, Nat.reduceEqDiff, forall_const]) ?_
        simp only [ZZ, IsnK_some, Za, Zb, Zc, Zd, Ze, Zf, Zg, Zh, rd, AV.un, AV.unA, AV.ad, Zi, Zj, Zk, Zl, Zm, Zn, Zo, Zp, Zq, Zr, Zs, Zt, Zu, Zv, Zw, Zx, Zy, Zz, Zaa, Zab, Zac, Zad, Zae, Zaf, Zag, Zah, Zai, Zaj, Zak, Zal, Zam, Zan, wk1, wk, Zao, Zap, Zaq, Zar, Zas, Zat, Zau, Zav, AV.kill, AO.kill, AV.thaw, AO.thaw, Zaw, Zax, Zay, Zaz, Zba, Zbb, Zbc, Zbd, Zbe, ite_true, ite_false, reduceCtorEq, Nat.reduceAdd, Nat.reduceMul, Nat.reduceLeDiff, Nat.reduceLT, Nat.reduceEqDiff, forall_const]
        ((repeat' (with_reducible apply And.intro)) <;> try ((first | first | assumption | trivial | exact (fun hq => by rw [hq]; rfl) | exact i64_of (by omega) (by omega) | omega | (simp; done) | (simp; omega) | (intro hsc; have hs0 := hsc; (try have hsd := of_decide_eq_true hsc); (try simp only [Bool.not_eq_true', Bool.or_eq_false_iff, Bool.and_eq_true, Bool.or_eq_true, decide_eq_true_eq, decide_eq_false_iff_not] at hsc); (repeat' (with_reducible apply And.intro)) <;> (first | assumption | trivial | exact (fun hq => by rw [hq]; rfl) | exact i64_of (by omega) (by omega) | omega | (simp; done) | (simp; omega) | (intro hse; simp [hse, hs0]; done) | (intro hse; simp only [hse, hs0, Bool.true_and, Bool.and_true, Bool.not_false, Bool.not_true, Bool.and_self]; done))))))
        refine end_round (t.length + 1 - (i + 1)) [.p (.str t), .any, .any, .row (.l 3), .p (int (fromI (none))), .p (int ((i + 1) : Nat)), .any, .any, .any, .any, .any, .any, .any, .any, .any, .any, .any, .any, .any, .any, .any, .any, .any, .any, .any, .any, .any, .any, .any, .any, .any, .any, .any, .any, .any, .any, .any, .any, .any, .any, .any, .any, .any, .any] [(.l 3, .row (strE l) tStr 1 true)] (by omega) (by (simp only [ZZ, IsnK_some, Za, Zb, Zc, Zd, Ze, Zf, Zg, Zh, rd, AV.un, AV.unA, AV.ad, Zi, Zj, Zk, Zl, Zm, Zn, Zo, Zp, Zq, Zr, Zs, Zt, Zu, Zv, Zw, Zx, Zy, Zz, Zaa, Zab, Zac, Zad, Zae, Zaf, Zag, Zah, Zai, Zaj, Zak, Zal, Zam, Zan, wk1, wk, Zao, Zap, Zaq, Zar, Zas, Zat, Zau, Zav, AV.kill, AO.kill, AV.thaw, AO.thaw, Zaw, Zax, Zay, Zaz, Zba, Zbb, Zbc, Zbd, Zbe, ite_true, ite_false, reduceCtorEq, Nat.reduceAdd, Nat.reduceMul, Nat.reduceLeDiff, Nat.reduceLT, Nat.reduceEqDiff, forall_const]; try trivial)) (by (simp only [ZZ, IsnK_some, Za, Zb, Zc, Zd, Ze, Zf, Zg, Zh, rd, AV.un, AV.unA, AV.ad, Zi, Zj, Zk, Zl, Zm, Zn, Zo, Zp, Zq, Zr, Zs, Zt, Zu, Zv, Zw, Zx, Zy, Zz, Zaa, Zab, Zac, Zad, Zae, Zaf, Zag, Zah, Zai, Zaj, Zak, Zal, Zam, Zan, wk1, wk, Zao, Zap, Zaq, Zar, Zas, Zat, Zau, Zav, AV.kill, AO.kill, AV.thaw, AO.thaw, Zaw, Zax, Zay, Zaz, Zba, Zbb, Zbc, Zbd, Zbe, ite_true, ite_false, reduceCtorEq, Nat.reduceAdd, Nat.reduceMul, Nat.reduceLeDiff, Nat.reduceLT, Nat.reduceEqDiff, forall_const]; try trivial)) ⟨i + 1, none, l, rfl, by omega, by simp, by omega, by rw [← hl, hnx], rfl, rfl⟩
    | some a =>
      obtain ⟨ha1, ha2⟩ := hf a rfl
      have e1 : decide (fromI (some a) < 0) = false := decide_eq_false (by simp only [fromI]; omega)
      have e2 : decide (0 ≤ fromI (some a)) = true := decide_eq_true (by simp only [fromI]; omega)
      cases b with
      | true =>
        obtain ⟨hh, hlet⟩ := hin rfl
        have hnx := Sp.wsp_let t i (some a) hh _ rfl hlet
        simp only [ZZ, IsnK_some, Za, Zb, Zc, Zd, Ze, Zf, Zg, Zh, rd, AV.un, AV.unA, AV.ad, Zi, Zj, Zk, Zl, Zm, Zn, Zo, Zp, Zq, Zr, Zs, Zt, Zu, Zv, Zw, Zx, Zy, Zz, Zaa, Zab, Zac, Zad, Zae, Zaf, Zag, Zah, Zai, Zaj, Zak, Zal, Zam, Zan, wk1, wk, Zao, Zap, Zaq, Zar, Zas, Zat, Zau, Zav, AV.kill, AO.kill, AV.thaw, AO.thaw, Zaw, Zax, Zay, Zaz, Zba, Zbb, Zbc, Zbd, Zbe, ite_true, ite_false, reduceCtorEq, Nat.reduceAdd, Nat.reduceMul, Nat.reduceLeDiff, Nat.reduceLT, Nat.reduceEqDiff, forall_const, e1, e2, Bool.false_and]
        refine cut_same (by simp only [ZZ, IsnK_some, Za, Zb, Zc, Zd, Ze, Zf, Zg, Zh, rd, AV.un, AV.unA, AV.ad, Zi, Zj, Zk, Zl, Zm, Zn, Zo, Zp, Zq, Zr, Zs, Zt, Zu, Zv, Zw, Zx, Zy, Zz, Zaa, Zab, Zac, Zad, Zae, Zaf, Zag, Zah, Zai, Zaj, Zak, Zal, Zam, Zan, wk1, wk, Zao, Zap, Zaq, Zar, Zas, Zat, Zau, Zav, AV.kill, AO.kill, AV.thaw, AO.thaw, Zaw, Zax, Zay, Zaz, Zba, Zbb, Zbc, Zbd, Zbe, ite_true, ite_false, reduceCtorEq, Nat.reduceAdd, Nat.reduceMul, Nat.reduceLeDiff, Nat.reduceLT, Nat.reduceEqDiff, forall_const]) ?_
        simp only [ZZ, IsnK_some, Za, Zb, Zc, Zd, Ze, Zf, Zg, Zh, rd, AV.un, AV.unA, AV.ad, Zi, Zj, Zk, Zl, Zm, Zn, Zo, Zp, Zq, Zr, Zs, Zt, Zu, Zv, Zw, Zx, Zy, Zz, Zaa, Zab, Zac, Zad, Zae, Zaf, Zag, Zah, Zai, Zaj, Zak, Zal, Zam, Zan, wk1, wk, Zao, Zap, Zaq, Zar, Zas, Zat, Zau, Zav, AV.kill, AO.kill, AV.thaw, AO.thaw, Zaw, Zax, Zay, Zaz, Zba, Zbb, Zbc, Zbd, Zbe, ite_true, ite_false, reduceCtorEq, Nat.reduceAdd, Nat.reduceMul, Nat.reduceLeDiff, Nat.reduceLT, Nat.reduceEqDiff, forall_const, e1, e2, Bool.false_and]
        refine cut_same (by simp only [ZZ, IsnK_some, Za, Zb, Zc, Zd, Ze, Zf, Zg, Zh, rd, AV.un, AV.unA, AV.ad, Zi, Zj, Zk, Zl, Zm, Zn, Zo, Zp, Zq, Zr, Zs, Zt, Zu, Zv, Zw, Zx, Zy, Zz, Zaa, Zab, Zac, Zad, Zae, Zaf, Zag, Zah, Zai, Zaj, Zak, Zal, Zam, Zan, wk1, wk, Zao, Zap, Zaq, Zar, Zas, Zat, Zau, Zav, AV.kill, AO.kill, AV.thaw, AO.thaw, Zaw, Zax, Zay, Zaz, Zba, Zbb, Zbc, Zbd, Zbe, ite_true, ite_false, reduceCtorEq, Nat.reduceAdd, Nat.reduceMul, Nat.reduceLeDiff, Nat.reduceLT, Nat.reduceEqDiff, forall_const]) ?_
        simp only [ZZ, IsnK_some, Za, Zb, Zc, Zd, Ze, Zf, Zg, Zh, rd, AV.un, AV.unA, AV.ad, Zi, Zj, Zk, Zl, Zm, Zn, Zo, Zp, Zq, Zr, Zs, Zt, Zu, Zv, Zw, Zx, Zy, Zz, Zaa, Zab, Zac, Zad, Zae, Zaf, Zag, Zah, Zai, Zaj, Zak, Zal, Zam, Zan, wk1, wk, Zao, Zap, Zaq, Zar, Zas, Zat, Zau, Zav, AV.kill, AO.kill, AV.thaw, AO.thaw, Zaw, Zax, Zay, Zaz, Zba, Zbb, Zbc, Zbd, Zbe, ite_true, ite_false, reduceCtorEq, Nat.reduceAdd, Nat.reduceMul, Nat.reduceLeDiff, Nat.reduceLT, Nat.reduceEqDiff, forall_const]
        ((repeat' (with_reducible apply And.intro)) <;> try ((first | first | assumption | trivial | exact (fun hq => by rw [hq]; rfl) | exact i64_of (by omega) (by omega) | omega | (simp; done) | (simp; omega) | (intro hsc; have hs0 := hsc; (try have hsd := of_decide_eq_true hsc); (try simp only [Bool.not_eq_true', Bool.or_eq_false_iff, Bool.and_eq_true, Bool.or_eq_true, decide_eq_true_eq, decide_eq_false_iff_not] at hsc); (repeat' (with_reducible apply And.intro)) <;> (first | assumption | trivial | exact (fun hq => by rw [hq]; rfl) | exact i64_of (by omega) (by omega) | omega | (simp; done) | (simp; omega) | (intro hse; simp [hse, hs0]; done) | (intro hse; simp only [hse, hs0, Bool.true_and, Bool.and_true, Bool.not_false, Bool.not_true, Bool.and_self]; done))))))
        refine end_round (t.length + 1 - (i + 1)) [.p (.str t), .any, .any, .row (.l 3), .p (int (fromI (some a))), .p (int ((i + 1) : Nat)), .any, .any, .any, .any, .any, .any, .any, .any, .any, .any, .any, .any, .any, .any, .any, .any, .any, .any, .any, .any, .any, .any, .any, .any, .any, .any, .any, .any, .any, .any, .any, .any, .any, .any, .any, .any, .any, .any] [(.l 3, .row (strE l) tStr 1 true)] (by omega) (by (simp only [ZZ, IsnK_some, Za, Zb, Zc, Zd, Ze, Zf, Zg, Zh, rd, AV.un, AV.unA, AV.ad, Zi, Zj, Zk, Zl, Zm, Zn, Zo, Zp, Zq, Zr, Zs, Zt, Zu, Zv, Zw, Zx, Zy, Zz, Zaa, Zab, Zac, Zad, Zae, Zaf, Zag, Zah, Zai, Zaj, Zak, Zal, Zam, Zan, wk1, wk, Zao, Zap, Zaq, Zar, Zas, Zat, Zau, Zav, AV.kill, AO.kill, AV.thaw, AO.thaw, Zaw, Zax, Zay, Zaz, Zba, Zbb, Zbc, Zbd, Zbe, ite_true, ite_false, reduceCtorEq, Nat.reduceAdd, Nat.reduceMul, Nat.reduceLeDiff, Nat.reduceLT, Nat.reduceEqDiff, forall_const]; try trivial)) (by (simp only [ZZ, IsnK_some, Za, Zb, Zc, Zd, Ze, Zf, Zg, Zh, rd, AV.un, AV.unA, AV.ad, Zi, Zj, Zk, Zl, Zm, Zn, Zo, Zp, Zq, Zr, Zs, Zt, Zu, Zv, Zw, Zx, Zy, Zz, Zaa, Zab, Zac, Zad, Zae, Zaf, Zag, Zah, Zai, Zaj, Zak, Zal, Zam, Zan, wk1, wk, Zao, Zap, Zaq, Zar, Zas, Zat, Zau, Zav, AV.kill, AO.kill, AV.thaw, AO.thaw, Zaw, Zax, Zay, Zaz, Zba, Zbb, Zbc, Zbd, Zbe, ite_true, ite_false, reduceCtorEq, Nat.reduceAdd, Nat.reduceMul, Nat.reduceLeDiff, Nat.reduceLT, Nat.reduceEqDiff, forall_const]; try trivial)) ⟨i + 1, some a, l, rfl, by omega, by intro q hq; cases hq; omega, by omega, by rw [← hl, hnx]; rfl, rfl, rfl⟩
      | false =>
        have hnx : Sp.wsp i (some a) (t.drop i) = (a, i) :: Sp.wsp (i + 1) none (t.drop (i + 1)) := by
          by_cases hh : i < t.length
          · exact Sp.wsp_end t i a hh _ rfl (hout rfl hh)
          · exact Sp.wsp_fin t i a (by omega)
        simp only [ZZ, IsnK_some, Za, Zb, Zc, Zd, Ze, Zf, Zg, Zh, rd, AV.un, AV.unA, AV.ad, Zi, Zj, Zk, Zl, Zm, Zn, Zo, Zp, Zq, Zr, Zs, Zt, Zu, Zv, Zw, Zx, Zy, Zz, Zaa, Zab, Zac, Zad, Zae, Zaf, Zag, Zah, Zai, Zaj, Zak, Zal, Zam, Zan, wk1, wk, Zao, Zap, Zaq, Zar, Zas, Zat, Zau, Zav, AV.kill, AO.kill, AV.thaw, AO.thaw, Zaw, Zax, Zay, Zaz, Zba, Zbb, Zbc, Zbd, Zbe, ite_true, ite_false, reduceCtorEq, Nat.reduceAdd, Nat.reduceMul, Nat.reduceLeDiff, Nat.reduceLT, Nat.reduceEqDiff, forall_const, e1, e2, Bool.false_and]
        refine cut_same (by simp only [ZZ, IsnK_some, Za, Zb, Zc, Zd, Ze, Zf, Zg, Zh, rd, AV.un, AV.unA, AV.ad, Zi, Zj, Zk, Zl, Zm, Zn, Zo, Zp, Zq, Zr, Zs, Zt, Zu, Zv, Zw, Zx, Zy, Zz, Zaa, Zab, Zac, Zad, Zae, Zaf, Zag, Zah, Zai, Zaj, Zak, Zal, Zam, Zan, wk1, wk, Zao, Zap, Zaq, Zar, Zas, Zat, Zau, Zav, AV.kill, AO.kill, AV.thaw, AO.thaw, Zaw, Zax, Zay, Zaz, Zba, Zbb, Zbc, Zbd, Zbe, ite_true, ite_false, reduceCtorEq, Nat.reduceAdd, Nat.reduceMul, Nat.reduceLeDiff, Nat.reduceLT, Nat.reduceEqDiff, forall_const]) ?_
        have e4 : decide (0 ≤ ((a : Nat) : Int)) = true := by simp
        simp only [ZZ, IsnK_some, Za, Zb, Zc, Zd, Ze, Zf, Zg, Zh, rd, AV.un, AV.unA, AV.ad, Zi, Zj, Zk, Zl, Zm, Zn, Zo, Zp, Zq, Zr, Zs, Zt, Zu, Zv, Zw, Zx, Zy, Zz, Zaa, Zab, Zac, Zad, Zae, Zaf, Zag, Zah, Zai, Zaj, Zak, Zal, Zam, Zan, wk1, wk, Zao, Zap, Zaq, Zar, Zas, Zat, Zau, Zav, AV.kill, AO.kill, AV.thaw, AO.thaw, Zaw, Zax, Zay, Zaz, Zba, Zbb, Zbc, Zbd, Zbe, ite_true, ite_false, reduceCtorEq, Nat.reduceAdd, Nat.reduceMul, Nat.reduceLeDiff, Nat.reduceLT, Nat.reduceEqDiff, forall_const, e1, e2, e4, fromI, Bool.false_and]
        ((repeat' (with_reducible apply And.intro)) <;> try ((first | first | assumption | trivial | exact (fun hq => by rw [hq]; rfl) | exact i64_of (by omega) (by omega) | omega | (simp; done) | (simp; omega) | (intro hsc; have hs0 := hsc; (try have hsd := of_decide_eq_true hsc); (try simp only [Bool.not_eq_true', Bool.or_eq_false_iff, Bool.and_eq_true, Bool.or_eq_true, decide_eq_true_eq, decide_eq_false_iff_not] at hsc); (repeat' (with_reducible apply And.intro)) <;> (first | assumption | trivial | exact (fun hq => by rw [hq]; rfl) | exact i64_of (by omega) (by omega) | omega | (simp; done) | (simp; omega) | (intro hse; simp [hse, hs0]; done) | (intro hse; simp only [hse, hs0, Bool.true_and, Bool.and_true, Bool.not_false, Bool.not_true, Bool.and_self]; done))))))
        refine use1 (Lower_ok (Sp.part t (a, i)) (by have := Sp.part_len t a i; omega)) rfl (.inl rfl) ?_
        simp only [ZZ, IsnK_some, Za, Zb, Zc, Zd, Ze, Zf, Zg, Zh, rd, AV.un, AV.unA, AV.ad, Zi, Zj, Zk, Zl, Zm, Zn, Zo, Zp, Zq, Zr, Zs, Zt, Zu, Zv, Zw, Zx, Zy, Zz, Zaa, Zab, Zac, Zad, Zae, Zaf, Zag, Zah, Zai, Zaj, Zak, Zal, Zam, Zan, wk1, wk, Zao, Zap, Zaq, Zar, Zas, Zat, Zau, Zav, AV.kill, AO.kill, AV.thaw, AO.thaw, Zaw, Zax, Zay, Zaz, Zba, Zbb, Zbc, Zbd, Zbe, ite_true, ite_false, reduceCtorEq, Nat.reduceAdd, Nat.reduceMul, Nat.reduceLeDiff, Nat.reduceLT, Nat.reduceEqDiff, forall_const]
        simp only [strE_len, strE_one, ← strE_app]
        ((repeat' (with_reducible apply And.intro)) <;> try ((first | first | assumption | trivial | exact (fun hq => by rw [hq]; rfl) | exact i64_of (by omega) (by omega) | omega | (simp; done) | (simp; omega) | (intro hsc; have hs0 := hsc; (try have hsd := of_decide_eq_true hsc); (try simp only [Bool.not_eq_true', Bool.or_eq_false_iff, Bool.and_eq_true, Bool.or_eq_true, decide_eq_true_eq, decide_eq_false_iff_not] at hsc); (repeat' (with_reducible apply And.intro)) <;> (first | assumption | trivial | exact (fun hq => by rw [hq]; rfl) | exact i64_of (by omega) (by omega) | omega | (simp; done) | (simp; omega) | (intro hse; simp [hse, hs0]; done) | (intro hse; simp only [hse, hs0, Bool.true_and, Bool.and_true, Bool.not_false, Bool.not_true, Bool.and_self]; done))))))
        refine cut_same (by simp only [ZZ, IsnK_some, Za, Zb, Zc, Zd, Ze, Zf, Zg, Zh, rd, AV.un, AV.unA, AV.ad, Zi, Zj, Zk, Zl, Zm, Zn, Zo, Zp, Zq, Zr, Zs, Zt, Zu, Zv, Zw, Zx, Zy, Zz, Zaa, Zab, Zac, Zad, Zae, Zaf, Zag, Zah, Zai, Zaj, Zak, Zal, Zam, Zan, wk1, wk, Zao, Zap, Zaq, Zar, Zas, Zat, Zau, Zav, AV.kill, AO.kill, AV.thaw, AO.thaw, Zaw, Zax, Zay, Zaz, Zba, Zbb, Zbc, Zbd, Zbe, ite_true, ite_false, reduceCtorEq, Nat.reduceAdd, Nat.reduceMul, Nat.reduceLeDiff, Nat.reduceLT, Nat.reduceEqDiff, forall_const]) ?_
        simp only [ZZ, IsnK_some, Za, Zb, Zc, Zd, Ze, Zf, Zg, Zh, rd, AV.un, AV.unA, AV.ad, Zi, Zj, Zk, Zl, Zm, Zn, Zo, Zp, Zq, Zr, Zs, Zt, Zu, Zv, Zw, Zx, Zy, Zz, Zaa, Zab, Zac, Zad, Zae, Zaf, Zag, Zah, Zai, Zaj, Zak, Zal, Zam, Zan, wk1, wk, Zao, Zap, Zaq, Zar, Zas, Zat, Zau, Zav, AV.kill, AO.kill, AV.thaw, AO.thaw, Zaw, Zax, Zay, Zaz, Zba, Zbb, Zbc, Zbd, Zbe, ite_true, ite_false, reduceCtorEq, Nat.reduceAdd, Nat.reduceMul, Nat.reduceLeDiff, Nat.reduceLT, Nat.reduceEqDiff, forall_const]
        ((repeat' (with_reducible apply And.intro)) <;> try ((first | first | assumption | trivial | exact (fun hq => by rw [hq]; rfl) | exact i64_of (by omega) (by omega) | omega | (simp; done) | (simp; omega) | (intro hsc; have hs0 := hsc; (try have hsd := of_decide_eq_true hsc); (try simp only [Bool.not_eq_true', Bool.or_eq_false_iff, Bool.and_eq_true, Bool.or_eq_true, decide_eq_true_eq, decide_eq_false_iff_not] at hsc); (repeat' (with_reducible apply And.intro)) <;> (first | assumption | trivial | exact (fun hq => by rw [hq]; rfl) | exact i64_of (by omega) (by omega) | omega | (simp; done) | (simp; omega) | (intro hse; simp [hse, hs0]; done) | (intro hse; simp only [hse, hs0, Bool.true_and, Bool.and_true, Bool.not_false, Bool.not_true, Bool.and_self]; done))))))
        refine end_round (t.length + 1 - (i + 1)) [.p (.str t), .any, .any, .row (.l 3), .p (int (fromI (none))), .p (int ((i + 1) : Nat)), .any, .any, .any, .any, .any, .any, .any, .any, .any, .any, .any, .any, .any, .any, .any, .any, .any, .any, .any, .any, .any, .any, .any, .any, .any, .any, .any, .any, .any, .any, .any, .any, .any, .any, .any, .any, .any, .any] [(.l 3, .row (strE (l ++ [lowF (Sp.part t (a, i))])) tStr 1 true)] (by omega) (by (simp only [ZZ, IsnK_some, Za, Zb, Zc, Zd, Ze, Zf, Zg, Zh, rd, AV.un, AV.unA, AV.ad, Zi, Zj, Zk, Zl, Zm, Zn, Zo, Zp, Zq, Zr, Zs, Zt, Zu, Zv, Zw, Zx, Zy, Zz, Zaa, Zab, Zac, Zad, Zae, Zaf, Zag, Zah, Zai, Zaj, Zak, Zal, Zam, Zan, wk1, wk, Zao, Zap, Zaq, Zar, Zas, Zat, Zau, Zav, AV.kill, AO.kill, AV.thaw, AO.thaw, Zaw, Zax, Zay, Zaz, Zba, Zbb, Zbc, Zbd, Zbe, ite_true, ite_false, reduceCtorEq, Nat.reduceAdd, Nat.reduceMul, Nat.reduceLeDiff, Nat.reduceLT, Nat.reduceEqDiff, forall_const]; try trivial)) (by (simp only [ZZ, IsnK_some, Za, Zb, Zc, Zd, Ze, Zf, Zg, Zh, rd, AV.un, AV.unA, AV.ad, Zi, Zj, Zk, Zl, Zm, Zn, Zo, Zp, Zq, Zr, Zs, Zt, Zu, Zv, Zw, Zx, Zy, Zz, Zaa, Zab, Zac, Zad, Zae, Zaf, Zag, Zah, Zai, Zaj, Zak, Zal, Zam, Zan, wk1, wk, Zao, Zap, Zaq, Zar, Zas, Zat, Zau, Zav, AV.kill, AO.kill, AV.thaw, AO.thaw, Zaw, Zax, Zay, Zaz, Zba, Zbb, Zbc, Zbd, Zbe, ite_true, ite_false, reduceCtorEq, Nat.reduceAdd, Nat.reduceMul, Nat.reduceLeDiff, Nat.reduceLT, Nat.reduceEqDiff, forall_const]; try trivial)) ⟨i + 1, none, l ++ [lowF (Sp.part t (a, i))], rfl, by omega, by simp, by rw [List.length_append]; simp; omega, by rw [← hl, hnx]; simp [wordF], rfl, rfl⟩
  · intro h
    have hgt : i = t.length + 1 := by have := of_decide_eq_false h; omega
    have hfn : f = none := by
      cases f with
      | none => rfl
      | some a => have := (hf a rfl).2; omega
    subst hfn
    rw [Sp.wsp_out t i (by omega)] at hl
    simp only [List.map_nil, List.append_nil] at hl
    simp only [ZZ, IsnK_some, Za, Zb, Zc, Zd, Ze, Zf, Zg, Zh, rd, AV.un, AV.unA, AV.ad, Zi, Zj, Zk, Zl, Zm, Zn, Zo, Zp, Zq, Zr, Zs, Zt, Zu, Zv, Zw, Zx, Zy, Zz, Zaa, Zab, Zac, Zad, Zae, Zaf, Zag, Zah, Zai, Zaj, Zak, Zal, Zam, Zan, wk1, wk, Zao, Zap, Zaq, Zar, Zas, Zat, Zau, Zav, AV.kill, AO.kill, AV.thaw, AO.thaw, Zaw, Zax, Zay, Zaz, Zba, Zbb, Zbc, Zbd, Zbe, ite_true, ite_false, reduceCtorEq, Nat.reduceAdd, Nat.reduceMul, Nat.reduceLeDiff, Nat.reduceLT, Nat.reduceEqDiff, forall_const]
    rw [strs_eq, hl]
def sp2 (p : Nat × Nat) : Int × Int := (((p.1 : Nat) : Int), ((p.2 : Nat) : Int))
def spansI (t : List UInt8) : List (Int × Int) := (Sp.spans t).map sp2
theorem wordSpans_ok (t : List UInt8) (ht : t.length ≤ 1000000000) : PCall Tryd.prog E 93 [.str t] (· = sps (spansI t)) := by
  refine pcallF mixed Tryd.func93 ck_chaseref1_wordSpans ?_
  simp only [a0, l0, OS.ao, List.map_cons, List.map_nil, List.length_cons, List.length_nil, List.cons_append, List.nil_append, Nat.reduceSub, Nat.reduceAdd, List.replicate_succ, List.replicate_zero, ir_chaseref1_wordSpans, rs_chaseref1_wordSpans, ZZ, IsnK_some, Za, Zb, Zc, Zd, Ze, Zf, Zg, Zh, rd, AV.un, AV.unA, AV.ad, Zi, Zj, Zk, Zl, Zm, Zn, Zo, Zp, Zq, Zr, Zs, Zt, Zu, Zv, Zw, Zx, Zy, Zz, Zaa, Zab, Zac, Zad, Zae, Zaf, Zag, Zah, Zai, Zaj, Zak, Zal, Zam, Zan, wk1, wk, Zao, Zap, Zaq, Zar, Zas, Zat, Zau, Zav, AV.kill, AO.kill, AV.thaw, AO.thaw, Zaw, Zax, Zay, Zaz, Zba, Zbb, Zbc, Zbd, Zbe, ite_true, ite_false, reduceCtorEq, Nat.reduceAdd, Nat.reduceMul, Nat.reduceLeDiff, Nat.reduceLT, Nat.reduceEqDiff, forall_const]
  refine loop_intro (fun n fr L => ∃ (i : Nat) (l : List (Int × Int)), t.length + 1 - i = n ∧ (i ≤ t.length + 1) ∧ (l.length ≤ i) ∧ (l ++ (Sp.wsp i none (t.drop i)).map sp2 = spansI t) ∧ fr = [.p (.str t), .any, .any, .row (.l 3), .p (int (i : Nat)), .any, .any, .any, .any, .any, .any, .any, .any, .any, .any, .any, .any, .any, .any, .any, .any, .any, .any, .any, .any, .any, .any, .any, .any, .any, .any, .any, .any, .any, .any, .any, .any, .any] ∧ L = [(.l 3, .row (l.map spn) tSpan 2 true)]) (t.length + 1 - 0) [.p (.str t), .any, .any, .row (.l 3), .p (int (0 : Nat)), .any, .any, .any, .any, .any, .any, .any, .any, .any, .any, .any, .any, .any, .any, .any, .any, .any, .any, .any, .any, .any, .any, .any, .any, .any, .any, .any, .any, .any, .any, .any, .any, .any] [(.l 3, .row ([].map spn) tSpan 2 true)] (by (simp only [ZZ, IsnK_some, Za, Zb, Zc, Zd, Ze, Zf, Zg, Zh, rd, AV.un, AV.unA, AV.ad, Zi, Zj, Zk, Zl, Zm, Zn, Zo, Zp, Zq, Zr, Zs, Zt, Zu, Zv, Zw, Zx, Zy, Zz, Zaa, Zab, Zac, Zad, Zae, Zaf, Zag, Zah, Zai, Zaj, Zak, Zal, Zam, Zan, wk1, wk, Zao, Zap, Zaq, Zar, Zas, Zat, Zau, Zav, AV.kill, AO.kill, AV.thaw, AO.thaw, Zaw, Zax, Zay, Zaz, Zba, Zbb, Zbc, Zbd, Zbe, ite_true, ite_false, reduceCtorEq, Nat.reduceAdd, Nat.reduceMul, Nat.reduceLeDiff, Nat.reduceLT, Nat.reduceEqDiff, forall_const]; try trivial)) (by (simp only [ZZ, IsnK_some, Za, Zb, Zc, Zd, Ze, Zf, Zg, Zh, rd, AV.un, AV.unA, AV.ad, Zi, Zj, Zk, Zl, Zm, Zn, Zo, Zp, Zq, Zr, Zs, Zt, Zu, Zv, Zw, Zx, Zy, Zz, Zaa, Zab, Zac, Zad, Zae, Zaf, Zag, Zah, Zai, Zaj, Zak, Zal, Zam, Zan, wk1, wk, Zao, Zap, Zaq, Zar, Zas, Zat, Zau, Zav, AV.kill, AO.kill, AV.thaw, AO.thaw, Zaw, Zax, Zay, Zaz, Zba, Zbb, Zbc, Zbd, Zbe, ite_true, ite_false, reduceCtorEq, Nat.reduceAdd, Nat.reduceMul, Nat.reduceLeDiff, Nat.reduceLT, Nat.reduceEqDiff, forall_const]; try trivial)) ⟨0, [], rfl, by omega, by simp, rfl, rfl, rfl⟩ ?_
  rintro n fr L ⟨i, l, rfl, hi1, hll, hl, rfl, rfl⟩
  simp only [ir_chaseref1_wordSpans_L0, ZZ, IsnK_some, Za, Zb, Zc, Zd, Ze, Zf, Zg, Zh, rd, AV.un, AV.unA, AV.ad, Zi, Zj, Zk, Zl, Zm, Zn, Zo, Zp, Zq, Zr, Zs, Zt, Zu, Zv, Zw, Zx, Zy, Zz, Zaa, Zab, Zac, Zad, Zae, Zaf, Zag, Zah, Zai, Zaj, Zak, Zal, Zam, Zan, wk1, wk, Zao, Zap, Zaq, Zar, Zas, Zat, Zau, Zav, AV.kill, AO.kill, AV.thaw, AO.thaw, Zaw, Zax, Zay, Zaz, Zba, Zbb, Zbc, Zbd, Zbe, ite_true, ite_false, reduceCtorEq, Nat.reduceAdd, Nat.reduceMul, Nat.reduceLeDiff, Nat.reduceLT, Nat.reduceEqDiff, forall_const]
  refine br ?_ ?_
  · intro h
    have hlt : i < t.length := by have := of_decide_eq_true h; omega
    have hgi : t.getD i 0 = t[i] := by simp [List.getD, hlt]
    simp only [ZZ, IsnK_some, Za, Zb, Zc, Zd, Ze, Zf, Zg, Zh, rd, AV.un, AV.unA, AV.ad, Zi, Zj, Zk, Zl, Zm, Zn, Zo, Zp, Zq, Zr, Zs, Zt, Zu, Zv, Zw, Zx, Zy, Zz, Zaa, Zab, Zac, Zad, Zae, Zaf, Zag, Zah, Zai, Zaj, Zak, Zal, Zam, Zan, wk1, wk, Zao, Zap, Zaq, Zar, Zas, Zat, Zau, Zav, AV.kill, AO.kill, AV.thaw, AO.thaw, Zaw, Zax, Zay, Zaz, Zba, Zbb, Zbc, Zbd, Zbe, ite_true, ite_false, reduceCtorEq, Nat.reduceAdd, Nat.reduceMul, Nat.reduceLeDiff, Nat.reduceLT, Nat.reduceEqDiff, forall_const]
    ((repeat' (with_reducible apply And.intro)) <;> try ((first | first | assumption | trivial | exact (fun hq => by rw [hq]; rfl) | exact i64_of (by omega) (by omega) | omega | (simp; done) | (simp; omega) | (intro hsc; have hs0 := hsc; (try have hsd := of_decide_eq_true hsc); (try simp only [Bool.not_eq_true', Bool.or_eq_false_iff, Bool.and_eq_true, Bool.or_eq_true, decide_eq_true_eq, decide_eq_false_iff_not] at hsc); (repeat' (with_reducible apply And.intro)) <;> (first | assumption | trivial | exact (fun hq => by rw [hq]; rfl) | exact i64_of (by omega) (by omega) | omega | (simp; done) | (simp; omega) | (intro hse; simp [hse, hs0]; done) | (intro hse; simp only [hse, hs0, Bool.true_and, Bool.and_true, Bool.not_false, Bool.not_true, Bool.and_self]; done))))))
    refine use1 (wordByte_ok (t.getD i 0)) rfl (.inl rfl) ?_
    rw [hgi]
    simp only [ZZ, IsnK_some, Za, Zb, Zc, Zd, Ze, Zf, Zg, Zh, rd, AV.un, AV.unA, AV.ad, Zi, Zj, Zk, Zl, Zm, Zn, Zo, Zp, Zq, Zr, Zs, Zt, Zu, Zv, Zw, Zx, Zy, Zz, Zaa, Zab, Zac, Zad, Zae, Zaf, Zag, Zah, Zai, Zaj, Zak, Zal, Zam, Zan, wk1, wk, Zao, Zap, Zaq, Zar, Zas, Zat, Zau, Zav, AV.kill, AO.kill, AV.thaw, AO.thaw, Zaw, Zax, Zay, Zaz, Zba, Zbb, Zbc, Zbd, Zbe, ite_true, ite_false, reduceCtorEq, Nat.reduceAdd, Nat.reduceMul, Nat.reduceLeDiff, Nat.reduceLT, Nat.reduceEqDiff, forall_const]
    refine br ?_ ?_
    · intro hb
      have hb : Sp.isLet t[i] = false := by rw [← letB_spec]; simpa using hb
      have hnx := Sp.wsp_non t i hlt _ rfl hb
      simp only [ZZ, IsnK_some, Za, Zb, Zc, Zd, Ze, Zf, Zg, Zh, rd, AV.un, AV.unA, AV.ad, Zi, Zj, Zk, Zl, Zm, Zn, Zo, Zp, Zq, Zr, Zs, Zt, Zu, Zv, Zw, Zx, Zy, Zz, Zaa, Zab, Zac, Zad, Zae, Zaf, Zag, Zah, Zai, Zaj, Zak, Zal, Zam, Zan, wk1, wk, Zao, Zap, Zaq, Zar, Zas, Zat, Zau, Zav, AV.kill, AO.kill, AV.thaw, AO.thaw, Zaw, Zax, Zay, Zaz, Zba, Zbb, Zbc, Zbd, Zbe, ite_true, ite_false, reduceCtorEq, Nat.reduceAdd, Nat.reduceMul, Nat.reduceLeDiff, Nat.reduceLT, Nat.reduceEqDiff, forall_const]
      refine cut_same (by simp only [ZZ, IsnK_some, Za, Zb, Zc, Zd, Ze, Zf, Zg, Zh, rd, AV.un, AV.unA, AV.ad, Zi, Zj, Zk, Zl, Zm, Zn, Zo, Zp, Zq, Zr, Zs, Zt, Zu, Zv, Zw, Zx, Zy, Zz, Zaa, Zab, Zac, Zad, Zae, Zaf, Zag, Zah, Zai, Zaj, Zak, Zal, Zam, Zan, wk1, wk, Zao, Zap, Zaq, Zar, Zas, Zat, Zau, Zav, AV.kill, AO.kill, AV.thaw, AO.thaw, Zaw, Zax, Zay, Zaz, Zba, Zbb, Zbc, Zbd, Zbe, ite_true, ite_false, reduceCtorEq, Nat.reduceAdd, Nat.reduceMul, Nat.reduceLeDiff, Nat.reduceLT, Nat.reduceEqDiff, forall_const]) ?_
      simp only [ZZ, IsnK_some, Za, Zb, Zc, Zd, Ze, Zf, Zg, Zh, rd, AV.un, AV.unA, AV.ad, Zi, Zj, Zk, Zl, Zm, Zn, Zo, Zp, Zq, Zr, Zs, Zt, Zu, Zv, Zw, Zx, Zy, Zz, Zaa, Zab, Zac, Zad, Zae, Zaf, Zag, Zah, Zai, Zaj, Zak, Zal, Zam, Zan, wk1, wk, Zao, Zap, Zaq, Zar, Zas, Zat, Zau, Zav, AV.kill, AO.kill, AV.thaw, AO.thaw, Zaw, Zax, Zay, Zaz, Zba, Zbb, Zbc, Zbd, Zbe, ite_true, ite_false, reduceCtorEq, Nat.reduceAdd, Nat.reduceMul, Nat.reduceLeDiff, Nat.reduceLT, Nat.reduceEqDiff, forall_const]
      ((repeat' (with_reducible apply And.intro)) <;> try ((first | first | assumption | trivial | exact (fun hq => by rw [hq]; rfl) | exact i64_of (by omega) (by omega) | omega | (simp; done) | (simp; omega) | (intro hsc; have hs0 := hsc; (try have hsd := of_decide_eq_true hsc); (try simp only [Bool.not_eq_true', Bool.or_eq_false_iff, Bool.and_eq_true, Bool.or_eq_true, decide_eq_true_eq, decide_eq_false_iff_not] at hsc); (repeat' (with_reducible apply And.intro)) <;> (first | assumption | trivial | exact (fun hq => by rw [hq]; rfl) | exact i64_of (by omega) (by omega) | omega | (simp; done) | (simp; omega) | (intro hse; simp [hse, hs0]; done) | (intro hse; simp only [hse, hs0, Bool.true_and, Bool.and_true, Bool.not_false, Bool.not_true, Bool.and_self]; done))))))
      refine end_round (t.length + 1 - (i + 1)) [.p (.str t), .any, .any, .row (.l 3), .p (int ((i + 1) : Nat)), .any, .any, .any, .any, .any, .any, .any, .any, .any, .any, .any, .any, .any, .any, .any, .any, .any, .any, .any, .any, .any, .any, .any, .any, .any, .any, .any, .any, .any, .any, .any, .any, .any] [(.l 3, .row (l.map spn) tSpan 2 true)] (by omega) (by (simp only [ZZ, IsnK_some, Za, Zb, Zc, Zd, Ze, Zf, Zg, Zh, rd, AV.un, AV.unA, AV.ad, Zi, Zj, Zk, Zl, Zm, Zn, Zo, Zp, Zq, Zr, Zs, Zt, Zu, Zv, Zw, Zx, Zy, Zz, Zaa, Zab, Zac, Zad, Zae, Zaf, Zag, Zah, Zai, Zaj, Zak, Zal, Zam, Zan, wk1, wk, Zao, Zap, Zaq, Zar, Zas, Zat, Zau, Zav, AV.kill, AO.kill, AV.thaw, AO.thaw, Zaw, Zax, Zay, Zaz, Zba, Zbb, Zbc, Zbd, Zbe, ite_true, ite_false, reduceCtorEq, Nat.reduceAdd, Nat.reduceMul, Nat.reduceLeDiff, Nat.reduceLT, Nat.reduceEqDiff, forall_const]; try trivial)) (by (simp only [ZZ, IsnK_some, Za, Zb, Zc, Zd, Ze, Zf, Zg, Zh, rd, AV.un, AV.unA, AV.ad, Zi, Zj, Zk, Zl, Zm, Zn, Zo, Zp, Zq, Zr, Zs, Zt, Zu, Zv, Zw, Zx, Zy, Zz, Zaa, Zab, Zac, Zad, Zae, Zaf, Zag, Zah, Zai, Zaj, Zak, Zal, Zam, Zan, wk1, wk, Zao, Zap, Zaq, Zar, Zas, Zat, Zau, Zav, AV.kill, AO.kill, AV.thaw, AO.thaw, Zaw, Zax, Zay, Zaz, Zba, Zbb, Zbc, Zbd, Zbe, ite_true, ite_false, reduceCtorEq, Nat.reduceAdd, Nat.reduceMul, Nat.reduceLeDiff, Nat.reduceLT, Nat.reduceEqDiff, forall_const]; try trivial)) ⟨i + 1, l, rfl, by omega, by omega, by rw [← hl, hnx], rfl, rfl⟩
    · intro hb
      have hb : Sp.isLet t[i] = true := by rw [← letB_spec]; simpa using hb
      have hnx := Sp.wsp_let t i none hlt _ rfl hb
      simp only [ZZ, IsnK_some, Za, Zb, Zc, Zd, Ze, Zf, Zg, Zh, rd, AV.un, AV.unA, AV.ad, Zi, Zj, Zk, Zl, Zm, Zn, Zo, Zp, Zq, Zr, Zs, Zt, Zu, Zv, Zw, Zx, Zy, Zz, Zaa, Zab, Zac, Zad, Zae, Zaf, Zag, Zah, Zai, Zaj, Zak, Zal, Zam, Zan, wk1, wk, Zao, Zap, Zaq, Zar, Zas, Zat, Zau, Zav, AV.kill, AO.kill, AV.thaw, AO.thaw, Zaw, Zax, Zay, Zaz, Zba, Zbb, Zbc, Zbd, Zbe, ite_true, ite_false, reduceCtorEq, Nat.reduceAdd, Nat.reduceMul, Nat.reduceLeDiff, Nat.reduceLT, Nat.reduceEqDiff, forall_const]
      refine loop_intro (fun n fr L => ∃ (k : Nat), t.length - k = n ∧ (i ≤ k ∧ k ≤ t.length) ∧ (i < k → Sp.wsp i none (t.drop i) = Sp.wsp k (some i) (t.drop k)) ∧ fr = [.p (.str t), .any, .any, .row (.l 3), .p (int (i : Nat)), .p (int (k : Nat)), .any, .any, .any, .any, .any, .any, .any, .any, .any, .any, .any, .any, .any, .any, .any, .any, .any, .any, .any, .any, .any, .any, .any, .any, .any, .any, .any, .any, .any, .any, .any, .any] ∧ L = [(.l 3, .row (l.map spn) tSpan 2 true)]) (t.length - i) [.p (.str t), .any, .any, .row (.l 3), .p (int (i : Nat)), .p (int (i : Nat)), .any, .any, .any, .any, .any, .any, .any, .any, .any, .any, .any, .any, .any, .any, .any, .any, .any, .any, .any, .any, .any, .any, .any, .any, .any, .any, .any, .any, .any, .any, .any, .any] [(.l 3, .row (l.map spn) tSpan 2 true)] (by (simp only [ZZ, IsnK_some, Za, Zb, Zc, Zd, Ze, Zf, Zg, Zh, rd, AV.un, AV.unA, AV.ad, Zi, Zj, Zk, Zl, Zm, Zn, Zo, Zp, Zq, Zr, Zs, Zt, Zu, Zv, Zw, Zx, Zy, Zz, Zaa, Zab, Zac, Zad, Zae, Zaf, Zag, Zah, Zai, Zaj, Zak, Zal, Zam, Zan, wk1, wk, Zao, Zap, Zaq, Zar, Zas, Zat, Zau, Zav, AV.kill, AO.kill, AV.thaw, AO.thaw, Zaw, Zax, Zay, Zaz, Zba, Zbb, Zbc, Zbd, Zbe, ite_true, ite_false, reduceCtorEq, Nat.reduceAdd, Nat.reduceMul, Nat.reduceLeDiff, Nat.reduceLT, Nat.reduceEqDiff, forall_const]; try trivial)) (by (simp only [ZZ, IsnK_some, Za, Zb, Zc, Zd, Ze, Zf, Zg, Zh, rd, AV.un, AV.unA, AV.ad, Zi, Zj, Zk, Zl, Zm, Zn, Zo, Zp, Zq, Zr, Zs, Zt, Zu, Zv, Zw, Zx, Zy, Zz, Zaa, Zab, Zac, Zad, Zae, Zaf, Zag, Zah, Zai, Zaj, Zak, Zal, Zam, Zan, wk1, wk, Zao, Zap, Zaq, Zar, Zas, Zat, Zau, Zav, AV.kill, AO.kill, AV.thaw, AO.thaw, Zaw, Zax, Zay, Zaz, Zba, Zbb, Zbc, Zbd, Zbe, ite_true, ite_false, reduceCtorEq, Nat.reduceAdd, Nat.reduceMul, Nat.reduceLeDiff, Nat.reduceLT, Nat.reduceEqDiff, forall_const]; try trivial)) ⟨i, rfl, by omega, by omega, rfl, rfl⟩ ?_
      rintro n fr L ⟨k, rfl, hk1, hk2, rfl, rfl⟩
      simp only [ir_chaseref1_wordSpans_L1, ZZ, IsnK_some, Za, Zb, Zc, Zd, Ze, Zf, Zg, Zh, rd, AV.un, AV.unA, AV.ad, Zi, Zj, Zk, Zl, Zm, Zn, Zo, Zp, Zq, Zr, Zs, Zt, Zu, Zv, Zw, Zx, Zy, Zz, Zaa, Zab, Zac, Zad, Zae, Zaf, Zag, Zah, Zai, Zaj, Zak, Zal, Zam, Zan, wk1, wk, Zao, Zap, Zaq, Zar, Zas, Zat, Zau, Zav, AV.kill, AO.kill, AV.thaw, AO.thaw, Zaw, Zax, Zay, Zaz, Zba, Zbb, Zbc, Zbd, Zbe, ite_true, ite_false, reduceCtorEq, Nat.reduceAdd, Nat.reduceMul, Nat.reduceLeDiff, Nat.reduceLT, Nat.reduceEqDiff, forall_const]
      ((repeat' (with_reducible apply And.intro)) <;> try ((first | first | assumption | trivial | exact (fun hq => by rw [hq]; rfl) | exact i64_of (by omega) (by omega) | omega | (simp; done) | (simp; omega) | (intro hsc; have hs0 := hsc; (try have hsd := of_decide_eq_true hsc); (try simp only [Bool.not_eq_true', Bool.or_eq_false_iff, Bool.and_eq_true, Bool.or_eq_true, decide_eq_true_eq, decide_eq_false_iff_not] at hsc); (repeat' (with_reducible apply And.intro)) <;> (first | assumption | trivial | exact (fun hq => by rw [hq]; rfl) | exact i64_of (by omega) (by omega) | omega | (simp; done) | (simp; omega) | (intro hse; simp [hse, hs0]; done) | (intro hse; simp only [hse, hs0, Bool.true_and, Bool.and_true, Bool.not_false, Bool.not_true, Bool.and_self]; done))))))
      refine useG (fun _ => wordByte_ok (t.getD k 0)) rfl (.inl rfl) ?_
      simp only [ZZ, IsnK_some, Za, Zb, Zc, Zd, Ze, Zf, Zg, Zh, rd, AV.un, AV.unA, AV.ad, Zi, Zj, Zk, Zl, Zm, Zn, Zo, Zp, Zq, Zr, Zs, Zt, Zu, Zv, Zw, Zx, Zy, Zz, Zaa, Zab, Zac, Zad, Zae, Zaf, Zag, Zah, Zai, Zaj, Zak, Zal, Zam, Zan, wk1, wk, Zao, Zap, Zaq, Zar, Zas, Zat, Zau, Zav, AV.kill, AO.kill, AV.thaw, AO.thaw, Zaw, Zax, Zay, Zaz, Zba, Zbb, Zbc, Zbd, Zbe, ite_true, ite_false, reduceCtorEq, Nat.reduceAdd, Nat.reduceMul, Nat.reduceLeDiff, Nat.reduceLT, Nat.reduceEqDiff, forall_const]
      ((repeat' (with_reducible apply And.intro)) <;> try ((first | first | assumption | trivial | exact (fun hq => by rw [hq]; rfl) | exact i64_of (by omega) (by omega) | omega | (simp; done) | (simp; omega) | (intro hsc; have hs0 := hsc; (try have hsd := of_decide_eq_true hsc); (try simp only [Bool.not_eq_true', Bool.or_eq_false_iff, Bool.and_eq_true, Bool.or_eq_true, decide_eq_true_eq, decide_eq_false_iff_not] at hsc); (repeat' (with_reducible apply And.intro)) <;> (first | assumption | trivial | exact (fun hq => by rw [hq]; rfl) | exact i64_of (by omega) (by omega) | omega | (simp; done) | (simp; omega) | (intro hse; simp [hse, hs0]; done) | (intro hse; simp only [hse, hs0, Bool.true_and, Bool.and_true, Bool.not_false, Bool.not_true, Bool.and_self]; done))))))
      refine br ?_ ?_
      · intro hc
        simp only [Bool.and_eq_true, decide_eq_true_eq] at hc
        have hkl : k < t.length := by omega
        have hlk : Sp.isLet t[k] = true := by
          rw [← letB_spec, ← hc.2]
          simp [List.getD, hkl]
        have hnx3 : Sp.wsp i none (t.drop i) = Sp.wsp (k + 1) (some i) (t.drop (k + 1)) := by
          rcases Nat.lt_or_ge i k with h' | h'
          · rw [hk2 h', Sp.wsp_let t k (some i) hkl _ rfl hlk]
            rfl
          · have e : k = i := by omega
            subst e
            exact hnx
        simp only [ZZ, IsnK_some, Za, Zb, Zc, Zd, Ze, Zf, Zg, Zh, rd, AV.un, AV.unA, AV.ad, Zi, Zj, Zk, Zl, Zm, Zn, Zo, Zp, Zq, Zr, Zs, Zt, Zu, Zv, Zw, Zx, Zy, Zz, Zaa, Zab, Zac, Zad, Zae, Zaf, Zag, Zah, Zai, Zaj, Zak, Zal, Zam, Zan, wk1, wk, Zao, Zap, Zaq, Zar, Zas, Zat, Zau, Zav, AV.kill, AO.kill, AV.thaw, AO.thaw, Zaw, Zax, Zay, Zaz, Zba, Zbb, Zbc, Zbd, Zbe, ite_true, ite_false, reduceCtorEq, Nat.reduceAdd, Nat.reduceMul, Nat.reduceLeDiff, Nat.reduceLT, Nat.reduceEqDiff, forall_const]
        ((repeat' (with_reducible apply And.intro)) <;> try ((first | first | assumption | trivial | exact (fun hq => by rw [hq]; rfl) | exact i64_of (by omega) (by omega) | omega | (simp; done) | (simp; omega) | (intro hsc; have hs0 := hsc; (try have hsd := of_decide_eq_true hsc); (try simp only [Bool.not_eq_true', Bool.or_eq_false_iff, Bool.and_eq_true, Bool.or_eq_true, decide_eq_true_eq, decide_eq_false_iff_not] at hsc); (repeat' (with_reducible apply And.intro)) <;> (first | assumption | trivial | exact (fun hq => by rw [hq]; rfl) | exact i64_of (by omega) (by omega) | omega | (simp; done) | (simp; omega) | (intro hse; simp [hse, hs0]; done) | (intro hse; simp only [hse, hs0, Bool.true_and, Bool.and_true, Bool.not_false, Bool.not_true, Bool.and_self]; done))))))
        refine end_round (t.length - (k + 1)) [.p (.str t), .any, .any, .row (.l 3), .p (int (i : Nat)), .p (int ((k + 1) : Nat)), .any, .any, .any, .any, .any, .any, .any, .any, .any, .any, .any, .any, .any, .any, .any, .any, .any, .any, .any, .any, .any, .any, .any, .any, .any, .any, .any, .any, .any, .any, .any, .any] [(.l 3, .row (l.map spn) tSpan 2 true)] (by omega) (by (simp only [ZZ, IsnK_some, Za, Zb, Zc, Zd, Ze, Zf, Zg, Zh, rd, AV.un, AV.unA, AV.ad, Zi, Zj, Zk, Zl, Zm, Zn, Zo, Zp, Zq, Zr, Zs, Zt, Zu, Zv, Zw, Zx, Zy, Zz, Zaa, Zab, Zac, Zad, Zae, Zaf, Zag, Zah, Zai, Zaj, Zak, Zal, Zam, Zan, wk1, wk, Zao, Zap, Zaq, Zar, Zas, Zat, Zau, Zav, AV.kill, AO.kill, AV.thaw, AO.thaw, Zaw, Zax, Zay, Zaz, Zba, Zbb, Zbc, Zbd, Zbe, ite_true, ite_false, reduceCtorEq, Nat.reduceAdd, Nat.reduceMul, Nat.reduceLeDiff, Nat.reduceLT, Nat.reduceEqDiff, forall_const]; try trivial)) (by (simp only [ZZ, IsnK_some, Za, Zb, Zc, Zd, Ze, Zf, Zg, Zh, rd, AV.un, AV.unA, AV.ad, Zi, Zj, Zk, Zl, Zm, Zn, Zo, Zp, Zq, Zr, Zs, Zt, Zu, Zv, Zw, Zx, Zy, Zz, Zaa, Zab, Zac, Zad, Zae, Zaf, Zag, Zah, Zai, Zaj, Zak, Zal, Zam, Zan, wk1, wk, Zao, Zap, Zaq, Zar, Zas, Zat, Zau, Zav, AV.kill, AO.kill, AV.thaw, AO.thaw, Zaw, Zax, Zay, Zaz, Zba, Zbb, Zbc, Zbd, Zbe, ite_true, ite_false, reduceCtorEq, Nat.reduceAdd, Nat.reduceMul, Nat.reduceLeDiff, Nat.reduceLT, Nat.reduceEqDiff, forall_const]; try trivial)) ⟨k + 1, rfl, by omega, fun _ => hnx3, rfl, rfl⟩
      · intro hc
        have hik : i < k := by
          rcases Nat.lt_or_ge i k with h' | h'
          · exact h'
          · have e : k = i := by omega
            subst e
            rw [show decide ((k : Int) < t.length) = true from by simp [hlt], Bool.true_and, hgi, letB_spec, hb] at hc
            cases hc
        have hnx2 : Sp.wsp k (some i) (t.drop k) = (i, k) :: Sp.wsp (k + 1) none (t.drop (k + 1)) := by
          by_cases hh : k < t.length
          · refine Sp.wsp_end t k i hh _ rfl ?_
            rw [show decide ((k : Int) < t.length) = true from by simp [hh], Bool.true_and, letB_spec] at hc
            rw [← hc]
            simp [List.getD, hh]
          · exact Sp.wsp_fin t k i (by omega)
        simp only [ZZ, IsnK_some, Za, Zb, Zc, Zd, Ze, Zf, Zg, Zh, rd, AV.un, AV.unA, AV.ad, Zi, Zj, Zk, Zl, Zm, Zn, Zo, Zp, Zq, Zr, Zs, Zt, Zu, Zv, Zw, Zx, Zy, Zz, Zaa, Zab, Zac, Zad, Zae, Zaf, Zag, Zah, Zai, Zaj, Zak, Zal, Zam, Zan, wk1, wk, Zao, Zap, Zaq, Zar, Zas, Zat, Zau, Zav, AV.kill, AO.kill, AV.thaw, AO.thaw, Zaw, Zax, Zay, Zaz, Zba, Zbb, Zbc, Zbd, Zbe, ite_true, ite_false, reduceCtorEq, Nat.reduceAdd, Nat.reduceMul, Nat.reduceLeDiff, Nat.reduceLT, Nat.reduceEqDiff, forall_const]
        simp only [List.length_map]
        ((repeat' (with_reducible apply And.intro)) <;> try ((first | first | assumption | trivial | exact (fun hq => by rw [hq]; rfl) | exact i64_of (by omega) (by omega) | omega | (simp; done) | (simp; omega) | (intro hsc; have hs0 := hsc; (try have hsd := of_decide_eq_true hsc); (try simp only [Bool.not_eq_true', Bool.or_eq_false_iff, Bool.and_eq_true, Bool.or_eq_true, decide_eq_true_eq, decide_eq_false_iff_not] at hsc); (repeat' (with_reducible apply And.intro)) <;> (first | assumption | trivial | exact (fun hq => by rw [hq]; rfl) | exact i64_of (by omega) (by omega) | omega | (simp; done) | (simp; omega) | (intro hse; simp [hse, hs0]; done) | (intro hse; simp only [hse, hs0, Bool.true_and, Bool.and_true, Bool.not_false, Bool.not_true, Bool.and_self]; done))))))
        refine cut_same (by simp only [ZZ, IsnK_some, Za, Zb, Zc, Zd, Ze, Zf, Zg, Zh, rd, AV.un, AV.unA, AV.ad, Zi, Zj, Zk, Zl, Zm, Zn, Zo, Zp, Zq, Zr, Zs, Zt, Zu, Zv, Zw, Zx, Zy, Zz, Zaa, Zab, Zac, Zad, Zae, Zaf, Zag, Zah, Zai, Zaj, Zak, Zal, Zam, Zan, wk1, wk, Zao, Zap, Zaq, Zar, Zas, Zat, Zau, Zav, AV.kill, AO.kill, AV.thaw, AO.thaw, Zaw, Zax, Zay, Zaz, Zba, Zbb, Zbc, Zbd, Zbe, ite_true, ite_false, reduceCtorEq, Nat.reduceAdd, Nat.reduceMul, Nat.reduceLeDiff, Nat.reduceLT, Nat.reduceEqDiff, forall_const]) ?_
        simp only [ZZ, IsnK_some, Za, Zb, Zc, Zd, Ze, Zf, Zg, Zh, rd, AV.un, AV.unA, AV.ad, Zi, Zj, Zk, Zl, Zm, Zn, Zo, Zp, Zq, Zr, Zs, Zt, Zu, Zv, Zw, Zx, Zy, Zz, Zaa, Zab, Zac, Zad, Zae, Zaf, Zag, Zah, Zai, Zaj, Zak, Zal, Zam, Zan, wk1, wk, Zao, Zap, Zaq, Zar, Zas, Zat, Zau, Zav, AV.kill, AO.kill, AV.thaw, AO.thaw, Zaw, Zax, Zay, Zaz, Zba, Zbb, Zbc, Zbd, Zbe, ite_true, ite_false, reduceCtorEq, Nat.reduceAdd, Nat.reduceMul, Nat.reduceLeDiff, Nat.reduceLT, Nat.reduceEqDiff, forall_const]
        ((repeat' (with_reducible apply And.intro)) <;> try ((first | first | assumption | trivial | exact (fun hq => by rw [hq]; rfl) | exact i64_of (by omega) (by omega) | omega | (simp; done) | (simp; omega) | (intro hsc; have hs0 := hsc; (try have hsd := of_decide_eq_true hsc); (try simp only [Bool.not_eq_true', Bool.or_eq_false_iff, Bool.and_eq_true, Bool.or_eq_true, decide_eq_true_eq, decide_eq_false_iff_not] at hsc); (repeat' (with_reducible apply And.intro)) <;> (first | assumption | trivial | exact (fun hq => by rw [hq]; rfl) | exact i64_of (by omega) (by omega) | omega | (simp; done) | (simp; omega) | (intro hse; simp [hse, hs0]; done) | (intro hse; simp only [hse, hs0, Bool.true_and, Bool.and_true, Bool.not_false, Bool.not_true, Bool.and_self]; done))))))
        refine end_round (t.length + 1 - (k + 1)) [.p (.str t), .any, .any, .row (.l 3), .p (int ((k + 1) : Nat)), .any, .any, .any, .any, .any, .any, .any, .any, .any, .any, .any, .any, .any, .any, .any, .any, .any, .any, .any, .any, .any, .any, .any, .any, .any, .any, .any, .any, .any, .any, .any, .any, .any] [(.l 3, .row ((l ++ [(((i : Nat) : Int), ((k : Nat) : Int))]).map spn) tSpan 2 true)] (by omega) (by (simp only [ZZ, IsnK_some, Za, Zb, Zc, Zd, Ze, Zf, Zg, Zh, rd, AV.un, AV.unA, AV.ad, Zi, Zj, Zk, Zl, Zm, Zn, Zo, Zp, Zq, Zr, Zs, Zt, Zu, Zv, Zw, Zx, Zy, Zz, Zaa, Zab, Zac, Zad, Zae, Zaf, Zag, Zah, Zai, Zaj, Zak, Zal, Zam, Zan, wk1, wk, Zao, Zap, Zaq, Zar, Zas, Zat, Zau, Zav, AV.kill, AO.kill, AV.thaw, AO.thaw, Zaw, Zax, Zay, Zaz, Zba, Zbb, Zbc, Zbd, Zbe, ite_true, ite_false, reduceCtorEq, Nat.reduceAdd, Nat.reduceMul, Nat.reduceLeDiff, Nat.reduceLT, Nat.reduceEqDiff, forall_const]; try trivial)) (by rw [List.map_append]; simp only [spn, ZZ, IsnK_some, Za, Zb, Zc, Zd, Ze, Zf, Zg, Zh, rd, AV.un, AV.unA, AV.ad, Zi, Zj, Zk, Zl, Zm, Zn, Zo, Zp, Zq, Zr, Zs, Zt, Zu, Zv, Zw, Zx, Zy, Zz, Zaa, Zab, Zac, Zad, Zae, Zaf, Zag, Zah, Zai, Zaj, Zak, Zal, Zam, Zan, wk1, wk, Zao, Zap, Zaq, Zar, Zas, Zat, Zau, Zav, AV.kill, AO.kill, AV.thaw, AO.thaw, Zaw, Zax, Zay, Zaz, Zba, Zbb, Zbc, Zbd, Zbe, ite_true, ite_false, reduceCtorEq, Nat.reduceAdd, Nat.reduceMul, Nat.reduceLeDiff, Nat.reduceLT, Nat.reduceEqDiff, forall_const]) ⟨k + 1, l ++ [(((i : Nat) : Int), ((k : Nat) : Int))], rfl, by omega, by rw [List.length_append]; simp; omega, by rw [← hl, hk2 hik, hnx2]; simp [sp2], rfl, rfl⟩
  · intro h
    have hgt : t.length ≤ i := by have := of_decide_eq_false h; omega
    rw [Sp.wsp_out t i hgt] at hl
    simp only [List.map_nil, List.append_nil] at hl
    simp only [ZZ, IsnK_some, Za, Zb, Zc, Zd, Ze, Zf, Zg, Zh, rd, AV.un, AV.unA, AV.ad, Zi, Zj, Zk, Zl, Zm, Zn, Zo, Zp, Zq, Zr, Zs, Zt, Zu, Zv, Zw, Zx, Zy, Zz, Zaa, Zab, Zac, Zad, Zae, Zaf, Zag, Zah, Zai, Zaj, Zak, Zal, Zam, Zan, wk1, wk, Zao, Zap, Zaq, Zar, Zas, Zat, Zau, Zav, AV.kill, AO.kill, AV.thaw, AO.thaw, Zaw, Zax, Zay, Zaz, Zba, Zbb, Zbc, Zbd, Zbe, ite_true, ite_false, reduceCtorEq, Nat.reduceAdd, Nat.reduceMul, Nat.reduceLeDiff, Nat.reduceLT, Nat.reduceEqDiff, forall_const]
    rw [hl]
    rfl
end
theorem spans_in (t : Sp.Bs) : ∀ (i : Nat) (f : Option Nat), (∀ a, f = some a → a ≤ i) → ∀ p ∈ Sp.wsp i f t, p.1 ≤ p.2 ∧ p.2 ≤ i + t.length := by
  induction t with
  | nil =>
    intro i f hf p hp
    cases f with
    | none => simp [Sp.wsp] at hp
    | some a => simp [Sp.wsp] at hp; subst hp; have := hf a rfl; simp; omega
  | cons c r ih =>
    intro i f hf p hp
    unfold Sp.wsp at hp
    split at hp
    · have := ih (i + 1) _ (by rintro a ⟨⟩; cases f with | none => simp | some b => have := hf b rfl; simp; omega) p hp
      simp; omega
    · cases f with
      | none => have := ih (i + 1) none (by simp) p hp; simp; omega
      | some a =>
        simp at hp
        rcases hp with rfl | hp
        · have := hf a rfl; simp; omega
        · have := ih (i + 1) none (by simp) p hp; simp; omega
theorem spans_bd (t : Sp.Bs) (p : Nat × Nat) (hp : p ∈ Sp.spans t) : p.1 ≤ p.2 ∧ p.2 ≤ t.length := by
  have := spans_in t 0 none (by simp) p hp
  omega

section
variable {E : Envt}
theorem WordsOf_ok (t : List UInt8) (ht : t.length ≤ 1000000000) : PCall Tryd.prog E 43 [.str t] (· = strs (wordsF t)) := by
  refine pcallF mixed Tryd.func43 ck_chaseref1_WordsOf ?_
  simp only [a0, l0, OS.ao, List.map_cons, List.map_nil, List.length_cons, List.length_nil, List.cons_append, List.nil_append, Nat.reduceSub, Nat.reduceAdd, List.replicate_succ, List.replicate_zero, ir_chaseref1_WordsOf, rs_chaseref1_WordsOf, ZZ, IsnK_some, Za, Zb, Zc, Zd, Ze, Zf, Zg, Zh, rd, AV.un, AV.unA, AV.ad, Zi, Zj, Zk, Zl, Zm, Zn, Zo, Zp, Zq, Zr, Zs, Zt, Zu, Zv, Zw, Zx, Zy, Zz, Zaa, Zab, Zac, Zad, Zae, Zaf, Zag, Zah, Zai, Zaj, Zak, Zal, Zam, Zan, wk1, wk, Zao, Zap, Zaq, Zar, Zas, Zat, Zau, Zav, AV.kill, AO.kill, AV.thaw, AO.thaw, Zaw, Zax, Zay, Zaz, Zba, Zbb, Zbc, Zbd, Zbe, ite_true, ite_false, reduceCtorEq, Nat.reduceAdd, Nat.reduceMul, Nat.reduceLeDiff, Nat.reduceLT, Nat.reduceEqDiff, forall_const]
  refine use1 (wordSpans_ok t ht) rfl (.inl rfl) ?_
  simp only [ZZ, IsnK_some, Za, Zb, Zc, Zd, Ze, Zf, Zg, Zh, rd, AV.un, AV.unA, AV.ad, Zi, Zj, Zk, Zl, Zm, Zn, Zo, Zp, Zq, Zr, Zs, Zt, Zu, Zv, Zw, Zx, Zy, Zz, Zaa, Zab, Zac, Zad, Zae, Zaf, Zag, Zah, Zai, Zaj, Zak, Zal, Zam, Zan, wk1, wk, Zao, Zap, Zaq, Zar, Zas, Zat, Zau, Zav, AV.kill, AO.kill, AV.thaw, AO.thaw, Zaw, Zax, Zay, Zaz, Zba, Zbb, Zbc, Zbd, Zbe, ite_true, ite_false, reduceCtorEq, Nat.reduceAdd, Nat.reduceMul, Nat.reduceLeDiff, Nat.reduceLT, Nat.reduceEqDiff, forall_const, sps]
  have hsl := Sp.spans_len t
  have hln : ((spansI t).map spn).length = (Sp.spans t).length := by simp [spansI]
  have hget : ∀ k p, (Sp.spans t)[k]? = some p → ((spansI t).map spn).getD k [] = [int (p.1 : Nat), int (p.2 : Nat)] := fun k p hp => by
    rw [show (spansI t).map spn = (Sp.spans t).map (fun p => [int (p.1 : Nat), int (p.2 : Nat)]) from by simp [spansI, sp2, spn]]
    exact getD_map hp
  generalize (spansI t).map spn = es at hln hget ⊢
  refine loop_intro (fun n fr L => ∃ (k : Nat) (l : List (List UInt8)), k ≤ (Sp.spans t).length ∧ n = (Sp.spans t).length - k ∧ (l = ((Sp.spans t).take k).map (wordF t)) ∧ fr = [.p (.str t), .any, .any, .row (.l 3), .any, .any, .any, .p (.sl 2 es), .p (int ((Sp.spans t).length : Nat)), .p (int (k : Nat)), .any, .any, .any, .any, .any, .any, .any, .any, .any, .any, .any, .any, .any, .any, .any] ∧ L = [(.l 3, .row (strE l) tStr 1 true)]) ((Sp.spans t).length) [.p (.str t), .any, .any, .row (.l 3), .any, .any, .any, .p (.sl 2 es), .p (int ((Sp.spans t).length : Nat)), .p (int (0 : Nat)), .any, .any, .any, .any, .any, .any, .any, .any, .any, .any, .any, .any, .any, .any, .any] [(.l 3, .row (strE []) tStr 1 true)] (by simp only [hln, ZZ, IsnK_some, Za, Zb, Zc, Zd, Ze, Zf, Zg, Zh, rd, AV.un, AV.unA, AV.ad, Zi, Zj, Zk, Zl, Zm, Zn, Zo, Zp, Zq, Zr, Zs, Zt, Zu, Zv, Zw, Zx, Zy, Zz, Zaa, Zab, Zac, Zad, Zae, Zaf, Zag, Zah, Zai, Zaj, Zak, Zal, Zam, Zan, wk1, wk, Zao, Zap, Zaq, Zar, Zas, Zat, Zau, Zav, AV.kill, AO.kill, AV.thaw, AO.thaw, Zaw, Zax, Zay, Zaz, Zba, Zbb, Zbc, Zbd, Zbe, ite_true, ite_false, reduceCtorEq, Nat.reduceAdd, Nat.reduceMul, Nat.reduceLeDiff, Nat.reduceLT, Nat.reduceEqDiff, forall_const]; try trivial) (by (simp only [ZZ, IsnK_some, Za, Zb, Zc, Zd, Ze, Zf, Zg, Zh, rd, AV.un, AV.unA, AV.ad, Zi, Zj, Zk, Zl, Zm, Zn, Zo, Zp, Zq, Zr, Zs, Zt, Zu, Zv, Zw, Zx, Zy, Zz, Zaa, Zab, Zac, Zad, Zae, Zaf, Zag, Zah, Zai, Zaj, Zak, Zal, Zam, Zan, wk1, wk, Zao, Zap, Zaq, Zar, Zas, Zat, Zau, Zav, AV.kill, AO.kill, AV.thaw, AO.thaw, Zaw, Zax, Zay, Zaz, Zba, Zbb, Zbc, Zbd, Zbe, ite_true, ite_false, reduceCtorEq, Nat.reduceAdd, Nat.reduceMul, Nat.reduceLeDiff, Nat.reduceLT, Nat.reduceEqDiff, forall_const]; try trivial)) ⟨0, [], by omega, by omega, by simp, rfl, rfl⟩ ?_
  rintro n fr L ⟨k, l, hk, rfl, hl, rfl, rfl⟩
  simp only [ir_chaseref1_WordsOf_L0, ZZ, IsnK_some, Za, Zb, Zc, Zd, Ze, Zf, Zg, Zh, rd, AV.un, AV.unA, AV.ad, Zi, Zj, Zk, Zl, Zm, Zn, Zo, Zp, Zq, Zr, Zs, Zt, Zu, Zv, Zw, Zx, Zy, Zz, Zaa, Zab, Zac, Zad, Zae, Zaf, Zag, Zah, Zai, Zaj, Zak, Zal, Zam, Zan, wk1, wk, Zao, Zap, Zaq, Zar, Zas, Zat, Zau, Zav, AV.kill, AO.kill, AV.thaw, AO.thaw, Zaw, Zax, Zay, Zaz, Zba, Zbb, Zbc, Zbd, Zbe, ite_true, ite_false, reduceCtorEq, Nat.reduceAdd, Nat.reduceMul, Nat.reduceLeDiff, Nat.reduceLT, Nat.reduceEqDiff, forall_const]
  refine br ?_ ?_
  · intro h
    have hlt : k < (Sp.spans t).length := by have := of_decide_eq_true h; omega
    obtain ⟨p, hp⟩ : ∃ x, (Sp.spans t)[k]? = some x := ⟨_, List.getElem?_eq_getElem hlt⟩
    have hg := hget k p hp
    obtain ⟨hp1, hp2⟩ := spans_bd t p (List.mem_of_getElem? hp)
    have hlk : l.length = k := by rw [hl]; simp; omega
    simp only [ZZ, IsnK_some, Za, Zb, Zc, Zd, Ze, Zf, Zg, Zh, rd, AV.un, AV.unA, AV.ad, Zi, Zj, Zk, Zl, Zm, Zn, Zo, Zp, Zq, Zr, Zs, Zt, Zu, Zv, Zw, Zx, Zy, Zz, Zaa, Zab, Zac, Zad, Zae, Zaf, Zag, Zah, Zai, Zaj, Zak, Zal, Zam, Zan, wk1, wk, Zao, Zap, Zaq, Zar, Zas, Zat, Zau, Zav, AV.kill, AO.kill, AV.thaw, AO.thaw, Zaw, Zax, Zay, Zaz, Zba, Zbb, Zbc, Zbd, Zbe, ite_true, ite_false, reduceCtorEq, Nat.reduceAdd, Nat.reduceMul, Nat.reduceLeDiff, Nat.reduceLT, Nat.reduceEqDiff, forall_const, hg, hln]
    ((repeat' (with_reducible apply And.intro)) <;> try ((first | first | assumption | trivial | exact (fun hq => by rw [hq]; rfl) | exact i64_of (by omega) (by omega) | omega | (simp; done) | (simp; omega) | (intro hsc; have hs0 := hsc; (try have hsd := of_decide_eq_true hsc); (try simp only [Bool.not_eq_true', Bool.or_eq_false_iff, Bool.and_eq_true, Bool.or_eq_true, decide_eq_true_eq, decide_eq_false_iff_not] at hsc); (repeat' (with_reducible apply And.intro)) <;> (first | assumption | trivial | exact (fun hq => by rw [hq]; rfl) | exact i64_of (by omega) (by omega) | omega | (simp; done) | (simp; omega) | (intro hse; simp [hse, hs0]; done) | (intro hse; simp only [hse, hs0, Bool.true_and, Bool.and_true, Bool.not_false, Bool.not_true, Bool.and_self]; done))))))
    refine use1 (lowerR_ok (Sp.part t (p.1, p.2)) (by have := Sp.part_len t p.1 p.2; omega)) rfl (.inl rfl) ?_
    simp only [ZZ, IsnK_some, Za, Zb, Zc, Zd, Ze, Zf, Zg, Zh, rd, AV.un, AV.unA, AV.ad, Zi, Zj, Zk, Zl, Zm, Zn, Zo, Zp, Zq, Zr, Zs, Zt, Zu, Zv, Zw, Zx, Zy, Zz, Zaa, Zab, Zac, Zad, Zae, Zaf, Zag, Zah, Zai, Zaj, Zak, Zal, Zam, Zan, wk1, wk, Zao, Zap, Zaq, Zar, Zas, Zat, Zau, Zav, AV.kill, AO.kill, AV.thaw, AO.thaw, Zaw, Zax, Zay, Zaz, Zba, Zbb, Zbc, Zbd, Zbe, ite_true, ite_false, reduceCtorEq, Nat.reduceAdd, Nat.reduceMul, Nat.reduceLeDiff, Nat.reduceLT, Nat.reduceEqDiff, forall_const]
    simp only [strE_len, strE_one, ← strE_app]
    ((repeat' (with_reducible apply And.intro)) <;> try ((first | first | assumption | trivial | exact (fun hq => by rw [hq]; rfl) | exact i64_of (by omega) (by omega) | omega | (simp; done) | (simp; omega) | (intro hsc; have hs0 := hsc; (try have hsd := of_decide_eq_true hsc); (try simp only [Bool.not_eq_true', Bool.or_eq_false_iff, Bool.and_eq_true, Bool.or_eq_true, decide_eq_true_eq, decide_eq_false_iff_not] at hsc); (repeat' (with_reducible apply And.intro)) <;> (first | assumption | trivial | exact (fun hq => by rw [hq]; rfl) | exact i64_of (by omega) (by omega) | omega | (simp; done) | (simp; omega) | (intro hse; simp [hse, hs0]; done) | (intro hse; simp only [hse, hs0, Bool.true_and, Bool.and_true, Bool.not_false, Bool.not_true, Bool.and_self]; done))))))
    refine end_round ((Sp.spans t).length - (k + 1)) [.p (.str t), .any, .any, .row (.l 3), .any, .any, .any, .p (.sl 2 es), .p (int ((Sp.spans t).length : Nat)), .p (int ((k + 1) : Nat)), .any, .any, .any, .any, .any, .any, .any, .any, .any, .any, .any, .any, .any, .any, .any] [(.l 3, .row (strE (l ++ [lowF (Sp.part t (p.1, p.2))])) tStr 1 true)] (by omega) (by (simp only [ZZ, IsnK_some, Za, Zb, Zc, Zd, Ze, Zf, Zg, Zh, rd, AV.un, AV.unA, AV.ad, Zi, Zj, Zk, Zl, Zm, Zn, Zo, Zp, Zq, Zr, Zs, Zt, Zu, Zv, Zw, Zx, Zy, Zz, Zaa, Zab, Zac, Zad, Zae, Zaf, Zag, Zah, Zai, Zaj, Zak, Zal, Zam, Zan, wk1, wk, Zao, Zap, Zaq, Zar, Zas, Zat, Zau, Zav, AV.kill, AO.kill, AV.thaw, AO.thaw, Zaw, Zax, Zay, Zaz, Zba, Zbb, Zbc, Zbd, Zbe, ite_true, ite_false, reduceCtorEq, Nat.reduceAdd, Nat.reduceMul, Nat.reduceLeDiff, Nat.reduceLT, Nat.reduceEqDiff, forall_const]; try trivial)) (by (simp only [ZZ, IsnK_some, Za, Zb, Zc, Zd, Ze, Zf, Zg, Zh, rd, AV.un, AV.unA, AV.ad, Zi, Zj, Zk, Zl, Zm, Zn, Zo, Zp, Zq, Zr, Zs, Zt, Zu, Zv, Zw, Zx, Zy, Zz, Zaa, Zab, Zac, Zad, Zae, Zaf, Zag, Zah, Zai, Zaj, Zak, Zal, Zam, Zan, wk1, wk, Zao, Zap, Zaq, Zar, Zas, Zat, Zau, Zav, AV.kill, AO.kill, AV.thaw, AO.thaw, Zaw, Zax, Zay, Zaz, Zba, Zbb, Zbc, Zbd, Zbe, ite_true, ite_false, reduceCtorEq, Nat.reduceAdd, Nat.reduceMul, Nat.reduceLeDiff, Nat.reduceLT, Nat.reduceEqDiff, forall_const]; try trivial)) ⟨k + 1, l ++ [lowF (Sp.part t (p.1, p.2))], by omega, rfl, by rw [hl, List.take_succ_eq_append_getElem hlt, (List.getElem?_eq_some_iff.1 hp).2, List.map_append]; rfl, rfl, rfl⟩
  · intro h
    have hge : (Sp.spans t).length ≤ k := by have := of_decide_eq_false h; omega
    rw [List.take_of_length_le hge] at hl
    simp only [ZZ, IsnK_some, Za, Zb, Zc, Zd, Ze, Zf, Zg, Zh, rd, AV.un, AV.unA, AV.ad, Zi, Zj, Zk, Zl, Zm, Zn, Zo, Zp, Zq, Zr, Zs, Zt, Zu, Zv, Zw, Zx, Zy, Zz, Zaa, Zab, Zac, Zad, Zae, Zaf, Zag, Zah, Zai, Zaj, Zak, Zal, Zam, Zan, wk1, wk, Zao, Zap, Zaq, Zar, Zas, Zat, Zau, Zav, AV.kill, AO.kill, AV.thaw, AO.thaw, Zaw, Zax, Zay, Zaz, Zba, Zbb, Zbc, Zbd, Zbe, ite_true, ite_false, reduceCtorEq, Nat.reduceAdd, Nat.reduceMul, Nat.reduceLeDiff, Nat.reduceLT, Nat.reduceEqDiff, forall_const]
    rw [strs_eq, hl]
    rfl
end
end Go.Proofs.YtndjmidmfmcbkaaDoor

/- The body of a mail, as it may be cut or made large. -/
namespace Go.Proofs.YtndjmidmfmcbkaaDoor
set_option linter.unusedVariables false
set_option linter.unusedSimpArgs false
set_option linter.defProp false

/- internal/stringslite.TrimSuffix -/
def ir_internal_stringslite_TrimSuffix : IC :=
  (.seq (.reg [⟨some 4, .mov (.c (.str [])), none⟩])
    (.seq (.seq (.reg [⟨some 5, .mov (.t 0), none⟩,
      ⟨some 6, .mov (.t 1), none⟩,
      ⟨some 7, .call 128 [.t 5, .t 6], none⟩])
    (.cond (.t 7) (.seq (.reg [⟨some 8, .mov (.t 0), none⟩,
      ⟨some 9, .mov (.t 0), none⟩,
      ⟨some 10, .sln (.t 9), none⟩,
      ⟨some 11, .mov (.t 1), none⟩,
      ⟨some 12, .sln (.t 11), none⟩,
      ⟨some 13, .bin .sub (.t 10) (.t 12), none⟩,
      ⟨some 14, .ssl (.t 8) none (some (.t 13)), none⟩,
      ⟨some 4, .mov (.t 14), none⟩])
    .ret) .skip))
    (.seq (.reg [⟨some 15, .mov (.t 0), none⟩,
      ⟨some 4, .mov (.t 15), none⟩])
    .ret)))
def rs_internal_stringslite_TrimSuffix : List IRes := [.t 4]
theorem ck_internal_stringslite_TrimSuffix : chkF Tryd.prog Tryd.f86 ir_internal_stringslite_TrimSuffix rs_internal_stringslite_TrimSuffix 16 = true := by kernel_rfl
/- strings.TrimSuffix -/
def ir_strings_TrimSuffix : IC :=
  (.seq (.reg [⟨some 4, .mov (.c (.str [])), none⟩])
    (.seq (.reg [⟨some 5, .mov (.t 0), none⟩,
      ⟨some 6, .mov (.t 1), none⟩,
      ⟨some 7, .call 86 [.t 5, .t 6], none⟩,
      ⟨some 4, .mov (.t 7), none⟩])
    .ret))
def rs_strings_TrimSuffix : List IRes := [.t 4]
theorem ck_strings_TrimSuffix : chkF Tryd.prog Tryd.f40 ir_strings_TrimSuffix rs_strings_TrimSuffix 8 = true := by kernel_rfl
/- (*paperchase/chasemake.Stream).MailBody -/
def ir_chasemake_Stream_MailBody : IC :=
  (.seq (.reg [⟨some 2, .mov (.c (.str [])), none⟩])
    (.seq (.reg [⟨some 4, .mov (.t 0), none⟩,
      ⟨some 5, .call 38 [.t 4], none⟩,
      ⟨some 3, .mov (.t 5), none⟩])
    (.seq (.seq (.reg [⟨some 6, .mov (.t 0), none⟩,
      ⟨some 7, .call 39 [.t 6, .c (.int .i64 14)], none⟩])
    (.block 0 (.seq (.reg [⟨some 9, .bin .eql (.t 7) (.c (.int .i64 0)), none⟩,
      ⟨some 8, .mov (.t 9), none⟩])
    (.cond (.t 8) (.seq (.reg [⟨some 10, .mov (.t 3), none⟩,
      ⟨some 11, .call 40 [.t 10, .c (.str [10])], none⟩,
      ⟨some 2, .mov (.t 11), none⟩])
    .ret) (.seq (.reg [⟨some 13, .bin .eql (.t 7) (.c (.int .i64 1)), none⟩,
      ⟨some 12, .mov (.t 13), none⟩])
    (.cond (.t 12) (.seq (.reg [⟨some 14, .mov (.t 0), none⟩,
      ⟨some 15, .call 42 [.c (.str [98]), .c (.int .i64 20000)], none⟩,
      ⟨some 16, .bin .add (.t 15) (.c (.str [10])), none⟩,
      ⟨some 17, .bsl 1 [.c (.str [255, 10]), .c (.str [97, 9, 98, 10]), .t 16], none⟩,
      ⟨some 18, .call 41 [.t 14, .t 17], none⟩,
      ⟨some 2, .mov (.t 18), none⟩])
    .ret) .skip))))))
    (.seq (.reg [⟨some 19, .mov (.t 3), none⟩,
      ⟨some 2, .mov (.t 19), none⟩])
    .ret))))
def rs_chasemake_Stream_MailBody : List IRes := [.t 2]
theorem ck_chasemake_Stream_MailBody : chkF Tryd.prog Tryd.f8 ir_chasemake_Stream_MailBody rs_chasemake_Stream_MailBody 20 = true := by kernel_rfl


section
variable {E : Envt}
def trimSufL (s p : List UInt8) : List UInt8 := if sufE s p = true then List.take (s.length - p.length) s else s
theorem trimSufL_len (s p : List UInt8) : (trimSufL s p).length ≤ s.length := by
  unfold trimSufL
  split
  · simp
  · exact Nat.le_refl _
theorem TrimSuffixL_ok (s p : List UInt8) (hs : s.length ≤ 1000000000) (hp : p.length ≤ 1000000000) : PCall Tryd.prog E 86 [.str s, .str p] (· = .str (trimSufL s p)) := by
  refine pcallF mixed Tryd.func86 ck_internal_stringslite_TrimSuffix ?_
  simp only [a0, l0, OS.ao, List.map_cons, List.map_nil, List.length_cons, List.length_nil, List.cons_append, List.nil_append, Nat.reduceSub, Nat.reduceAdd, List.replicate_succ, List.replicate_zero, ir_internal_stringslite_TrimSuffix, rs_internal_stringslite_TrimSuffix, ZZ, IsnK_some, Za, Zb, Zc, Zd, Ze, Zf, Zg, Zh, rd, AV.un, AV.unA, AV.ad, Zi, Zj, Zk, Zl, Zm, Zn, Zo, Zp, Zq, Zr, Zs, Zt, Zu, Zv, Zw, Zx, Zy, Zz, Zaa, Zab, Zac, Zad, Zae, Zaf, Zag, Zah, Zai, Zaj, Zak, Zal, Zam, Zan, wk1, wk, Zao, Zap, Zaq, Zar, Zas, Zat, Zau, Zav, AV.kill, AO.kill, AV.thaw, AO.thaw, Zaw, Zax, Zay, Zaz, Zba, Zbb, Zbc, Zbd, Zbe, ite_true, ite_false, reduceCtorEq, Nat.reduceAdd, Nat.reduceMul, Nat.reduceLeDiff, Nat.reduceLT, Nat.reduceEqDiff, forall_const]
  refine use1 (sHasSuffix_ok s p (by omega)) rfl (.inl rfl) ?_
  simp only [ZZ, IsnK_some, Za, Zb, Zc, Zd, Ze, Zf, Zg, Zh, rd, AV.un, AV.unA, AV.ad, Zi, Zj, Zk, Zl, Zm, Zn, Zo, Zp, Zq, Zr, Zs, Zt, Zu, Zv, Zw, Zx, Zy, Zz, Zaa, Zab, Zac, Zad, Zae, Zaf, Zag, Zah, Zai, Zaj, Zak, Zal, Zam, Zan, wk1, wk, Zao, Zap, Zaq, Zar, Zas, Zat, Zau, Zav, AV.kill, AO.kill, AV.thaw, AO.thaw, Zaw, Zax, Zay, Zaz, Zba, Zbb, Zbc, Zbd, Zbe, ite_true, ite_false, reduceCtorEq, Nat.reduceAdd, Nat.reduceMul, Nat.reduceLeDiff, Nat.reduceLT, Nat.reduceEqDiff, forall_const]
  refine br ?_ ?_
  · intro h
    have hb : p.length ≤ s.length := by
      have := of_decide_eq_true (Bool.and_eq_true_iff.1 h).1
      omega
    have e : ((s.length : Int) - p.length).toNat = s.length - p.length := by omega
    simp only [ZZ, IsnK_some, Za, Zb, Zc, Zd, Ze, Zf, Zg, Zh, rd, AV.un, AV.unA, AV.ad, Zi, Zj, Zk, Zl, Zm, Zn, Zo, Zp, Zq, Zr, Zs, Zt, Zu, Zv, Zw, Zx, Zy, Zz, Zaa, Zab, Zac, Zad, Zae, Zaf, Zag, Zah, Zai, Zaj, Zak, Zal, Zam, Zan, wk1, wk, Zao, Zap, Zaq, Zar, Zas, Zat, Zau, Zav, AV.kill, AO.kill, AV.thaw, AO.thaw, Zaw, Zax, Zay, Zaz, Zba, Zbb, Zbc, Zbd, Zbe, ite_true, ite_false, reduceCtorEq, Nat.reduceAdd, Nat.reduceMul, Nat.reduceLeDiff, Nat.reduceLT, Nat.reduceEqDiff, forall_const, e]
    refine ⟨i64_of (by omega) (by omega), ⟨by omega, by omega⟩, ?_⟩
    rw [trimSufL, if_pos h]
  · intro h
    simp only [ZZ, IsnK_some, Za, Zb, Zc, Zd, Ze, Zf, Zg, Zh, rd, AV.un, AV.unA, AV.ad, Zi, Zj, Zk, Zl, Zm, Zn, Zo, Zp, Zq, Zr, Zs, Zt, Zu, Zv, Zw, Zx, Zy, Zz, Zaa, Zab, Zac, Zad, Zae, Zaf, Zag, Zah, Zai, Zaj, Zak, Zal, Zam, Zan, wk1, wk, Zao, Zap, Zaq, Zar, Zas, Zat, Zau, Zav, AV.kill, AO.kill, AV.thaw, AO.thaw, Zaw, Zax, Zay, Zaz, Zba, Zbb, Zbc, Zbd, Zbe, ite_true, ite_false, reduceCtorEq, Nat.reduceAdd, Nat.reduceMul, Nat.reduceLeDiff, Nat.reduceLT, Nat.reduceEqDiff, forall_const]
    rw [trimSufL, if_neg (by simp [h])]
theorem TrimSuffix_ok (s p : List UInt8) (hs : s.length ≤ 1000000000) (hp : p.length ≤ 1000000000) : PCall Tryd.prog E 40 [.str s, .str p] (· = .str (trimSufL s p)) := by
  refine pcallF mixed Tryd.func40 ck_strings_TrimSuffix ?_
  simp only [a0, l0, OS.ao, List.map_cons, List.map_nil, List.length_cons, List.length_nil, List.cons_append, List.nil_append, Nat.reduceSub, Nat.reduceAdd, List.replicate_succ, List.replicate_zero, ir_strings_TrimSuffix, rs_strings_TrimSuffix, ZZ, IsnK_some, Za, Zb, Zc, Zd, Ze, Zf, Zg, Zh, rd, AV.un, AV.unA, AV.ad, Zi, Zj, Zk, Zl, Zm, Zn, Zo, Zp, Zq, Zr, Zs, Zt, Zu, Zv, Zw, Zx, Zy, Zz, Zaa, Zab, Zac, Zad, Zae, Zaf, Zag, Zah, Zai, Zaj, Zak, Zal, Zam, Zan, wk1, wk, Zao, Zap, Zaq, Zar, Zas, Zat, Zau, Zav, AV.kill, AO.kill, AV.thaw, AO.thaw, Zaw, Zax, Zay, Zaz, Zba, Zbb, Zbc, Zbd, Zbe, ite_true, ite_false, reduceCtorEq, Nat.reduceAdd, Nat.reduceMul, Nat.reduceLeDiff, Nat.reduceLT, Nat.reduceEqDiff, forall_const]
  refine use1 (TrimSuffixL_ok s p hs hp) rfl (.inl rfl) ?_
  simp only [ZZ, IsnK_some, Za, Zb, Zc, Zd, Ze, Zf, Zg, Zh, rd, AV.un, AV.unA, AV.ad, Zi, Zj, Zk, Zl, Zm, Zn, Zo, Zp, Zq, Zr, Zs, Zt, Zu, Zv, Zw, Zx, Zy, Zz, Zaa, Zab, Zac, Zad, Zae, Zaf, Zag, Zah, Zai, Zaj, Zak, Zal, Zam, Zan, wk1, wk, Zao, Zap, Zaq, Zar, Zas, Zat, Zau, Zav, AV.kill, AO.kill, AV.thaw, AO.thaw, Zaw, Zax, Zay, Zaz, Zba, Zbb, Zbc, Zbd, Zbe, ite_true, ite_false, reduceCtorEq, Nat.reduceAdd, Nat.reduceMul, Nat.reduceLeDiff, Nat.reduceLT, Nat.reduceEqDiff, forall_const]
theorem MailBody_ok (l : List Int) (k : Nat) (hk : k ≤ 900000) (hl : l.length ≤ 9223372036854775807) :
    SCall Tryd.prog E 8 T (stm l k) [] (fun x cs' => ∃ s k', x = .str s ∧ s.length ≤ 20001 ∧ cs' = stm l k' ∧ k' ≤ k + 45) := by
  unfold SCall
  refine gcallP mixed Tryd.func8 ck_chasemake_Stream_MailBody ?_
  simp only [a0, l0, OS.ao, List.map_cons, List.map_nil, List.length_cons, List.length_nil, List.cons_append, List.nil_append, Nat.reduceSub, Nat.reduceAdd, List.replicate_succ, List.replicate_zero, ir_chasemake_Stream_MailBody, rs_chasemake_Stream_MailBody, ZZ, IsnK_some, Za, Zb, Zc, Zd, Ze, Zf, Zg, Zh, rd, AV.un, AV.unA, AV.ad, Zi, Zj, Zk, Zl, Zm, Zn, Zo, Zp, Zq, Zr, Zs, Zt, Zu, Zv, Zw, Zx, Zy, Zz, Zaa, Zab, Zac, Zad, Zae, Zaf, Zag, Zah, Zai, Zaj, Zak, Zal, Zam, Zan, wk1, wk, Zao, Zap, Zaq, Zar, Zas, Zat, Zau, Zav, AV.kill, AO.kill, AV.thaw, AO.thaw, Zaw, Zax, Zay, Zaz, Zba, Zbb, Zbc, Zbd, Zbe, ite_true, ite_false, reduceCtorEq, Nat.reduceAdd, Nat.reduceMul, Nat.reduceLeDiff, Nat.reduceLT, Nat.reduceEqDiff, forall_const]
  refine useS (body_ok l k hk hl) rfl rfl rfl (by simp only [ZZ, IsnK_some, Za, Zb, Zc, Zd, Ze, Zf, Zg, Zh, rd, AV.un, AV.unA, AV.ad, Zi, Zj, Zk, Zl, Zm, Zn, Zo, Zp, Zq, Zr, Zs, Zt, Zu, Zv, Zw, Zx, Zy, Zz, Zaa, Zab, Zac, Zad, Zae, Zaf, Zag, Zah, Zai, Zaj, Zak, Zal, Zam, Zan, wk1, wk, Zao, Zap, Zaq, Zar, Zas, Zat, Zau, Zav, AV.kill, AO.kill, AV.thaw, AO.thaw, Zaw, Zax, Zay, Zaz, Zba, Zbb, Zbc, Zbd, Zbe, ite_true, ite_false, reduceCtorEq, Nat.reduceAdd, Nat.reduceMul, Nat.reduceLeDiff, Nat.reduceLT, Nat.reduceEqDiff, forall_const]) ?_
  rintro x cs' ⟨s, k', rfl, hs, rfl, hk'⟩
  simp only [ZZ, IsnK_some, Za, Zb, Zc, Zd, Ze, Zf, Zg, Zh, rd, AV.un, AV.unA, AV.ad, Zi, Zj, Zk, Zl, Zm, Zn, Zo, Zp, Zq, Zr, Zs, Zt, Zu, Zv, Zw, Zx, Zy, Zz, Zaa, Zab, Zac, Zad, Zae, Zaf, Zag, Zah, Zai, Zaj, Zak, Zal, Zam, Zan, wk1, wk, Zao, Zap, Zaq, Zar, Zas, Zat, Zau, Zav, AV.kill, AO.kill, AV.thaw, AO.thaw, Zaw, Zax, Zay, Zaz, Zba, Zbb, Zbc, Zbd, Zbe, ite_true, ite_false, reduceCtorEq, Nat.reduceAdd, Nat.reduceMul, Nat.reduceLeDiff, Nat.reduceLT, Nat.reduceEqDiff, forall_const]
  refine useS (Next_ok l k' 14 (by omega) hl (by decide)) rfl rfl rfl (by simp only [ZZ, IsnK_some, Za, Zb, Zc, Zd, Ze, Zf, Zg, Zh, rd, AV.un, AV.unA, AV.ad, Zi, Zj, Zk, Zl, Zm, Zn, Zo, Zp, Zq, Zr, Zs, Zt, Zu, Zv, Zw, Zx, Zy, Zz, Zaa, Zab, Zac, Zad, Zae, Zaf, Zag, Zah, Zai, Zaj, Zak, Zal, Zam, Zan, wk1, wk, Zao, Zap, Zaq, Zar, Zas, Zat, Zau, Zav, AV.kill, AO.kill, AV.thaw, AO.thaw, Zaw, Zax, Zay, Zaz, Zba, Zbb, Zbc, Zbd, Zbe, ite_true, ite_false, reduceCtorEq, Nat.reduceAdd, Nat.reduceMul, Nat.reduceLeDiff, Nat.reduceLT, Nat.reduceEqDiff, forall_const]) ?_
  rintro x cs' ⟨y, rfl, rfl⟩
  generalize below y 14 = m
  simp only [ZZ, IsnK_some, Za, Zb, Zc, Zd, Ze, Zf, Zg, Zh, rd, AV.un, AV.unA, AV.ad, Zi, Zj, Zk, Zl, Zm, Zn, Zo, Zp, Zq, Zr, Zs, Zt, Zu, Zv, Zw, Zx, Zy, Zz, Zaa, Zab, Zac, Zad, Zae, Zaf, Zag, Zah, Zai, Zaj, Zak, Zal, Zam, Zan, wk1, wk, Zao, Zap, Zaq, Zar, Zas, Zat, Zau, Zav, AV.kill, AO.kill, AV.thaw, AO.thaw, Zaw, Zax, Zay, Zaz, Zba, Zbb, Zbc, Zbd, Zbe, ite_true, ite_false, reduceCtorEq, Nat.reduceAdd, Nat.reduceMul, Nat.reduceLeDiff, Nat.reduceLT, Nat.reduceEqDiff, forall_const]
  refine br ?_ ?_
  · intro _
    simp only [ZZ, IsnK_some, Za, Zb, Zc, Zd, Ze, Zf, Zg, Zh, rd, AV.un, AV.unA, AV.ad, Zi, Zj, Zk, Zl, Zm, Zn, Zo, Zp, Zq, Zr, Zs, Zt, Zu, Zv, Zw, Zx, Zy, Zz, Zaa, Zab, Zac, Zad, Zae, Zaf, Zag, Zah, Zai, Zaj, Zak, Zal, Zam, Zan, wk1, wk, Zao, Zap, Zaq, Zar, Zas, Zat, Zau, Zav, AV.kill, AO.kill, AV.thaw, AO.thaw, Zaw, Zax, Zay, Zaz, Zba, Zbb, Zbc, Zbd, Zbe, ite_true, ite_false, reduceCtorEq, Nat.reduceAdd, Nat.reduceMul, Nat.reduceLeDiff, Nat.reduceLT, Nat.reduceEqDiff, forall_const]
    refine use1 (TrimSuffix_ok s [10] (by omega) (by simp)) rfl (.inl rfl) ?_
    simp only [ZZ, IsnK_some, Za, Zb, Zc, Zd, Ze, Zf, Zg, Zh, rd, AV.un, AV.unA, AV.ad, Zi, Zj, Zk, Zl, Zm, Zn, Zo, Zp, Zq, Zr, Zs, Zt, Zu, Zv, Zw, Zx, Zy, Zz, Zaa, Zab, Zac, Zad, Zae, Zaf, Zag, Zah, Zai, Zaj, Zak, Zal, Zam, Zan, wk1, wk, Zao, Zap, Zaq, Zar, Zas, Zat, Zau, Zav, AV.kill, AO.kill, AV.thaw, AO.thaw, Zaw, Zax, Zay, Zaz, Zba, Zbb, Zbc, Zbd, Zbe, ite_true, ite_false, reduceCtorEq, Nat.reduceAdd, Nat.reduceMul, Nat.reduceLeDiff, Nat.reduceLT, Nat.reduceEqDiff, forall_const]
    have := trimSufL_len s [10]
    exact fin_S (stm l (k' + 1)) rfl ⟨_, _, rfl, by omega, rfl, by omega⟩
  · intro _
    simp only [ZZ, IsnK_some, Za, Zb, Zc, Zd, Ze, Zf, Zg, Zh, rd, AV.un, AV.unA, AV.ad, Zi, Zj, Zk, Zl, Zm, Zn, Zo, Zp, Zq, Zr, Zs, Zt, Zu, Zv, Zw, Zx, Zy, Zz, Zaa, Zab, Zac, Zad, Zae, Zaf, Zag, Zah, Zai, Zaj, Zak, Zal, Zam, Zan, wk1, wk, Zao, Zap, Zaq, Zar, Zas, Zat, Zau, Zav, AV.kill, AO.kill, AV.thaw, AO.thaw, Zaw, Zax, Zay, Zaz, Zba, Zbb, Zbc, Zbd, Zbe, ite_true, ite_false, reduceCtorEq, Nat.reduceAdd, Nat.reduceMul, Nat.reduceLeDiff, Nat.reduceLT, Nat.reduceEqDiff, forall_const]
    refine br ?_ ?_
    · intro _
      simp only [ZZ, IsnK_some, Za, Zb, Zc, Zd, Ze, Zf, Zg, Zh, rd, AV.un, AV.unA, AV.ad, Zi, Zj, Zk, Zl, Zm, Zn, Zo, Zp, Zq, Zr, Zs, Zt, Zu, Zv, Zw, Zx, Zy, Zz, Zaa, Zab, Zac, Zad, Zae, Zaf, Zag, Zah, Zai, Zaj, Zak, Zal, Zam, Zan, wk1, wk, Zao, Zap, Zaq, Zar, Zas, Zat, Zau, Zav, AV.kill, AO.kill, AV.thaw, AO.thaw, Zaw, Zax, Zay, Zaz, Zba, Zbb, Zbc, Zbd, Zbe, ite_true, ite_false, reduceCtorEq, Nat.reduceAdd, Nat.reduceMul, Nat.reduceLeDiff, Nat.reduceLT, Nat.reduceEqDiff, forall_const]
      refine use1 (RepeatG_ok [98] 20000 (by omega) (by simp)) rfl (.inl rfl) ?_
      have hln : (Lib.repeatL [98] 20000).length = 20000 := by rw [Lib.repeatL_length]; rfl
      generalize Lib.repeatL [98] 20000 = big at hln ⊢
      simp only [ZZ, IsnK_some, Za, Zb, Zc, Zd, Ze, Zf, Zg, Zh, rd, AV.un, AV.unA, AV.ad, Zi, Zj, Zk, Zl, Zm, Zn, Zo, Zp, Zq, Zr, Zs, Zt, Zu, Zv, Zw, Zx, Zy, Zz, Zaa, Zab, Zac, Zad, Zae, Zaf, Zag, Zah, Zai, Zaj, Zak, Zal, Zam, Zan, wk1, wk, Zao, Zap, Zaq, Zar, Zas, Zat, Zau, Zav, AV.kill, AO.kill, AV.thaw, AO.thaw, Zaw, Zax, Zay, Zaz, Zba, Zbb, Zbc, Zbd, Zbe, ite_true, ite_false, reduceCtorEq, Nat.reduceAdd, Nat.reduceMul, Nat.reduceLeDiff, Nat.reduceLT, Nat.reduceEqDiff, forall_const]
      refine ⟨by simp [hln], ?_⟩
      refine useS (one_ok l (k' + 1) [[255, 10], [97, 9, 98, 10], big ++ [10]] (by omega) hl (by simp) (by simp)) rfl rfl rfl (by simp only [ZZ, IsnK_some, Za, Zb, Zc, Zd, Ze, Zf, Zg, Zh, rd, AV.un, AV.unA, AV.ad, Zi, Zj, Zk, Zl, Zm, Zn, Zo, Zp, Zq, Zr, Zs, Zt, Zu, Zv, Zw, Zx, Zy, Zz, Zaa, Zab, Zac, Zad, Zae, Zaf, Zag, Zah, Zai, Zaj, Zak, Zal, Zam, Zan, wk1, wk, Zao, Zap, Zaq, Zar, Zas, Zat, Zau, Zav, AV.kill, AO.kill, AV.thaw, AO.thaw, Zaw, Zax, Zay, Zaz, Zba, Zbb, Zbc, Zbd, Zbe, ite_true, ite_false, reduceCtorEq, Nat.reduceAdd, Nat.reduceMul, Nat.reduceLeDiff, Nat.reduceLT, Nat.reduceEqDiff, forall_const]) ?_
      rintro x cs' ⟨u, rfl, hu, rfl⟩
      simp only [ZZ, IsnK_some, Za, Zb, Zc, Zd, Ze, Zf, Zg, Zh, rd, AV.un, AV.unA, AV.ad, Zi, Zj, Zk, Zl, Zm, Zn, Zo, Zp, Zq, Zr, Zs, Zt, Zu, Zv, Zw, Zx, Zy, Zz, Zaa, Zab, Zac, Zad, Zae, Zaf, Zag, Zah, Zai, Zaj, Zak, Zal, Zam, Zan, wk1, wk, Zao, Zap, Zaq, Zar, Zas, Zat, Zau, Zav, AV.kill, AO.kill, AV.thaw, AO.thaw, Zaw, Zax, Zay, Zaz, Zba, Zbb, Zbc, Zbd, Zbe, ite_true, ite_false, reduceCtorEq, Nat.reduceAdd, Nat.reduceMul, Nat.reduceLeDiff, Nat.reduceLT, Nat.reduceEqDiff, forall_const]
      refine fin_S (stm l (k' + 1 + 1)) rfl ⟨u, _, rfl, ?_, rfl, by omega⟩
      simp only [List.mem_cons, List.not_mem_nil, or_false] at hu
      rcases hu with rfl | rfl | rfl <;> simp [hln]
    · intro _
      simp only [ZZ, IsnK_some, Za, Zb, Zc, Zd, Ze, Zf, Zg, Zh, rd, AV.un, AV.unA, AV.ad, Zi, Zj, Zk, Zl, Zm, Zn, Zo, Zp, Zq, Zr, Zs, Zt, Zu, Zv, Zw, Zx, Zy, Zz, Zaa, Zab, Zac, Zad, Zae, Zaf, Zag, Zah, Zai, Zaj, Zak, Zal, Zam, Zan, wk1, wk, Zao, Zap, Zaq, Zar, Zas, Zat, Zau, Zav, AV.kill, AO.kill, AV.thaw, AO.thaw, Zaw, Zax, Zay, Zaz, Zba, Zbb, Zbc, Zbd, Zbe, ite_true, ite_false, reduceCtorEq, Nat.reduceAdd, Nat.reduceMul, Nat.reduceLeDiff, Nat.reduceLT, Nat.reduceEqDiff, forall_const]
      exact fin_S (stm l (k' + 1)) rfl ⟨s, _, rfl, by omega, rfl, by omega⟩
end
end Go.Proofs.YtndjmidmfmcbkaaDoor

/- Terms: their checks, on both sides. -/
namespace Go.Proofs.YtndjmidmfmcbkaaDoor
set_option linter.unusedVariables false
set_option linter.unusedSimpArgs false
set_option linter.defProp false

/- strings.Contains -/
def ir_strings_Contains : IC :=
  (.seq (.reg [⟨some 4, .mov (.c (.bool false)), none⟩])
    (.seq (.reg [⟨some 5, .mov (.t 0), none⟩,
      ⟨some 6, .mov (.t 1), none⟩,
      ⟨some 7, .call 98 [.t 5, .t 6], none⟩,
      ⟨some 8, .bin .geq (.t 7) (.c (.int .i64 0)), none⟩,
      ⟨some 4, .mov (.t 8), none⟩])
    .ret))
def rs_strings_Contains : List IRes := [.t 4]
theorem ck_strings_Contains : chkF Tryd.prog Tryd.f53 ir_strings_Contains rs_strings_Contains 9 = true := by kernel_rfl


section
theorem Contains_ok (s t : List UInt8) (hs : s.length ≤ 1000000000) : PCall Tryd.prog E0 53 [.str s, .str t] (· = .bool (decide (0 ≤ Lib.index s t))) := by
  refine pcallF mixed Tryd.func53 ck_strings_Contains ?_
  simp only [a0, l0, OS.ao, List.map_cons, List.map_nil, List.length_cons, List.length_nil, List.cons_append, List.nil_append, Nat.reduceSub, Nat.reduceAdd, List.replicate_succ, List.replicate_zero, ir_strings_Contains, rs_strings_Contains, ZZ, IsnK_some, Za, Zb, Zc, Zd, Ze, Zf, Zg, Zh, rd, AV.un, AV.unA, AV.ad, Zi, Zj, Zk, Zl, Zm, Zn, Zo, Zp, Zq, Zr, Zs, Zt, Zu, Zv, Zw, Zx, Zy, Zz, Zaa, Zab, Zac, Zad, Zae, Zaf, Zag, Zah, Zai, Zaj, Zak, Zal, Zam, Zan, wk1, wk, Zao, Zap, Zaq, Zar, Zas, Zat, Zau, Zav, AV.kill, AO.kill, AV.thaw, AO.thaw, Zaw, Zax, Zay, Zaz, Zba, Zbb, Zbc, Zbd, Zbe, ite_true, ite_false, reduceCtorEq, Nat.reduceAdd, Nat.reduceMul, Nat.reduceLeDiff, Nat.reduceLT, Nat.reduceEqDiff, forall_const]
  refine use1 (Index_ok s t hs) rfl (.inl rfl) ?_
  simp only [ZZ, IsnK_some, Za, Zb, Zc, Zd, Ze, Zf, Zg, Zh, rd, AV.un, AV.unA, AV.ad, Zi, Zj, Zk, Zl, Zm, Zn, Zo, Zp, Zq, Zr, Zs, Zt, Zu, Zv, Zw, Zx, Zy, Zz, Zaa, Zab, Zac, Zad, Zae, Zaf, Zag, Zah, Zai, Zaj, Zak, Zal, Zam, Zan, wk1, wk, Zao, Zap, Zaq, Zar, Zas, Zat, Zau, Zav, AV.kill, AO.kill, AV.thaw, AO.thaw, Zaw, Zax, Zay, Zaz, Zba, Zbb, Zbc, Zbd, Zbe, ite_true, ite_false, reduceCtorEq, Nat.reduceAdd, Nat.reduceMul, Nat.reduceLeDiff, Nat.reduceLT, Nat.reduceEqDiff, forall_const]
end
end Go.Proofs.YtndjmidmfmcbkaaDoor

/- strings.Builder at this cut, with the exact blocks that change: turned from the library's own walks (Derived/Shelf/Strings: Builder1, Builder2) to this program. -/
namespace Go.Proofs.YtndjmidmfmcbkaaDoor
open Go.RowKit
set_option linter.unusedVariables false
set_option linter.unusedSimpArgs false
set_option linter.defProp false

theorem b_info : (Tryd.prog.info? 5).map (fun i => (i.zero, i.size, i.bytes)) = some (some (.int .u8 0), 1, 1) := by kernel_rfl
theorem b_sizeB : (Tryd.prog.info? 124).map (·.size) = some 2 := by kernel_rfl
theorem b_liesB : liesAt Tryd.prog Tryd.prog.depth 124 (2 / Tryd.prog.cellsOf 124) 0 124 1 = true := by kernel_rfl
theorem b_usNone (W : World) (q : Option Addr) : (Builtin.unsafeString_ #[174, 3] 9 #[.pointer q, .int .i64 0]).run Tryd.prog W = .ok (.string .empty) W := Lib.run_unsafeString_none W _ _ _ q
theorem b_mixed : Tryd.prog.follows .mixedOrders = true := by kernel_rfl
theorem b_cells : Tryd.prog.cellsOf 5 = 1 := by kernel_rfl
theorem b_size : (Tryd.prog.info? 5).map (·.size) = some 1 := by kernel_rfl
abbrev tSb : TypeId := 124
abbrev tU8 : TypeId := 5

set_option maxHeartbeats 1000000 in
set_option maxRecDepth 100000 in
theorem b_ccUsed (b : Nat) (w : World) (h0 : w.cell? ⟨b, 0, none⟩ = some (.pointer (some ⟨b, 0, none⟩))) :
    Calls Tryd.prog 132 #[.pointer (some ⟨b, 0, none⟩)] w fun e w' => e = .returned (.tuple #[]) ∧ w' = w := by
  obtain ⟨j, hj, _⟩ := Option.map_eq_some_iff.1 b_sizeB
  go_enter Tryd.func132, Tryd.ntmps132
  go_wp2
  rw [Lib.run_neq_ptr_same w _ Tryd.underlying121 hj]
  go_wp2
  go_end0
  exact ⟨rfl, rfl⟩

set_option maxHeartbeats 1000000 in
set_option maxRecDepth 100000 in
theorem b_ccFresh (b : Nat) (w : World) (h0 : w.cell? ⟨b, 0, none⟩ = some (.pointer none)) (hsh : w.shape? b = some (124, 2)) (hfz : w.frozen? ⟨b, 0, none⟩ = false) :
    Calls Tryd.prog 132 #[.pointer (some ⟨b, 0, none⟩)] w fun e w' => e = .returned (.tuple #[]) ∧ w' = w.setCell ⟨b, 0, none⟩ (.pointer (some ⟨b, 0, none⟩)) := by
  obtain ⟨j, hj, hjs⟩ := Option.map_eq_some_iff.1 b_sizeB
  go_enter Tryd.func132, Tryd.ntmps132
  go_wp2
  rw [Lib.run_to_unsafe w ⟨b, 0, none⟩ Tryd.underlying121 Tryd.underlying188 hj (by rw [hjs]; decide) hsh (Nat.zero_lt_succ 1)]
  simp only [Result.andThen]
  rw [Oper.upon_value]
  go_wp2
  rw [run_callFunc_extern Tryd.func166 (by kernel_rfl) (by kernel_rfl) (by kernel_rfl) (e := Extern.AbiNoEscape.same) (by kernel_rfl)]
  rw [Lib.run_noEscape]
  simp only [Result.andThen]
  rw [Oper.upon_value]
  go_wp2
  rw [Lib.run_from_unsafe w ⟨b, 0, none⟩ Tryd.underlying188 Tryd.underlying121 hj hsh b_liesB]
  simp only [Result.andThen]
  rw [Oper.upon_value]
  go_wp2
  go_end0
  exact ⟨rfl, rfl⟩

theorem b_cc (b : Nat) (bs : List Value) (w : World) (h : Lib.IsBuilder 124 5 0 b bs w) :
    Calls Tryd.prog 132 #[.pointer (some ⟨b, 0, none⟩)] w fun e w' => e = .returned (.tuple #[]) ∧ CcPost 124 5 b bs w w' := by
  rcases h with h | h
  · refine (b_ccFresh b w h.cell0 h.shape h.frozen0).mono ?_
    rintro e w' ⟨rfl, rfl⟩
    exact ⟨rfl, ccpost_fresh h⟩
  · refine (b_ccUsed b w h.cell0).mono ?_
    rintro e w' ⟨rfl, rfl⟩
    exact ⟨rfl, ccpost_used h⟩

set_option maxHeartbeats 2000000 in
set_option maxRecDepth 100000 in
theorem sb_WriteString (b : Nat) (s t : List UInt8) (w : World) (h : Lib.IsBuilder 124 5 0 b (Lib.byteCells s) w) (hlen : s.length + t.length ≤ 140737488355328) :
    Calls Tryd.prog 90 #[.pointer (some ⟨b, 0, none⟩), .string ⟨t.toArray⟩] w fun e w' => e = .returned (.tuple #[.int .i64 t.length, .nilIface]) ∧ SbPost 124 5 b (s ++ t) w w' := by
  obtain ⟨i0, hi, hz0, hz1, hz2⟩ := info_parts b_info
  have hsz : (⟨t.toArray⟩ : ByteArray).size = t.length := by simp [ByteArray.size]
  have hcl : Lib.strCells ⟨t.toArray⟩ = Lib.byteCells t := by simp [Lib.strCells, Lib.byteCells]
  generalize hst : (⟨t.toArray⟩ : ByteArray) = st at hsz hcl ⊢
  rw [← hsz] at hlen ⊢
  go_enter Tryd.func90, Tryd.ntmps90
  go_wp2_with (go_at_call 132; refine (b_cc b _ _ h).mono ?_)
  rintro e w1 ⟨rfl, v, hbk, hown, hne, hG1, hbf⟩
  rw [Lib.byteCells_length] at hown
  have c0 : w1.cell? ⟨b, 0, none⟩ = some (.pointer (some ⟨b, 0, none⟩)) := by rw [Lib.cell_of_heap hbk]; rfl
  have c1 : w1.cell? ⟨b, 1, none⟩ = some v := by rw [Lib.cell_of_heap hbk]; rfl
  go_wp2_with (at_builtin; refine wpList_app_str rfl _ _ 122 9 rfl 0 5 i0 Tryd.underlying122 Tryd.underlying9 hi hz0 hz1 hz2 _ _ _ rfl hown st rfl (by unfold maxLen; omega) (by omega) (Nat.zero_le _) ?_)
  intro v' w2 hown' hgrow hat
  have hlt := lt_of_heap hbk
  have hb2 : w2.heap[b]? = some (.cells #[.pointer (some ⟨b, 0, none⟩), v] 124 (0, 0)) := by
    rw [hgrow.block b hlt (fun e => hne e.symm)]
    exact hbk
  have d0 : w2.cell? ⟨b, 0, none⟩ = some (.pointer (some ⟨b, 0, none⟩)) := by rw [Lib.cell_of_heap hb2]; rfl
  have d1 : w2.cell? ⟨b, 1, none⟩ = some v := by rw [Lib.cell_of_heap hb2]; rfl
  have f1 : w2.frozen? ⟨b, 1, none⟩ = false := Lib.frozen_of_heap hb2 1
  have hP : SbPost 124 5 b (s ++ t) w (w2.setCell ⟨b, 1, none⟩ v') :=
    sbpost_mk (by decide) hG1 hbf hbk hgrow hne hat (by first | (rw [hcl, hsz] at hown'; simpa [Lib.byteCells] using hown') | simpa [Lib.byteCells] using hown')
  obtain ⟨ao, n', cap, rfl⟩ : ∃ ao n' cap, v' = .slice ao n' cap := by
    rcases hown'.2 with ⟨hv, _⟩ | ⟨g, cap, cur, hv, _⟩
    · exact ⟨_, _, _, hv⟩
    · exact ⟨_, _, _, hv⟩
  go_wp2
  go_ret2
  exact ⟨by first | rfl | (rw [hsz]; rfl), hP⟩

end Go.Proofs.YtndjmidmfmcbkaaDoor

/- strings.Builder at this cut, its string, its length, its growth: turned from the library's own walks (Derived/Shelf/Strings: Builder1, Builder2) to this program. -/
namespace Go.Proofs.YtndjmidmfmcbkaaDoor
open Go.RowKit
set_option linter.unusedVariables false
set_option linter.unusedSimpArgs false
set_option linter.defProp false

set_option maxHeartbeats 1000000 in
set_option maxRecDepth 100000 in
theorem b_String (B b : Nat) (l : List UInt8) (w : World) (h : Lib.IsBuilder 124 5 B b (Lib.byteCells l) w) (h0 : l ≠ []) :
    Calls Tryd.prog 92 #[.pointer (some ⟨b, 0, none⟩)] w fun e w' => e = .returned (.string ⟨l.toArray⟩) ∧ Grow w w' (fun x => x = b ∨ bufOf w 124 b x) := by
  obtain ⟨p, hB, v, hbk, hown, hne⟩ : ∃ p, Lib.BuilderAt 124 5 B b p (Lib.byteCells l) w := by
    rcases h with h | h
    · exact ⟨_, h⟩
    · exact ⟨_, h⟩
  have hl0 : l.length ≠ 0 := by simpa using h0
  rw [Lib.byteCells_length] at hown
  obtain ⟨g, cap, cur, rfl, hbg, hg, hnc, hcm, hcs, htake⟩ : ∃ g cap cur, v = .slice (some ⟨g, 0, none⟩) l.length cap ∧ B ≤ g ∧ w.heap[g]? = some (.cells cur 5 (0, 0)) ∧ l.length ≤ cap ∧ cap ≤ maxLen ∧ cur.size = cap * 1 ∧ cur.toList.take (l.length * 1) = Lib.byteCells l := by
    rcases hown.2 with ⟨_, hz⟩ | ⟨g, cap, cur, hv, r⟩
    · exact absurd hz hl0
    · exact ⟨g, cap, cur, hv, r⟩
  have c1 : w.drew.cell? ⟨b, 1, none⟩ = some (.slice (some ⟨g, 0, none⟩) l.length cap) := by
    have : w.drew.heap[b]? = some (.cells #[p, .slice (some ⟨g, 0, none⟩) l.length cap] 124 (0, 0)) := hbk
    rw [Lib.cell_of_heap this]; rfl
  have hSD : (Builtin.unsafeSliceData_ #[122] 174 #[.slice (some ⟨g, 0, none⟩) l.length cap]).run Tryd.prog w.drew = .ok (.pointer (some ⟨g, 0, none⟩)) w.drew :=
    Lib.run_unsafeSliceData_row _ _ _ _ _ _ (by omega)
  have hUS : (Builtin.unsafeString_ #[174, 3] 9 #[.pointer (some ⟨g, 0, none⟩), .int .i64 l.length]).run Tryd.prog w.drew = .ok (.string ⟨l.toArray⟩) (w.drew.freeze ⟨g, 0, none⟩ l.length) := by
    refine Lib.run_unsafeString_row w.drew 174 3 9 5 Tryd.underlying174 b_cells g cur.size (by have hg' : w.drew.heap[g]? = some (.cells cur 5 (0, 0)) := hg; simp [World.shape?, hg']) l h0 (by omega) (by unfold maxLen at hcm; omega) ?_
    intro j x hx
    have := hown.cells (g := g) rfl j (.int .u8 x.toNat) (by simp [Lib.byteCells, hx])
    exact this
  have mixed := b_mixed
  go_enter Tryd.func92, Tryd.ntmps92
  go_wp2
  go_region_o
  all_goals (go_wp2; go_ret; exact ⟨rfl, grow_freeze (.inr ⟨_, _, hbk, rfl⟩)⟩)

set_option maxHeartbeats 2000000 in
set_option maxRecDepth 100000 in
theorem b_String_nil (B b : Nat) (p : Value) (w : World) (hbk : w.heap[b]? = some (.cells #[p, .slice none 0 0] 124 (0, 0))) :
    Calls Tryd.prog 92 #[.pointer (some ⟨b, 0, none⟩)] w fun e w' => e = .returned (.string ⟨#[]⟩) ∧ Grow w w' (fun x => x = b ∨ bufOf w 124 b x) := by
  have hUS := b_usNone
  have c1 : w.drew.cell? ⟨b, 1, none⟩ = some (.slice none 0 0) := by
    have : w.drew.heap[b]? = some (.cells #[p, .slice none 0 0] 124 (0, 0)) := hbk
    rw [Lib.cell_of_heap this]; rfl
  have hSD : (Builtin.unsafeSliceData_ #[122] 174 #[.slice none 0 0]).run Tryd.prog w.drew = .ok (.pointer none) w.drew := rfl
  have mixed := b_mixed
  go_enter Tryd.func92, Tryd.ntmps92
  go_wp2
  go_region_o
  all_goals (go_wp2; go_ret; exact ⟨rfl, (Grow.refl w _).drew⟩)

set_option maxHeartbeats 2000000 in
set_option maxRecDepth 100000 in
theorem b_String_noroom (B b g : Nat) (p : Value) (cur : Array Value) (w : World) (hBw : B ≤ w.heap.size) (hbk : w.heap[b]? = some (.cells #[p, .slice (some ⟨g, 0, none⟩) 0 0] 124 (0, 0))) (hg : w.heap[g]? = some (.cells cur 5 (0, 0))) :
    Calls Tryd.prog 92 #[.pointer (some ⟨b, 0, none⟩)] w fun e w' => e = .returned (.string ⟨#[]⟩) ∧ Grow w w' (fun x => x = b ∨ bufOf w 124 b x) := by
  have hUS := b_usNone
  have hlt : b < w.heap.size := by
    rcases Nat.lt_or_ge b w.heap.size with h' | h'
    · exact h'
    · simp [Array.getElem?_eq_none h'] at hbk
  have c1 : w.drew.cell? ⟨b, 1, none⟩ = some (.slice (some ⟨g, 0, none⟩) 0 0) := by
    have : w.drew.heap[b]? = some (.cells #[p, .slice (some ⟨g, 0, none⟩) 0 0] 124 (0, 0)) := hbk
    rw [Lib.cell_of_heap this]; rfl
  have hSD : (Builtin.unsafeSliceData_ #[122] 174 #[.slice (some ⟨g, 0, none⟩) 0 0]).run Tryd.prog w.drew = .ok (.pointer (some ⟨w.drew.heap.size, 0, none⟩)) (w.drew.alloc (.view ⟨g, 0, none⟩ 5)) :=
    Lib.run_unsafeSliceData_zero w.drew _ _ 5 Tryd.underlying174 ⟨g, 0, none⟩ 0 (5, cur.size) (by have hg' : w.drew.heap[g]? = some (.cells cur 5 (0, 0)) := hg; simp [World.shape?, hg'])
  have c2 : (w.drew.alloc (.view ⟨g, 0, none⟩ 5)).cell? ⟨b, 1, none⟩ = some (.slice (some ⟨g, 0, none⟩) 0 0) := by
    have : (w.drew.alloc (.view ⟨g, 0, none⟩ 5)).heap[b]? = _ := (Lib.alloc_old w.drew _ b hlt).trans hbk
    rw [Lib.cell_of_heap this]; rfl
  have c3 : (w.alloc (.view ⟨g, 0, none⟩ 5)).drew.cell? ⟨b, 1, none⟩ = some (.slice (some ⟨g, 0, none⟩) 0 0) := c2
  have c0 : w.cell? ⟨b, 1, none⟩ = some (.slice (some ⟨g, 0, none⟩) 0 0) := c1
  have mixed := b_mixed
  go_enter Tryd.func92, Tryd.ntmps92
  go_wp2
  go_region_o
  all_goals (go_wp2; go_ret; exact ⟨rfl, grow_alloc'⟩)

set_option maxHeartbeats 2000000 in
set_option maxRecDepth 100000 in
theorem b_String_room (B b g cap : Nat) (p : Value) (w : World) (hc0 : cap ≠ 0) (hbk : w.heap[b]? = some (.cells #[p, .slice (some ⟨g, 0, none⟩) 0 cap] 124 (0, 0))) :
    Calls Tryd.prog 92 #[.pointer (some ⟨b, 0, none⟩)] w fun e w' => e = .returned (.string ⟨#[]⟩) ∧ Grow w w' (fun x => x = b ∨ bufOf w 124 b x) := by
  have hUS := b_usNone
  have c1 : w.drew.cell? ⟨b, 1, none⟩ = some (.slice (some ⟨g, 0, none⟩) 0 cap) := by
    have : w.drew.heap[b]? = some (.cells #[p, .slice (some ⟨g, 0, none⟩) 0 cap] 124 (0, 0)) := hbk
    rw [Lib.cell_of_heap this]; rfl
  have hSD : (Builtin.unsafeSliceData_ #[122] 174 #[.slice (some ⟨g, 0, none⟩) 0 cap]).run Tryd.prog w.drew = .ok (.pointer (some ⟨g, 0, none⟩)) w.drew :=
    Lib.run_unsafeSliceData_row _ _ _ _ _ _ hc0
  clear hc0
  have mixed := b_mixed
  go_enter Tryd.func92, Tryd.ntmps92
  go_wp2
  go_region_o
  all_goals (go_wp2; go_ret; exact ⟨rfl, (Grow.refl w _).drew⟩)

theorem b_String_empty (B b : Nat) (w : World) (h : Lib.IsBuilder 124 5 B b [] w) (hBw : B ≤ w.heap.size) :
    Calls Tryd.prog 92 #[.pointer (some ⟨b, 0, none⟩)] w fun e w' => e = .returned (.string ⟨#[]⟩) ∧ Grow w w' (fun x => x = b ∨ bufOf w 124 b x) := by
  obtain ⟨p, hB, v, hbk, hown, hne⟩ : ∃ p, Lib.BuilderAt 124 5 B b p [] w := by
    rcases h with h | h
    · exact ⟨_, h⟩
    · exact ⟨_, h⟩
  rcases hown.2 with ⟨rfl, _⟩ | ⟨g, cap, cur, rfl, hbg, hg, _, _, _, _⟩
  · exact b_String_nil B b p w hbk
  · by_cases hc0 : cap = 0
    · subst hc0
      exact b_String_noroom B b g p cur w hBw hbk hg
    · exact b_String_room B b g cap p w hc0 hbk

theorem b_String_any (B b : Nat) (l : List UInt8) (w : World) (h : Lib.IsBuilder 124 5 B b (Lib.byteCells l) w) (hBw : B ≤ w.heap.size) :
    Calls Tryd.prog 92 #[.pointer (some ⟨b, 0, none⟩)] w fun e w' => e = .returned (.string ⟨l.toArray⟩) ∧ Grow w w' (fun x => x = b ∨ bufOf w 124 b x) := by
  cases l with
  | nil => exact b_String_empty B b w h hBw
  | cons x r => exact b_String B b (x :: r) w h (by simp)

set_option maxHeartbeats 2000000 in
set_option maxRecDepth 1000000 in
theorem b_grow_fresh (B b n : Nat) (w : World) (hB : B ≤ b) (hbk : w.heap[b]? = some (.cells #[.pointer (some ⟨b, 0, none⟩), .slice none 0 0] 124 (0, 0))) (hBw : B ≤ w.heap.size) (hn : n ≤ 281474976710656) :
    Calls Tryd.prog 133 #[.pointer (some ⟨b, 0, none⟩), .int .i64 n] w fun e w' => e = .returned (.tuple #[]) ∧ SbPost 124 5 b [] w w' := by
  obtain ⟨cs, hrun, hle, hmax⟩ := Lib.run_makeNoZero (P := Tryd.prog) w.drew #[3] 122 5 Tryd.underlying122 n hn
  have hw : IntKind.i64.wrap (IntKind.i64.wrap 0 + (n : Int)) = n := by
    rw [IntKind.wrap_i64, IntKind.wrap_i64]
    omega
  have hcall : (callFunc 167 #[.int .i64 (IntKind.i64.wrap (IntKind.i64.wrap 0 + (n : Int)))]).run Tryd.prog w.drew = .ok (.value (.slice (some ⟨w.drew.heap.size, 0, none⟩) n cs.size)) (w.drew.drew.drew.alloc (.cells cs 5)) := by
    rw [hw, run_callFunc_extern Tryd.func167 (by kernel_rfl) (by kernel_rfl) (by kernel_rfl) (e := Extern.BytealgMakeNoZero.makeNoZero #[3] #[122]) (by kernel_rfl), hrun]
    rfl
  have c1 : w.drew.cell? ⟨b, 1, none⟩ = some (.slice none 0 0) := by
    have : w.drew.heap[b]? = _ := hbk
    rw [Lib.cell_of_heap this]; rfl
  have c2 : (w.alloc (.cells cs 5)).cell? ⟨b, 1, none⟩ = some (.slice none 0 0) := by
    have hlt : b < w.heap.size := by
      rcases Nat.lt_or_ge b w.heap.size with h' | h'
      · exact h'
      · simp [Array.getElem?_eq_none h'] at hbk
    have : (w.alloc (.cells cs 5)).heap[b]? = _ := (Lib.alloc_old w _ b hlt).trans hbk
    rw [Lib.cell_of_heap this]; rfl
  have f2 : (w.alloc (.cells cs 5)).frozen? ⟨b, 1, none⟩ = false := by
    have hlt : b < w.heap.size := by
      rcases Nat.lt_or_ge b w.heap.size with h' | h'
      · exact h'
      · simp [Array.getElem?_eq_none h'] at hbk
    exact Lib.frozen_of_heap ((Lib.alloc_old w _ b hlt).trans hbk) 1
  have hcopy : ∀ W : World, (Builtin.copy_ #[122, 122] 3 #[.slice (some ⟨w.heap.size, 0, none⟩) 0 cs.size, .slice none 0 0]).run Tryd.prog W = .ok (goInt 0) W :=
    fun W => run_copy_none W 122 122 3 5 _ _ 0 cs.size 0 0 Tryd.underlying122 b_size rfl
  clear hw
  have mixed := b_mixed
  go_enter Tryd.func133, Tryd.ntmps133
  go_wp2
  have hfin := SbPost.of_grown (T := 124) (e := 5) (cs := cs) (by decide) hbk (hmax (by unfold maxLen; omega))
  go_region_o
  all_goals (go_wp2; go_end0; exact ⟨rfl, hfin⟩)

set_option maxHeartbeats 2000000 in
set_option maxRecDepth 1000000 in
theorem b_Grow_fresh (B b n : Nat) (w : World) (hB : B ≤ b) (hbk : w.heap[b]? = some (.cells #[.pointer none, .slice none 0 0] 124 (0, 0))) (hBw : B ≤ w.heap.size) (hn : n ≤ 281474976710656) :
    Calls Tryd.prog 89 #[.pointer (some ⟨b, 0, none⟩), .int .i64 n] w fun e w' => e = .returned (.tuple #[]) ∧ SbPost 124 5 b [] w w' := by
  have hbk1 : (w.setCell ⟨b, 0, none⟩ (.pointer (some ⟨b, 0, none⟩))).heap[b]? = some (.cells #[.pointer (some ⟨b, 0, none⟩), .slice none 0 0] 124 (0, 0)) := by
    simp [World.setCell, Array.getElem?_modify, hbk]
  have c1 : (w.setCell ⟨b, 0, none⟩ (.pointer (some ⟨b, 0, none⟩))).cell? ⟨b, 1, none⟩ = some (.slice none 0 0) := by rw [Lib.cell_of_heap hbk1]; rfl
  have mixed := b_mixed
  go_enter Tryd.func89, Tryd.ntmps89
  have c1' : (w.setCell ⟨b, 0, none⟩ (.pointer (some ⟨b, 0, none⟩))).drew.cell? ⟨b, 1, none⟩ = some (.slice none 0 0) := c1
  go_wp2_with (go_at_call 132; refine (b_ccFresh b w (by rw [Lib.cell_of_heap hbk]; rfl) (by simp [World.shape?, hbk]) (Lib.frozen_of_heap hbk 0)).mono ?_; rintro e w' ⟨rfl, rfl⟩)
  go_region_o
  all_goals go_wp2_with (go_at_call 133; refine (b_grow_fresh B b n (w.setCell ⟨b, 0, none⟩ (.pointer (some ⟨b, 0, none⟩))).drew hB hbk1 (by simpa [World.setCell, World.drew, -World.drew_eq] using hBw) hn).mono ?_; rintro e w' ⟨rfl, h1⟩)
  all_goals first
    | (go_end0; exact ⟨rfl, SbPost.behind hbk h1⟩)
    | (go_end0; exact ⟨rfl, SbPost.of_used hbk⟩)

end Go.Proofs.YtndjmidmfmcbkaaDoor

/- strings.Builder at calls of the layer; strings.Join. -/
namespace Go.Proofs.YtndjmidmfmcbkaaDoor
open Go.RowKit
set_option linter.unusedVariables false
set_option linter.unusedSimpArgs false
set_option linter.defProp false

/- strings.Join -/
def ir_strings_Join_L1 : IC :=
  (.seq (.reg [⟨some 66, .bin .lss (.t 65) (.t 64), none⟩])
    (.seq (.cond (.t 66) .skip (.exit 3))
    (.seq (.block 4 (.seq (.reg [⟨some 67, .ixa 1 (.t 63) (.t 65), none⟩,
      ⟨some 68, .ld 1 false (.t 67), none⟩,
      ⟨some 10, .mov (.t 68), none⟩])
    (.seq (.reg [⟨some 69, .mov (.t 1), none⟩,
      ⟨some 70, .call 90 [.t 8, .t 69], none⟩])
    (.reg [⟨some 71, .mov (.t 10), none⟩,
      ⟨some 72, .call 90 [.t 8, .t 71], none⟩]))))
    (.reg [⟨some 73, .bin .add (.t 65) (.c (.int .i64 1)), none⟩,
      ⟨some 65, .mov (.t 73), none⟩]))))
def ir_strings_Join_L0 : IC :=
  (.seq (.reg [⟨some 42, .bin .lss (.t 41) (.t 40), none⟩])
    (.seq (.cond (.t 42) .skip (.exit 1))
    (.seq (.block 2 (.seq (.reg [⟨some 43, .ixa 1 (.t 39) (.t 41), none⟩,
      ⟨some 44, .ld 1 false (.t 43), none⟩,
      ⟨some 7, .mov (.t 44), none⟩])
    (.seq (.seq (.reg [⟨some 45, .mov (.t 7), none⟩,
      ⟨some 46, .sln (.t 45), none⟩,
      ⟨some 47, .mov (.t 5), none⟩,
      ⟨some 48, .bin .sub (.c (.int .i64 9223372036854775807)) (.t 47), none⟩,
      ⟨some 49, .bin .gtr (.t 46) (.t 48), none⟩])
    (.cond (.t 49) (.reg [⟨some 50, .dead, none⟩,
      ⟨none, .dead, none⟩]) .skip))
    (.cut (.reg [⟨some 51, .mov (.t 5), none⟩,
      ⟨some 52, .mov (.t 7), none⟩,
      ⟨some 53, .sln (.t 52), none⟩,
      ⟨some 54, .bin .add (.t 51) (.t 53), none⟩,
      ⟨some 5, .mov (.t 54), none⟩])))))
    (.reg [⟨some 55, .bin .add (.t 41) (.c (.int .i64 1)), none⟩,
      ⟨some 41, .mov (.t 55), none⟩]))))
def ir_strings_Join : IC :=
  (.seq (.reg [⟨some 4, .mov (.c (.str [])), none⟩])
    (.seq (.seq (.reg [⟨some 11, .mov (.t 0), none⟩,
      ⟨some 12, .len (.t 11), none⟩])
    (.block 0 (.seq (.reg [⟨some 14, .bin .eql (.t 12) (.c (.int .i64 0)), none⟩,
      ⟨some 13, .mov (.t 14), none⟩])
    (.cond (.t 13) (.seq (.reg [⟨some 4, .mov (.c (.str [])), none⟩])
    .ret) (.seq (.reg [⟨some 16, .bin .eql (.t 12) (.c (.int .i64 1)), none⟩,
      ⟨some 15, .mov (.t 16), none⟩])
    (.cond (.t 15) (.seq (.reg [⟨some 17, .mov (.t 0), none⟩,
      ⟨some 18, .ixa 1 (.t 17) (.c (.int .i64 0)), none⟩,
      ⟨some 19, .ld 1 false (.t 18), none⟩,
      ⟨some 4, .mov (.t 19), none⟩])
    .ret) .skip))))))
    (.seq (.reg [⟨some 5, .mov (.c (.int .i64 0)), none⟩])
    (.seq (.seq (.reg [⟨some 20, .mov (.t 1), none⟩,
      ⟨some 21, .sln (.t 20), none⟩,
      ⟨some 22, .bin .gtr (.t 21) (.c (.int .i64 0)), none⟩])
    (.cond (.t 22) (.seq (.seq (.reg [⟨some 23, .mov (.t 1), none⟩,
      ⟨some 24, .sln (.t 23), none⟩,
      ⟨some 25, .mov (.t 0), none⟩,
      ⟨some 26, .len (.t 25), none⟩,
      ⟨some 27, .bin .sub (.t 26) (.c (.int .i64 1)), none⟩,
      ⟨some 28, .bin .quo (.c (.int .i64 9223372036854775807)) (.t 27), none⟩,
      ⟨some 29, .bin .geq (.t 24) (.t 28), none⟩])
    (.cond (.t 29) (.reg [⟨some 30, .dead, none⟩,
      ⟨none, .dead, none⟩]) .skip))
    (.cut (.reg [⟨some 31, .mov (.t 5), none⟩,
      ⟨some 32, .mov (.t 1), none⟩,
      ⟨some 33, .sln (.t 32), none⟩,
      ⟨some 34, .mov (.t 0), none⟩,
      ⟨some 35, .len (.t 34), none⟩,
      ⟨some 36, .bin .sub (.t 35) (.c (.int .i64 1)), none⟩,
      ⟨some 37, .bin .mul (.t 33) (.t 36), none⟩,
      ⟨some 38, .bin .add (.t 31) (.t 37), none⟩,
      ⟨some 5, .mov (.t 38), none⟩]))) .skip))
    (.cut (.seq (.seq (.reg [⟨some 39, .mov (.t 0), none⟩,
      ⟨some 40, .len (.t 39), none⟩,
      ⟨some 41, .mov (.c (.int .i64 0)), none⟩])
    (.block 1 (.loop ir_strings_Join_L0)))
    (.seq (.reg [⟨some 8, .alc 124 [.raw (.pointer none), .nl 1], none⟩])
    (.seq (.reg [⟨some 56, .mov (.t 5), none⟩,
      ⟨some 57, .call 89 [.t 8, .t 56], none⟩])
    (.seq (.reg [⟨some 58, .mov (.t 0), none⟩,
      ⟨some 59, .ixa 1 (.t 58) (.c (.int .i64 0)), none⟩,
      ⟨some 60, .ld 1 false (.t 59), none⟩,
      ⟨some 61, .call 90 [.t 8, .t 60], none⟩])
    (.seq (.seq (.reg [⟨some 62, .mov (.t 0), none⟩,
      ⟨some 63, .vsl 1 (.t 62) (some (.c (.int .i64 1))) none, none⟩,
      ⟨some 64, .len (.t 63), none⟩,
      ⟨some 65, .mov (.c (.int .i64 0)), none⟩])
    (.block 3 (.loop ir_strings_Join_L1)))
    (.seq (.reg [⟨some 74, .call 92 [.t 8], none⟩,
      ⟨some 4, .mov (.t 74), none⟩])
    .ret)))))))))))
def rs_strings_Join : List IRes := [.t 4]
theorem ck_strings_Join : chkF Tryd.prog Tryd.f44 ir_strings_Join rs_strings_Join 75 = true := by kernel_rfl


section
variable {E : Envt} {L : Objs} {k : Key} {i : Nat} {fr : List AV} {d : Option Nat} {is : List IOper} {Y : List PV} {K : List AV → Objs → Prop}
theorem useBS (i : Nat) (s t : List UInt8) (hat : SbAt L k i tSb tU8 s) (hki : k ≠ .l i) (hlen : s.length + t.length ≤ 140737488355328)
    (hk : awpOps Tryd.prog E Y is (Zf (fr.map (·.kill (.l i))) d (.p (.tup [int (t.length : Nat), .raw .nilIface]))) (putSb L k i tSb tU8 (s ++ t)) K) : CallOp Tryd.prog E 90 [.adr k 0, .p (.str t)] L d fr (contO Tryd.prog E Y is K) :=
  useW (vr := [.string ⟨t.toArray⟩]) (x := .tup [int (t.length : Nat), .raw .nilIface]) (v := .tuple #[.int .i64 t.length, .nilIface]) i tSb tU8 s (s ++ t) hat hki (fun w U ι vs h => by obtain ⟨v, r, rfl, h1, h2⟩ := h; simp only [ARep, PRep, ARepL] at h1 h2; rw [h1, h2]) (fun w U => ⟨[_, _], rfl, _, _, rfl, rfl, _, _, rfl, ⟨rfl, rfl⟩, rfl⟩)
    (fun b w h _ => sb_WriteString b s t w h hlen) hk
theorem useBG (i : Nat) (n : Nat) (hat : SbAt L k i tSb tU8 []) (hf : Zar L k = some (.box [.p nilP, .p (.nl 1)] tSb)) (hki : k ≠ .l i) (hn : n ≤ 281474976710656)
    (hk : awpOps Tryd.prog E Y is (Zf (fr.map (·.kill (.l i))) d (.p (.tup []))) (putSb L k i tSb tU8 []) K) : CallOp Tryd.prog E 89 [.adr k 0, .p (int (n : Nat))] L d fr (contO Tryd.prog E Y is K) :=
  useW (vr := [.int .i64 n]) (x := .tup []) (v := .tuple #[]) i tSb tU8 [] [] hat hki (fun w U ι vs h => by obtain ⟨v, r, rfl, h1, h2⟩ := h; simp only [ARep, PRep, ARepL] at h1 h2; rw [h1, h2]) (fun w U => ⟨[], rfl, rfl⟩)
    (fun b w _ h => b_Grow_fresh 0 b n w (Nat.zero_le _) (h hf) (Nat.zero_le _) hn) hk
theorem useBT (i : Nat) (s : List UInt8) (hat : SbAt L k i tSb tU8 s) (hki : k ≠ .l i)
    (hk : awpOps Tryd.prog E Y is (Zf (fr.map (·.kill (.l i))) d (.p (.str s))) (delSb L k i) K) : CallOp Tryd.prog E 92 [.adr k 0] L d fr (contO Tryd.prog E Y is K) :=
  useWS i tSb tU8 s hat hki (fun b w h => b_String_any 0 b s w h (Nat.zero_le _)) hk
theorem lens_take_le : ∀ (l : List (List UInt8)) (k : Nat), Lib.lens (l.take k) ≤ Lib.lens l
  | [], k => by simp
  | x :: r, 0 => by simp [Lib.lens]
  | x :: r, k + 1 => by have := lens_take_le r k; simp only [List.take_succ_cons, Lib.lens, List.map_cons, List.sum_cons] at *; omega
theorem Join_ok (l : List (List UInt8)) (sep : List UInt8) (hl : l.length ≤ 1000000000) (hlen : (Lib.join l sep).length ≤ 1000000000) : PCall Tryd.prog E 44 [strs l, .str sep] (· = .str (Lib.join l sep)) := by
  refine pcallF mixed Tryd.func44 ck_strings_Join ?_
  simp only [a0, l0, OS.ao, List.map_cons, List.map_nil, List.length_cons, List.length_nil, List.cons_append, List.nil_append, Nat.reduceSub, Nat.reduceAdd, List.replicate_succ, List.replicate_zero, ir_strings_Join, rs_strings_Join, ZZ, IsnK_some, Za, Zb, Zc, Zd, Ze, Zf, Zg, Zh, rd, AV.un, AV.unA, AV.ad, Zi, Zj, Zk, Zl, Zm, Zn, Zo, Zp, Zq, Zr, Zs, Zt, Zu, Zv, Zw, Zx, Zy, Zz, Zaa, Zab, Zac, Zad, Zae, Zaf, Zag, Zah, Zai, Zaj, Zak, Zal, Zam, Zan, wk1, wk, Zao, Zap, Zaq, Zar, Zas, Zat, Zau, Zav, AV.kill, AO.kill, AV.thaw, AO.thaw, Zaw, Zax, Zay, Zaz, Zba, Zbb, Zbc, Zbd, Zbe, ite_true, ite_false, reduceCtorEq, Nat.reduceAdd, Nat.reduceMul, Nat.reduceLeDiff, Nat.reduceLT, Nat.reduceEqDiff, forall_const]
  simp only [strs, ZZ, IsnK_some, Za, Zb, Zc, Zd, Ze, Zf, Zg, Zh, rd, AV.un, AV.unA, AV.ad, Zi, Zj, Zk, Zl, Zm, Zn, Zo, Zp, Zq, Zr, Zs, Zt, Zu, Zv, Zw, Zx, Zy, Zz, Zaa, Zab, Zac, Zad, Zae, Zaf, Zag, Zah, Zai, Zaj, Zak, Zal, Zam, Zan, wk1, wk, Zao, Zap, Zaq, Zar, Zas, Zat, Zau, Zav, AV.kill, AO.kill, AV.thaw, AO.thaw, Zaw, Zax, Zay, Zaz, Zba, Zbb, Zbc, Zbd, Zbe, ite_true, ite_false, reduceCtorEq, Nat.reduceAdd, Nat.reduceMul, Nat.reduceLeDiff, Nat.reduceLT, Nat.reduceEqDiff, forall_const]
  refine br ?_ ?_
  · intro h
    have h0 : l = [] := by
      have := of_decide_eq_true h
      simp at this
      exact this
    subst h0
    simp only [ZZ, IsnK_some, Za, Zb, Zc, Zd, Ze, Zf, Zg, Zh, rd, AV.un, AV.unA, AV.ad, Zi, Zj, Zk, Zl, Zm, Zn, Zo, Zp, Zq, Zr, Zs, Zt, Zu, Zv, Zw, Zx, Zy, Zz, Zaa, Zab, Zac, Zad, Zae, Zaf, Zag, Zah, Zai, Zaj, Zak, Zal, Zam, Zan, wk1, wk, Zao, Zap, Zaq, Zar, Zas, Zat, Zau, Zav, AV.kill, AO.kill, AV.thaw, AO.thaw, Zaw, Zax, Zay, Zaz, Zba, Zbb, Zbc, Zbd, Zbe, ite_true, ite_false, reduceCtorEq, Nat.reduceAdd, Nat.reduceMul, Nat.reduceLeDiff, Nat.reduceLT, Nat.reduceEqDiff, forall_const]
    rfl
  intro h
  have h0 : l.length ≠ 0 := by have := of_decide_eq_false h; simpa using this
  simp only [ZZ, IsnK_some, Za, Zb, Zc, Zd, Ze, Zf, Zg, Zh, rd, AV.un, AV.unA, AV.ad, Zi, Zj, Zk, Zl, Zm, Zn, Zo, Zp, Zq, Zr, Zs, Zt, Zu, Zv, Zw, Zx, Zy, Zz, Zaa, Zab, Zac, Zad, Zae, Zaf, Zag, Zah, Zai, Zaj, Zak, Zal, Zam, Zan, wk1, wk, Zao, Zap, Zaq, Zar, Zas, Zat, Zau, Zav, AV.kill, AO.kill, AV.thaw, AO.thaw, Zaw, Zax, Zay, Zaz, Zba, Zbb, Zbc, Zbd, Zbe, ite_true, ite_false, reduceCtorEq, Nat.reduceAdd, Nat.reduceMul, Nat.reduceLeDiff, Nat.reduceLT, Nat.reduceEqDiff, forall_const]
  obtain ⟨x, r, rfl⟩ : ∃ x r, l = x :: r := by cases l with | nil => exact absurd rfl h0 | cons x r => exact ⟨x, r, rfl⟩
  refine br ?_ ?_
  · intro h1
    have h1 : r = [] := List.eq_nil_of_length_eq_zero (by have := of_decide_eq_true h1; simp at this; omega)
    subst h1
    simp only [ZZ, IsnK_some, Za, Zb, Zc, Zd, Ze, Zf, Zg, Zh, rd, AV.un, AV.unA, AV.ad, Zi, Zj, Zk, Zl, Zm, Zn, Zo, Zp, Zq, Zr, Zs, Zt, Zu, Zv, Zw, Zx, Zy, Zz, Zaa, Zab, Zac, Zad, Zae, Zaf, Zag, Zah, Zai, Zaj, Zak, Zal, Zam, Zan, wk1, wk, Zao, Zap, Zaq, Zar, Zas, Zat, Zau, Zav, AV.kill, AO.kill, AV.thaw, AO.thaw, Zaw, Zax, Zay, Zaz, Zba, Zbb, Zbc, Zbd, Zbe, ite_true, ite_false, reduceCtorEq, Nat.reduceAdd, Nat.reduceMul, Nat.reduceLeDiff, Nat.reduceLT, Nat.reduceEqDiff, forall_const]
    refine ⟨by simp, by simp, ?_⟩
    rw [Lib.join_one]
    rfl
  intro h1
  have h1 : r.length ≠ 0 := by have := of_decide_eq_false h1; simp at this; omega
  have hJ := Lib.join_length x r sep
  have hcl : (x :: r).length = r.length + 1 := by simp
  have hmul : sep.length * r.length ≤ 1000000000 := by omega
  have hll : Lib.lens (x :: r) ≤ 1000000000 := by omega
  generalize hes : (x :: r).map (fun x => [PV.str x]) = es
  have hln : es.length = r.length + 1 := by rw [← hes]; simp
  have hget : ∀ (k : Nat) (y : List UInt8), (x :: r)[k]? = some y → es.getD k [] = [PV.str y] := fun k y h => by rw [← hes]; exact getD_map h
  simp only [ZZ, IsnK_some, Za, Zb, Zc, Zd, Ze, Zf, Zg, Zh, rd, AV.un, AV.unA, AV.ad, Zi, Zj, Zk, Zl, Zm, Zn, Zo, Zp, Zq, Zr, Zs, Zt, Zu, Zv, Zw, Zx, Zy, Zz, Zaa, Zab, Zac, Zad, Zae, Zaf, Zag, Zah, Zai, Zaj, Zak, Zal, Zam, Zan, wk1, wk, Zao, Zap, Zaq, Zar, Zas, Zat, Zau, Zav, AV.kill, AO.kill, AV.thaw, AO.thaw, Zaw, Zax, Zay, Zaz, Zba, Zbb, Zbc, Zbd, Zbe, ite_true, ite_false, reduceCtorEq, Nat.reduceAdd, Nat.reduceMul, Nat.reduceLeDiff, Nat.reduceLT, Nat.reduceEqDiff, forall_const]
  refine br_join (fun fr L => fr = [.p (.sl 1 es), .p (.str sep), .any, .any, .any, .p (int (sep.length * r.length : Nat)), .any, .any, .any, .any, .any, .any, .any, .any, .any, .any, .any, .any, .any, .any, .any, .any, .any, .any, .any, .any, .any, .any, .any, .any, .any, .any, .any, .any, .any, .any, .any, .any, .any, .any, .any, .any, .any, .any, .any, .any, .any, .any, .any, .any, .any, .any, .any, .any, .any, .any, .any, .any, .any, .any, .any, .any, .any, .any, .any, .any, .any, .any, .any, .any, .any, .any, .any, .any, .any] ∧ L = []) ?_ ?_ ?_
  · intro hs
    have hs : 0 < sep.length := by have := of_decide_eq_true hs; omega
    simp only [ZZ, IsnK_some, Za, Zb, Zc, Zd, Ze, Zf, Zg, Zh, rd, AV.un, AV.unA, AV.ad, Zi, Zj, Zk, Zl, Zm, Zn, Zo, Zp, Zq, Zr, Zs, Zt, Zu, Zv, Zw, Zx, Zy, Zz, Zaa, Zab, Zac, Zad, Zae, Zaf, Zag, Zah, Zai, Zaj, Zak, Zal, Zam, Zan, wk1, wk, Zao, Zap, Zaq, Zar, Zas, Zat, Zau, Zav, AV.kill, AO.kill, AV.thaw, AO.thaw, Zaw, Zax, Zay, Zaz, Zba, Zbb, Zbc, Zbd, Zbe, ite_true, ite_false, reduceCtorEq, Nat.reduceAdd, Nat.reduceMul, Nat.reduceLeDiff, Nat.reduceLT, Nat.reduceEqDiff, forall_const]
    have hq : ((9223372036854775807 : Int)).tdiv ((es.length : Int) - 1) = ((9223372036854775807 / r.length : Nat) : Int) := by
      rw [hln, Int.tdiv_eq_ediv_of_nonneg (by omega)]
      have : ((r.length + 1 : Nat) : Int) - 1 = (r.length : Int) := by omega
      rw [this]
      rfl
    have hq2 : 9223372036 ≤ 9223372036854775807 / r.length := (Nat.le_div_iff_mul_le (by omega)).2 (by omega)
    have he : (es.length : Int) - 1 = (r.length : Int) := by omega
    have hp : (sep.length : Int) * (r.length : Int) = ((sep.length * r.length : Nat) : Int) := by simp
    have hq3 : 9223372036854775807 / r.length ≤ 9223372036854775807 := Nat.div_le_self _ _
    have hsl : sep.length ≤ sep.length * r.length := Nat.le_mul_of_pos_right _ (by omega)
    rw [hq]
    generalize 9223372036854775807 / r.length = q at *
    simp only [he]
    refine ⟨i64_of (by omega) (by omega), ⟨by omega, i64_of (by omega) (by omega)⟩, ?_⟩
    refine br (fun h => absurd (of_decide_eq_true h) (by omega)) ?_
    intro _
    simp only [ZZ, IsnK_some, Za, Zb, Zc, Zd, Ze, Zf, Zg, Zh, rd, AV.un, AV.unA, AV.ad, Zi, Zj, Zk, Zl, Zm, Zn, Zo, Zp, Zq, Zr, Zs, Zt, Zu, Zv, Zw, Zx, Zy, Zz, Zaa, Zab, Zac, Zad, Zae, Zaf, Zag, Zah, Zai, Zaj, Zak, Zal, Zam, Zan, wk1, wk, Zao, Zap, Zaq, Zar, Zas, Zat, Zau, Zav, AV.kill, AO.kill, AV.thaw, AO.thaw, Zaw, Zax, Zay, Zaz, Zba, Zbb, Zbc, Zbd, Zbe, ite_true, ite_false, reduceCtorEq, Nat.reduceAdd, Nat.reduceMul, Nat.reduceLeDiff, Nat.reduceLT, Nat.reduceEqDiff, forall_const]
    refine cut_same (by simp only [ZZ, IsnK_some, Za, Zb, Zc, Zd, Ze, Zf, Zg, Zh, rd, AV.un, AV.unA, AV.ad, Zi, Zj, Zk, Zl, Zm, Zn, Zo, Zp, Zq, Zr, Zs, Zt, Zu, Zv, Zw, Zx, Zy, Zz, Zaa, Zab, Zac, Zad, Zae, Zaf, Zag, Zah, Zai, Zaj, Zak, Zal, Zam, Zan, wk1, wk, Zao, Zap, Zaq, Zar, Zas, Zat, Zau, Zav, AV.kill, AO.kill, AV.thaw, AO.thaw, Zaw, Zax, Zay, Zaz, Zba, Zbb, Zbc, Zbd, Zbe, ite_true, ite_false, reduceCtorEq, Nat.reduceAdd, Nat.reduceMul, Nat.reduceLeDiff, Nat.reduceLT, Nat.reduceEqDiff, forall_const]) ?_
    simp only [ZZ, IsnK_some, Za, Zb, Zc, Zd, Ze, Zf, Zg, Zh, rd, AV.un, AV.unA, AV.ad, Zi, Zj, Zk, Zl, Zm, Zn, Zo, Zp, Zq, Zr, Zs, Zt, Zu, Zv, Zw, Zx, Zy, Zz, Zaa, Zab, Zac, Zad, Zae, Zaf, Zag, Zah, Zai, Zaj, Zak, Zal, Zam, Zan, wk1, wk, Zao, Zap, Zaq, Zar, Zas, Zat, Zau, Zav, AV.kill, AO.kill, AV.thaw, AO.thaw, Zaw, Zax, Zay, Zaz, Zba, Zbb, Zbc, Zbd, Zbe, ite_true, ite_false, reduceCtorEq, Nat.reduceAdd, Nat.reduceMul, Nat.reduceLeDiff, Nat.reduceLT, Nat.reduceEqDiff, forall_const]
    simp only [he, hp]
    refine ⟨i64_of (by omega) (by omega), i64_of (by omega) (by omega), i64_of (by omega) (by omega), to_mid [.p (.sl 1 es), .p (.str sep), .any, .any, .any, .p (int (sep.length * r.length : Nat)), .any, .any, .any, .any, .any, .any, .any, .any, .any, .any, .any, .any, .any, .any, .any, .any, .any, .any, .any, .any, .any, .any, .any, .any, .any, .any, .any, .any, .any, .any, .any, .any, .any, .any, .any, .any, .any, .any, .any, .any, .any, .any, .any, .any, .any, .any, .any, .any, .any, .any, .any, .any, .any, .any, .any, .any, .any, .any, .any, .any, .any, .any, .any, .any, .any, .any, .any, .any, .any] [] (by simp only [Int.zero_add]; (simp only [ZZ, IsnK_some, Za, Zb, Zc, Zd, Ze, Zf, Zg, Zh, rd, AV.un, AV.unA, AV.ad, Zi, Zj, Zk, Zl, Zm, Zn, Zo, Zp, Zq, Zr, Zs, Zt, Zu, Zv, Zw, Zx, Zy, Zz, Zaa, Zab, Zac, Zad, Zae, Zaf, Zag, Zah, Zai, Zaj, Zak, Zal, Zam, Zan, wk1, wk, Zao, Zap, Zaq, Zar, Zas, Zat, Zau, Zav, AV.kill, AO.kill, AV.thaw, AO.thaw, Zaw, Zax, Zay, Zaz, Zba, Zbb, Zbc, Zbd, Zbe, ite_true, ite_false, reduceCtorEq, Nat.reduceAdd, Nat.reduceMul, Nat.reduceLeDiff, Nat.reduceLT, Nat.reduceEqDiff, forall_const]; try trivial)) (by simp only [ZZ, IsnK_some, Za, Zb, Zc, Zd, Ze, Zf, Zg, Zh, rd, AV.un, AV.unA, AV.ad, Zi, Zj, Zk, Zl, Zm, Zn, Zo, Zp, Zq, Zr, Zs, Zt, Zu, Zv, Zw, Zx, Zy, Zz, Zaa, Zab, Zac, Zad, Zae, Zaf, Zag, Zah, Zai, Zaj, Zak, Zal, Zam, Zan, wk1, wk, Zao, Zap, Zaq, Zar, Zas, Zat, Zau, Zav, AV.kill, AO.kill, AV.thaw, AO.thaw, Zaw, Zax, Zay, Zaz, Zba, Zbb, Zbc, Zbd, Zbe, ite_true, ite_false, reduceCtorEq, Nat.reduceAdd, Nat.reduceMul, Nat.reduceLeDiff, Nat.reduceLT, Nat.reduceEqDiff, forall_const]) ⟨rfl, rfl⟩⟩
  · intro hs
    have hs : sep.length = 0 := by have := of_decide_eq_false hs; omega
    simp only [ZZ, IsnK_some, Za, Zb, Zc, Zd, Ze, Zf, Zg, Zh, rd, AV.un, AV.unA, AV.ad, Zi, Zj, Zk, Zl, Zm, Zn, Zo, Zp, Zq, Zr, Zs, Zt, Zu, Zv, Zw, Zx, Zy, Zz, Zaa, Zab, Zac, Zad, Zae, Zaf, Zag, Zah, Zai, Zaj, Zak, Zal, Zam, Zan, wk1, wk, Zao, Zap, Zaq, Zar, Zas, Zat, Zau, Zav, AV.kill, AO.kill, AV.thaw, AO.thaw, Zaw, Zax, Zay, Zaz, Zba, Zbb, Zbc, Zbd, Zbe, ite_true, ite_false, reduceCtorEq, Nat.reduceAdd, Nat.reduceMul, Nat.reduceLeDiff, Nat.reduceLT, Nat.reduceEqDiff, forall_const]
    exact to_mid [.p (.sl 1 es), .p (.str sep), .any, .any, .any, .p (int (sep.length * r.length : Nat)), .any, .any, .any, .any, .any, .any, .any, .any, .any, .any, .any, .any, .any, .any, .any, .any, .any, .any, .any, .any, .any, .any, .any, .any, .any, .any, .any, .any, .any, .any, .any, .any, .any, .any, .any, .any, .any, .any, .any, .any, .any, .any, .any, .any, .any, .any, .any, .any, .any, .any, .any, .any, .any, .any, .any, .any, .any, .any, .any, .any, .any, .any, .any, .any, .any, .any, .any, .any, .any] [] (by rw [hs]; simp only [Nat.zero_mul]; (simp only [ZZ, IsnK_some, Za, Zb, Zc, Zd, Ze, Zf, Zg, Zh, rd, AV.un, AV.unA, AV.ad, Zi, Zj, Zk, Zl, Zm, Zn, Zo, Zp, Zq, Zr, Zs, Zt, Zu, Zv, Zw, Zx, Zy, Zz, Zaa, Zab, Zac, Zad, Zae, Zaf, Zag, Zah, Zai, Zaj, Zak, Zal, Zam, Zan, wk1, wk, Zao, Zap, Zaq, Zar, Zas, Zat, Zau, Zav, AV.kill, AO.kill, AV.thaw, AO.thaw, Zaw, Zax, Zay, Zaz, Zba, Zbb, Zbc, Zbd, Zbe, ite_true, ite_false, reduceCtorEq, Nat.reduceAdd, Nat.reduceMul, Nat.reduceLeDiff, Nat.reduceLT, Nat.reduceEqDiff, forall_const]; try trivial)) (by simp only [ZZ, IsnK_some, Za, Zb, Zc, Zd, Ze, Zf, Zg, Zh, rd, AV.un, AV.unA, AV.ad, Zi, Zj, Zk, Zl, Zm, Zn, Zo, Zp, Zq, Zr, Zs, Zt, Zu, Zv, Zw, Zx, Zy, Zz, Zaa, Zab, Zac, Zad, Zae, Zaf, Zag, Zah, Zai, Zaj, Zak, Zal, Zam, Zan, wk1, wk, Zao, Zap, Zaq, Zar, Zas, Zat, Zau, Zav, AV.kill, AO.kill, AV.thaw, AO.thaw, Zaw, Zax, Zay, Zaz, Zba, Zbb, Zbc, Zbd, Zbe, ite_true, ite_false, reduceCtorEq, Nat.reduceAdd, Nat.reduceMul, Nat.reduceLeDiff, Nat.reduceLT, Nat.reduceEqDiff, forall_const]) ⟨rfl, rfl⟩
  · rintro fr L ⟨rfl, rfl⟩
    simp only [ZZ, IsnK_some, Za, Zb, Zc, Zd, Ze, Zf, Zg, Zh, rd, AV.un, AV.unA, AV.ad, Zi, Zj, Zk, Zl, Zm, Zn, Zo, Zp, Zq, Zr, Zs, Zt, Zu, Zv, Zw, Zx, Zy, Zz, Zaa, Zab, Zac, Zad, Zae, Zaf, Zag, Zah, Zai, Zaj, Zak, Zal, Zam, Zan, wk1, wk, Zao, Zap, Zaq, Zar, Zas, Zat, Zau, Zav, AV.kill, AO.kill, AV.thaw, AO.thaw, Zaw, Zax, Zay, Zaz, Zba, Zbb, Zbc, Zbd, Zbe, ite_true, ite_false, reduceCtorEq, Nat.reduceAdd, Nat.reduceMul, Nat.reduceLeDiff, Nat.reduceLT, Nat.reduceEqDiff, forall_const]
    refine loop_intro (fun n fr L => ∃ (k : Nat) (m : Nat), k ≤ r.length + 1 ∧ n = r.length + 1 - k ∧ (m = sep.length * r.length + Lib.lens ((x :: r).take k)) ∧ fr = [.p (.sl 1 es), .p (.str sep), .any, .any, .any, .p (int (m : Nat)), .any, .any, .any, .any, .any, .any, .any, .any, .any, .any, .any, .any, .any, .any, .any, .any, .any, .any, .any, .any, .any, .any, .any, .any, .any, .any, .any, .any, .any, .any, .any, .any, .any, .p (.sl 1 es), .p (int (es.length : Nat)), .p (int (k : Nat)), .any, .any, .any, .any, .any, .any, .any, .any, .any, .any, .any, .any, .any, .any, .any, .any, .any, .any, .any, .any, .any, .any, .any, .any, .any, .any, .any, .any, .any, .any, .any, .any, .any] ∧ L = []) (r.length + 1) [.p (.sl 1 es), .p (.str sep), .any, .any, .any, .p (int ((sep.length * r.length) : Nat)), .any, .any, .any, .any, .any, .any, .any, .any, .any, .any, .any, .any, .any, .any, .any, .any, .any, .any, .any, .any, .any, .any, .any, .any, .any, .any, .any, .any, .any, .any, .any, .any, .any, .p (.sl 1 es), .p (int (es.length : Nat)), .p (int (0 : Nat)), .any, .any, .any, .any, .any, .any, .any, .any, .any, .any, .any, .any, .any, .any, .any, .any, .any, .any, .any, .any, .any, .any, .any, .any, .any, .any, .any, .any, .any, .any, .any, .any, .any] [] (by (simp only [ZZ, IsnK_some, Za, Zb, Zc, Zd, Ze, Zf, Zg, Zh, rd, AV.un, AV.unA, AV.ad, Zi, Zj, Zk, Zl, Zm, Zn, Zo, Zp, Zq, Zr, Zs, Zt, Zu, Zv, Zw, Zx, Zy, Zz, Zaa, Zab, Zac, Zad, Zae, Zaf, Zag, Zah, Zai, Zaj, Zak, Zal, Zam, Zan, wk1, wk, Zao, Zap, Zaq, Zar, Zas, Zat, Zau, Zav, AV.kill, AO.kill, AV.thaw, AO.thaw, Zaw, Zax, Zay, Zaz, Zba, Zbb, Zbc, Zbd, Zbe, ite_true, ite_false, reduceCtorEq, Nat.reduceAdd, Nat.reduceMul, Nat.reduceLeDiff, Nat.reduceLT, Nat.reduceEqDiff, forall_const]; try trivial)) (by (simp only [ZZ, IsnK_some, Za, Zb, Zc, Zd, Ze, Zf, Zg, Zh, rd, AV.un, AV.unA, AV.ad, Zi, Zj, Zk, Zl, Zm, Zn, Zo, Zp, Zq, Zr, Zs, Zt, Zu, Zv, Zw, Zx, Zy, Zz, Zaa, Zab, Zac, Zad, Zae, Zaf, Zag, Zah, Zai, Zaj, Zak, Zal, Zam, Zan, wk1, wk, Zao, Zap, Zaq, Zar, Zas, Zat, Zau, Zav, AV.kill, AO.kill, AV.thaw, AO.thaw, Zaw, Zax, Zay, Zaz, Zba, Zbb, Zbc, Zbd, Zbe, ite_true, ite_false, reduceCtorEq, Nat.reduceAdd, Nat.reduceMul, Nat.reduceLeDiff, Nat.reduceLT, Nat.reduceEqDiff, forall_const]; try trivial)) ⟨0, sep.length * r.length, by omega, by omega, by simp [Lib.lens], rfl, rfl⟩ ?_
    rintro n fr L ⟨k, m, hk, rfl, hm, rfl, rfl⟩
    simp only [ir_strings_Join_L0, ZZ, IsnK_some, Za, Zb, Zc, Zd, Ze, Zf, Zg, Zh, rd, AV.un, AV.unA, AV.ad, Zi, Zj, Zk, Zl, Zm, Zn, Zo, Zp, Zq, Zr, Zs, Zt, Zu, Zv, Zw, Zx, Zy, Zz, Zaa, Zab, Zac, Zad, Zae, Zaf, Zag, Zah, Zai, Zaj, Zak, Zal, Zam, Zan, wk1, wk, Zao, Zap, Zaq, Zar, Zas, Zat, Zau, Zav, AV.kill, AO.kill, AV.thaw, AO.thaw, Zaw, Zax, Zay, Zaz, Zba, Zbb, Zbc, Zbd, Zbe, ite_true, ite_false, reduceCtorEq, Nat.reduceAdd, Nat.reduceMul, Nat.reduceLeDiff, Nat.reduceLT, Nat.reduceEqDiff, forall_const]
    refine br ?_ ?_
    · intro h
      have hlt : k < r.length + 1 := by have := of_decide_eq_true h; omega
      obtain ⟨y, hy⟩ : ∃ y, (x :: r)[k]? = some y := ⟨_, List.getElem?_eq_getElem (by simpa using hlt)⟩
      have hg := hget k y hy
      have hs1 := Lib.lens_take_succ (x :: r) k y hy
      have hs2 := lens_take_le (x :: r) (k + 1)
      simp only [ZZ, IsnK_some, Za, Zb, Zc, Zd, Ze, Zf, Zg, Zh, rd, AV.un, AV.unA, AV.ad, Zi, Zj, Zk, Zl, Zm, Zn, Zo, Zp, Zq, Zr, Zs, Zt, Zu, Zv, Zw, Zx, Zy, Zz, Zaa, Zab, Zac, Zad, Zae, Zaf, Zag, Zah, Zai, Zaj, Zak, Zal, Zam, Zan, wk1, wk, Zao, Zap, Zaq, Zar, Zas, Zat, Zau, Zav, AV.kill, AO.kill, AV.thaw, AO.thaw, Zaw, Zax, Zay, Zaz, Zba, Zbb, Zbc, Zbd, Zbe, ite_true, ite_false, reduceCtorEq, Nat.reduceAdd, Nat.reduceMul, Nat.reduceLeDiff, Nat.reduceLT, Nat.reduceEqDiff, forall_const, hg]
      refine ⟨⟨by omega, by omega⟩, by omega, i64_of (by omega) (by omega), ?_⟩
      refine br (fun h => absurd (of_decide_eq_true h) (by omega)) ?_
      intro _
      simp only [ZZ, IsnK_some, Za, Zb, Zc, Zd, Ze, Zf, Zg, Zh, rd, AV.un, AV.unA, AV.ad, Zi, Zj, Zk, Zl, Zm, Zn, Zo, Zp, Zq, Zr, Zs, Zt, Zu, Zv, Zw, Zx, Zy, Zz, Zaa, Zab, Zac, Zad, Zae, Zaf, Zag, Zah, Zai, Zaj, Zak, Zal, Zam, Zan, wk1, wk, Zao, Zap, Zaq, Zar, Zas, Zat, Zau, Zav, AV.kill, AO.kill, AV.thaw, AO.thaw, Zaw, Zax, Zay, Zaz, Zba, Zbb, Zbc, Zbd, Zbe, ite_true, ite_false, reduceCtorEq, Nat.reduceAdd, Nat.reduceMul, Nat.reduceLeDiff, Nat.reduceLT, Nat.reduceEqDiff, forall_const]
      refine cut_same (by simp only [ZZ, IsnK_some, Za, Zb, Zc, Zd, Ze, Zf, Zg, Zh, rd, AV.un, AV.unA, AV.ad, Zi, Zj, Zk, Zl, Zm, Zn, Zo, Zp, Zq, Zr, Zs, Zt, Zu, Zv, Zw, Zx, Zy, Zz, Zaa, Zab, Zac, Zad, Zae, Zaf, Zag, Zah, Zai, Zaj, Zak, Zal, Zam, Zan, wk1, wk, Zao, Zap, Zaq, Zar, Zas, Zat, Zau, Zav, AV.kill, AO.kill, AV.thaw, AO.thaw, Zaw, Zax, Zay, Zaz, Zba, Zbb, Zbc, Zbd, Zbe, ite_true, ite_false, reduceCtorEq, Nat.reduceAdd, Nat.reduceMul, Nat.reduceLeDiff, Nat.reduceLT, Nat.reduceEqDiff, forall_const]) ?_
      simp only [ZZ, IsnK_some, Za, Zb, Zc, Zd, Ze, Zf, Zg, Zh, rd, AV.un, AV.unA, AV.ad, Zi, Zj, Zk, Zl, Zm, Zn, Zo, Zp, Zq, Zr, Zs, Zt, Zu, Zv, Zw, Zx, Zy, Zz, Zaa, Zab, Zac, Zad, Zae, Zaf, Zag, Zah, Zai, Zaj, Zak, Zal, Zam, Zan, wk1, wk, Zao, Zap, Zaq, Zar, Zas, Zat, Zau, Zav, AV.kill, AO.kill, AV.thaw, AO.thaw, Zaw, Zax, Zay, Zaz, Zba, Zbb, Zbc, Zbd, Zbe, ite_true, ite_false, reduceCtorEq, Nat.reduceAdd, Nat.reduceMul, Nat.reduceLeDiff, Nat.reduceLT, Nat.reduceEqDiff, forall_const]
      refine ⟨i64_of (by omega) (by omega), i64_of (by omega) (by omega), ?_⟩
      refine end_round (r.length + 1 - (k + 1)) [.p (.sl 1 es), .p (.str sep), .any, .any, .any, .p (int ((m + y.length) : Nat)), .any, .any, .any, .any, .any, .any, .any, .any, .any, .any, .any, .any, .any, .any, .any, .any, .any, .any, .any, .any, .any, .any, .any, .any, .any, .any, .any, .any, .any, .any, .any, .any, .any, .p (.sl 1 es), .p (int (es.length : Nat)), .p (int ((k + 1) : Nat)), .any, .any, .any, .any, .any, .any, .any, .any, .any, .any, .any, .any, .any, .any, .any, .any, .any, .any, .any, .any, .any, .any, .any, .any, .any, .any, .any, .any, .any, .any, .any, .any, .any] [] (by omega) (by (simp only [ZZ, IsnK_some, Za, Zb, Zc, Zd, Ze, Zf, Zg, Zh, rd, AV.un, AV.unA, AV.ad, Zi, Zj, Zk, Zl, Zm, Zn, Zo, Zp, Zq, Zr, Zs, Zt, Zu, Zv, Zw, Zx, Zy, Zz, Zaa, Zab, Zac, Zad, Zae, Zaf, Zag, Zah, Zai, Zaj, Zak, Zal, Zam, Zan, wk1, wk, Zao, Zap, Zaq, Zar, Zas, Zat, Zau, Zav, AV.kill, AO.kill, AV.thaw, AO.thaw, Zaw, Zax, Zay, Zaz, Zba, Zbb, Zbc, Zbd, Zbe, ite_true, ite_false, reduceCtorEq, Nat.reduceAdd, Nat.reduceMul, Nat.reduceLeDiff, Nat.reduceLT, Nat.reduceEqDiff, forall_const]; try trivial)) (by (simp only [ZZ, IsnK_some, Za, Zb, Zc, Zd, Ze, Zf, Zg, Zh, rd, AV.un, AV.unA, AV.ad, Zi, Zj, Zk, Zl, Zm, Zn, Zo, Zp, Zq, Zr, Zs, Zt, Zu, Zv, Zw, Zx, Zy, Zz, Zaa, Zab, Zac, Zad, Zae, Zaf, Zag, Zah, Zai, Zaj, Zak, Zal, Zam, Zan, wk1, wk, Zao, Zap, Zaq, Zar, Zas, Zat, Zau, Zav, AV.kill, AO.kill, AV.thaw, AO.thaw, Zaw, Zax, Zay, Zaz, Zba, Zbb, Zbc, Zbd, Zbe, ite_true, ite_false, reduceCtorEq, Nat.reduceAdd, Nat.reduceMul, Nat.reduceLeDiff, Nat.reduceLT, Nat.reduceEqDiff, forall_const]; try trivial)) ⟨k + 1, m + y.length, by omega, rfl, by omega, rfl, rfl⟩
    · intro h
      have hge : k = r.length + 1 := by have := of_decide_eq_false h; omega
      subst hge
      have hm' : m ≤ 1000000000 := by rw [hm, List.take_of_length_le (by simp)]; omega
      simp only [ZZ, IsnK_some, Za, Zb, Zc, Zd, Ze, Zf, Zg, Zh, rd, AV.un, AV.unA, AV.ad, Zi, Zj, Zk, Zl, Zm, Zn, Zo, Zp, Zq, Zr, Zs, Zt, Zu, Zv, Zw, Zx, Zy, Zz, Zaa, Zab, Zac, Zad, Zae, Zaf, Zag, Zah, Zai, Zaj, Zak, Zal, Zam, Zan, wk1, wk, Zao, Zap, Zaq, Zar, Zas, Zat, Zau, Zav, AV.kill, AO.kill, AV.thaw, AO.thaw, Zaw, Zax, Zay, Zaz, Zba, Zbb, Zbc, Zbd, Zbe, ite_true, ite_false, reduceCtorEq, Nat.reduceAdd, Nat.reduceMul, Nat.reduceLeDiff, Nat.reduceLT, Nat.reduceEqDiff, forall_const]
      refine useBG 1000 m (.inl ⟨rfl, rfl⟩) rfl (by simp) (by omega) ?_
      have hg0 := hget 0 x rfl
      have hlx : Lib.lens (x :: r) = x.length + Lib.lens r := by simp [Lib.lens]
      simp only [ZZ, IsnK_some, Za, Zb, Zc, Zd, Ze, Zf, Zg, Zh, rd, AV.un, AV.unA, AV.ad, Zi, Zj, Zk, Zl, Zm, Zn, Zo, Zp, Zq, Zr, Zs, Zt, Zu, Zv, Zw, Zx, Zy, Zz, Zaa, Zab, Zac, Zad, Zae, Zaf, Zag, Zah, Zai, Zaj, Zak, Zal, Zam, Zan, wk1, wk, Zao, Zap, Zaq, Zar, Zas, Zat, Zau, Zav, AV.kill, AO.kill, AV.thaw, AO.thaw, Zaw, Zax, Zay, Zaz, Zba, Zbb, Zbc, Zbd, Zbe, ite_true, ite_false, reduceCtorEq, Nat.reduceAdd, Nat.reduceMul, Nat.reduceLeDiff, Nat.reduceLT, Nat.reduceEqDiff, forall_const, putSb, Int.toNat_zero, hg0]
      refine ⟨⟨by omega, by omega⟩, by omega, ?_⟩
      refine useBS 1000 [] x (.inr ⟨rfl, rfl⟩) (by simp) (by simp; omega) ?_
      simp only [ZZ, IsnK_some, Za, Zb, Zc, Zd, Ze, Zf, Zg, Zh, rd, AV.un, AV.unA, AV.ad, Zi, Zj, Zk, Zl, Zm, Zn, Zo, Zp, Zq, Zr, Zs, Zt, Zu, Zv, Zw, Zx, Zy, Zz, Zaa, Zab, Zac, Zad, Zae, Zaf, Zag, Zah, Zai, Zaj, Zak, Zal, Zam, Zan, wk1, wk, Zao, Zap, Zaq, Zar, Zas, Zat, Zau, Zav, AV.kill, AO.kill, AV.thaw, AO.thaw, Zaw, Zax, Zay, Zaz, Zba, Zbb, Zbc, Zbd, Zbe, ite_true, ite_false, reduceCtorEq, Nat.reduceAdd, Nat.reduceMul, Nat.reduceLeDiff, Nat.reduceLT, Nat.reduceEqDiff, forall_const, putSb]
      refine ⟨⟨by omega, by omega⟩, ?_⟩
      have hd : (es.take es.length).drop 1 = strE r := by rw [List.take_length, ← hes]; simp [strE]
      simp only [Int.toNat_one, hd, strE_len]
      refine loop_intro (fun n fr L => ∃ (k : Nat) (s : List UInt8), k ≤ r.length ∧ n = r.length - k ∧ (s = x ++ Lib.joinTail sep (r.take k)) ∧ fr = [.any, .p (.str sep), .any, .any, .any, .any, .any, .any, .adr (.l 8) 0, .any, .any, .any, .any, .any, .any, .any, .any, .any, .any, .any, .any, .any, .any, .any, .any, .any, .any, .any, .any, .any, .any, .any, .any, .any, .any, .any, .any, .any, .any, .any, .any, .any, .any, .any, .any, .any, .any, .any, .any, .any, .any, .any, .any, .any, .any, .any, .any, .any, .any, .any, .any, .any, .any, .p (.sl 1 (strE r)), .p (int (r.length : Nat)), .p (int (k : Nat)), .any, .any, .any, .any, .any, .any, .any, .any, .any] ∧ L = [(.l 8, .box [.adr (.l 8) 0, .row (.l 1000)] tSb), (.l 1000, .row (bytC s) tU8 1 true)]) (r.length) [.any, .p (.str sep), .any, .any, .any, .any, .any, .any, .adr (.l 8) 0, .any, .any, .any, .any, .any, .any, .any, .any, .any, .any, .any, .any, .any, .any, .any, .any, .any, .any, .any, .any, .any, .any, .any, .any, .any, .any, .any, .any, .any, .any, .any, .any, .any, .any, .any, .any, .any, .any, .any, .any, .any, .any, .any, .any, .any, .any, .any, .any, .any, .any, .any, .any, .any, .any, .p (.sl 1 (strE r)), .p (int (r.length : Nat)), .p (int (0 : Nat)), .any, .any, .any, .any, .any, .any, .any, .any, .any] [(.l 8, .box [.adr (.l 8) 0, .row (.l 1000)] tSb), (.l 1000, .row (bytC x) tU8 1 true)] (by (simp only [ZZ, IsnK_some, Za, Zb, Zc, Zd, Ze, Zf, Zg, Zh, rd, AV.un, AV.unA, AV.ad, Zi, Zj, Zk, Zl, Zm, Zn, Zo, Zp, Zq, Zr, Zs, Zt, Zu, Zv, Zw, Zx, Zy, Zz, Zaa, Zab, Zac, Zad, Zae, Zaf, Zag, Zah, Zai, Zaj, Zak, Zal, Zam, Zan, wk1, wk, Zao, Zap, Zaq, Zar, Zas, Zat, Zau, Zav, AV.kill, AO.kill, AV.thaw, AO.thaw, Zaw, Zax, Zay, Zaz, Zba, Zbb, Zbc, Zbd, Zbe, ite_true, ite_false, reduceCtorEq, Nat.reduceAdd, Nat.reduceMul, Nat.reduceLeDiff, Nat.reduceLT, Nat.reduceEqDiff, forall_const]; try trivial)) (by (simp only [ZZ, IsnK_some, Za, Zb, Zc, Zd, Ze, Zf, Zg, Zh, rd, AV.un, AV.unA, AV.ad, Zi, Zj, Zk, Zl, Zm, Zn, Zo, Zp, Zq, Zr, Zs, Zt, Zu, Zv, Zw, Zx, Zy, Zz, Zaa, Zab, Zac, Zad, Zae, Zaf, Zag, Zah, Zai, Zaj, Zak, Zal, Zam, Zan, wk1, wk, Zao, Zap, Zaq, Zar, Zas, Zat, Zau, Zav, AV.kill, AO.kill, AV.thaw, AO.thaw, Zaw, Zax, Zay, Zaz, Zba, Zbb, Zbc, Zbd, Zbe, ite_true, ite_false, reduceCtorEq, Nat.reduceAdd, Nat.reduceMul, Nat.reduceLeDiff, Nat.reduceLT, Nat.reduceEqDiff, forall_const]; try trivial)) ⟨0, x, by omega, by omega, by simp [Lib.joinTail], rfl, rfl⟩ ?_
      rintro n fr L ⟨k, s, hk, rfl, hs, rfl, rfl⟩
      simp only [ir_strings_Join_L1, ZZ, IsnK_some, Za, Zb, Zc, Zd, Ze, Zf, Zg, Zh, rd, AV.un, AV.unA, AV.ad, Zi, Zj, Zk, Zl, Zm, Zn, Zo, Zp, Zq, Zr, Zs, Zt, Zu, Zv, Zw, Zx, Zy, Zz, Zaa, Zab, Zac, Zad, Zae, Zaf, Zag, Zah, Zai, Zaj, Zak, Zal, Zam, Zan, wk1, wk, Zao, Zap, Zaq, Zar, Zas, Zat, Zau, Zav, AV.kill, AO.kill, AV.thaw, AO.thaw, Zaw, Zax, Zay, Zaz, Zba, Zbb, Zbc, Zbd, Zbe, ite_true, ite_false, reduceCtorEq, Nat.reduceAdd, Nat.reduceMul, Nat.reduceLeDiff, Nat.reduceLT, Nat.reduceEqDiff, forall_const]
      refine br ?_ ?_
      · intro h
        have hlt : k < r.length := by have := of_decide_eq_true h; omega
        obtain ⟨y, hy⟩ : ∃ y, r[k]? = some y := ⟨_, List.getElem?_eq_getElem hlt⟩
        have hg := strE_get hy
        have hj1 := Lib.joinTail_take_succ sep r k y hy
        have hj2 := Lib.joinTail_take_le sep r (k + 1)
        have hj3 := Lib.joinTail_length sep r
        have hj4 : (Lib.joinTail sep (r.take (k + 1))).length = (Lib.joinTail sep (r.take k)).length + sep.length + y.length := by rw [hj1]; simp; omega
        have hsl : s.length = x.length + (Lib.joinTail sep (r.take k)).length := by rw [hs]; simp
        simp only [ZZ, IsnK_some, Za, Zb, Zc, Zd, Ze, Zf, Zg, Zh, rd, AV.un, AV.unA, AV.ad, Zi, Zj, Zk, Zl, Zm, Zn, Zo, Zp, Zq, Zr, Zs, Zt, Zu, Zv, Zw, Zx, Zy, Zz, Zaa, Zab, Zac, Zad, Zae, Zaf, Zag, Zah, Zai, Zaj, Zak, Zal, Zam, Zan, wk1, wk, Zao, Zap, Zaq, Zar, Zas, Zat, Zau, Zav, AV.kill, AO.kill, AV.thaw, AO.thaw, Zaw, Zax, Zay, Zaz, Zba, Zbb, Zbc, Zbd, Zbe, ite_true, ite_false, reduceCtorEq, Nat.reduceAdd, Nat.reduceMul, Nat.reduceLeDiff, Nat.reduceLT, Nat.reduceEqDiff, forall_const, strE_len, hg]
        refine ⟨⟨by omega, by omega⟩, by omega, ?_⟩
        refine useBS 1000 s sep (.inr ⟨rfl, rfl⟩) (by simp) (by omega) ?_
        simp only [ZZ, IsnK_some, Za, Zb, Zc, Zd, Ze, Zf, Zg, Zh, rd, AV.un, AV.unA, AV.ad, Zi, Zj, Zk, Zl, Zm, Zn, Zo, Zp, Zq, Zr, Zs, Zt, Zu, Zv, Zw, Zx, Zy, Zz, Zaa, Zab, Zac, Zad, Zae, Zaf, Zag, Zah, Zai, Zaj, Zak, Zal, Zam, Zan, wk1, wk, Zao, Zap, Zaq, Zar, Zas, Zat, Zau, Zav, AV.kill, AO.kill, AV.thaw, AO.thaw, Zaw, Zax, Zay, Zaz, Zba, Zbb, Zbc, Zbd, Zbe, ite_true, ite_false, reduceCtorEq, Nat.reduceAdd, Nat.reduceMul, Nat.reduceLeDiff, Nat.reduceLT, Nat.reduceEqDiff, forall_const, putSb]
        refine useBS 1000 (s ++ sep) y (.inr ⟨rfl, rfl⟩) (by simp) (by simp; omega) ?_
        simp only [ZZ, IsnK_some, Za, Zb, Zc, Zd, Ze, Zf, Zg, Zh, rd, AV.un, AV.unA, AV.ad, Zi, Zj, Zk, Zl, Zm, Zn, Zo, Zp, Zq, Zr, Zs, Zt, Zu, Zv, Zw, Zx, Zy, Zz, Zaa, Zab, Zac, Zad, Zae, Zaf, Zag, Zah, Zai, Zaj, Zak, Zal, Zam, Zan, wk1, wk, Zao, Zap, Zaq, Zar, Zas, Zat, Zau, Zav, AV.kill, AO.kill, AV.thaw, AO.thaw, Zaw, Zax, Zay, Zaz, Zba, Zbb, Zbc, Zbd, Zbe, ite_true, ite_false, reduceCtorEq, Nat.reduceAdd, Nat.reduceMul, Nat.reduceLeDiff, Nat.reduceLT, Nat.reduceEqDiff, forall_const, putSb]
        refine ⟨i64_of (by omega) (by omega), ?_⟩
        refine end_round (r.length - (k + 1)) [.any, .p (.str sep), .any, .any, .any, .any, .any, .any, .adr (.l 8) 0, .any, .any, .any, .any, .any, .any, .any, .any, .any, .any, .any, .any, .any, .any, .any, .any, .any, .any, .any, .any, .any, .any, .any, .any, .any, .any, .any, .any, .any, .any, .any, .any, .any, .any, .any, .any, .any, .any, .any, .any, .any, .any, .any, .any, .any, .any, .any, .any, .any, .any, .any, .any, .any, .any, .p (.sl 1 (strE r)), .p (int (r.length : Nat)), .p (int ((k + 1) : Nat)), .any, .any, .any, .any, .any, .any, .any, .any, .any] [(.l 8, .box [.adr (.l 8) 0, .row (.l 1000)] tSb), (.l 1000, .row (bytC (s ++ sep ++ y)) tU8 1 true)] (by omega) (by (simp only [ZZ, IsnK_some, Za, Zb, Zc, Zd, Ze, Zf, Zg, Zh, rd, AV.un, AV.unA, AV.ad, Zi, Zj, Zk, Zl, Zm, Zn, Zo, Zp, Zq, Zr, Zs, Zt, Zu, Zv, Zw, Zx, Zy, Zz, Zaa, Zab, Zac, Zad, Zae, Zaf, Zag, Zah, Zai, Zaj, Zak, Zal, Zam, Zan, wk1, wk, Zao, Zap, Zaq, Zar, Zas, Zat, Zau, Zav, AV.kill, AO.kill, AV.thaw, AO.thaw, Zaw, Zax, Zay, Zaz, Zba, Zbb, Zbc, Zbd, Zbe, ite_true, ite_false, reduceCtorEq, Nat.reduceAdd, Nat.reduceMul, Nat.reduceLeDiff, Nat.reduceLT, Nat.reduceEqDiff, forall_const]; try trivial)) (by (simp only [ZZ, IsnK_some, Za, Zb, Zc, Zd, Ze, Zf, Zg, Zh, rd, AV.un, AV.unA, AV.ad, Zi, Zj, Zk, Zl, Zm, Zn, Zo, Zp, Zq, Zr, Zs, Zt, Zu, Zv, Zw, Zx, Zy, Zz, Zaa, Zab, Zac, Zad, Zae, Zaf, Zag, Zah, Zai, Zaj, Zak, Zal, Zam, Zan, wk1, wk, Zao, Zap, Zaq, Zar, Zas, Zat, Zau, Zav, AV.kill, AO.kill, AV.thaw, AO.thaw, Zaw, Zax, Zay, Zaz, Zba, Zbb, Zbc, Zbd, Zbe, ite_true, ite_false, reduceCtorEq, Nat.reduceAdd, Nat.reduceMul, Nat.reduceLeDiff, Nat.reduceLT, Nat.reduceEqDiff, forall_const]; try trivial)) ⟨k + 1, s ++ sep ++ y, by omega, rfl, by rw [hj1, hs]; simp, rfl, rfl⟩
      · intro h
        have hge : k = r.length := by have := of_decide_eq_false h; omega
        subst hge
        simp only [ZZ, IsnK_some, Za, Zb, Zc, Zd, Ze, Zf, Zg, Zh, rd, AV.un, AV.unA, AV.ad, Zi, Zj, Zk, Zl, Zm, Zn, Zo, Zp, Zq, Zr, Zs, Zt, Zu, Zv, Zw, Zx, Zy, Zz, Zaa, Zab, Zac, Zad, Zae, Zaf, Zag, Zah, Zai, Zaj, Zak, Zal, Zam, Zan, wk1, wk, Zao, Zap, Zaq, Zar, Zas, Zat, Zau, Zav, AV.kill, AO.kill, AV.thaw, AO.thaw, Zaw, Zax, Zay, Zaz, Zba, Zbb, Zbc, Zbd, Zbe, ite_true, ite_false, reduceCtorEq, Nat.reduceAdd, Nat.reduceMul, Nat.reduceLeDiff, Nat.reduceLT, Nat.reduceEqDiff, forall_const]
        refine useBT 1000 s (.inr ⟨rfl, rfl⟩) (by simp) ?_
        simp only [ZZ, IsnK_some, Za, Zb, Zc, Zd, Ze, Zf, Zg, Zh, rd, AV.un, AV.unA, AV.ad, Zi, Zj, Zk, Zl, Zm, Zn, Zo, Zp, Zq, Zr, Zs, Zt, Zu, Zv, Zw, Zx, Zy, Zz, Zaa, Zab, Zac, Zad, Zae, Zaf, Zag, Zah, Zai, Zaj, Zak, Zal, Zam, Zan, wk1, wk, Zao, Zap, Zaq, Zar, Zas, Zat, Zau, Zav, AV.kill, AO.kill, AV.thaw, AO.thaw, Zaw, Zax, Zay, Zaz, Zba, Zbb, Zbc, Zbd, Zbe, ite_true, ite_false, reduceCtorEq, Nat.reduceAdd, Nat.reduceMul, Nat.reduceLeDiff, Nat.reduceLT, Nat.reduceEqDiff, forall_const]
        rw [hs, List.take_length, Lib.join_cons]
end
end Go.Proofs.YtndjmidmfmcbkaaDoor

/- Phrases: the places of phrases, found one by one or painted (plain). -/
namespace Go.Proofs.YtndjmidmfmcbkaaDoor
set_option linter.unusedVariables false
set_option linter.unusedSimpArgs false
set_option linter.defProp false

end Go.Proofs.YtndjmidmfmcbkaaDoor

/- Memos and phrases: what makes them, Find, and the reference's FindOf. -/
namespace Go.Proofs.YtndjmidmfmcbkaaDoor
open Go.RowKit
set_option linter.unusedVariables false
set_option linter.unusedSimpArgs false
set_option linter.defProp false

section
variable {E : Envt}
end
end Go.Proofs.YtndjmidmfmcbkaaDoor

/- Memos, Find and the reference's FindOf. -/
namespace Go.Proofs.YtndjmidmfmcbkaaDoor
open Go.RowKit
set_option linter.unusedVariables false
set_option linter.unusedSimpArgs false
set_option linter.defProp false




section
variable {E : Envt}
end
end Go.Proofs.YtndjmidmfmcbkaaDoor

/- Code points: what is covered as a whole (plain). -/
namespace Go.Proofs.YtndjmidmfmcbkaaDoor
set_option linter.unusedVariables false
set_option linter.unusedSimpArgs false
set_option linter.defProp false

end Go.Proofs.YtndjmidmfmcbkaaDoor

/- Sets as maps; the ends of words; what is seen and what leaks (plain). -/
namespace Go.Proofs.YtndjmidmfmcbkaaDoor
set_option linter.unusedVariables false
set_option linter.unusedSimpArgs false
set_option linter.defProp false

theorem wordsF_len (t : List UInt8) : (wordsF t).length ≤ t.length + 1 := by
  have := Sp.spans_len t
  simpa [wordsF] using this
end Go.Proofs.YtndjmidmfmcbkaaDoor

/- Widen and what is covered: the walks. -/
namespace Go.Proofs.YtndjmidmfmcbkaaDoor
open Go.RowKit
set_option linter.unusedVariables false
set_option linter.unusedSimpArgs false
set_option linter.defProp false

section
variable {P : Program} {E : Envt} {w : World} {U : Nat → Prop}
theorem cells_rep {z b : Nat} : ∀ (es : List (List PV)) (vs : List Value) (off : Nat), (∀ x ∈ es, x.length = z) → PRepL w U es.flatten vs → (∀ v ∈ vs, v.oneCell' = true) → (∀ j u, vs[j]? = some u → w.cell? ⟨b, off + j, none⟩ = some u) → PRepE w U b z off es := by
  intro es
  induction es with
  | nil => intros; simp [PRepE]
  | cons x r ih =>
    intro vs off hz hv h1 hc
    simp only [PRepE]
    have hx := hz x (by simp)
    simp only [List.flatten_cons] at hv
    have ha := hv.take x.length
    have hb := hv.drop x.length
    rw [List.take_left] at ha
    rw [List.drop_left] at hb
    refine ⟨hx, PRepC.of ha (fun v hv => h1 v (List.mem_of_mem_take hv)) (fun j u hu => hc j u (by rw [List.getElem?_take] at hu; split at hu; exact hu; cases hu)), ih _ (off + z) (fun y hy => hz y (by simp [hy])) hb (fun v hv => h1 v (List.mem_of_mem_drop hv)) (fun j u hu => ?_)⟩
    rw [List.getElem?_drop] at hu
    have := hc _ u hu
    rwa [hx, ← Nat.add_assoc] at this
/-- A fresh row as a plain slice. -/
theorem plainF {f : FuncId} {args : List PV} {e z : Nat} {φ : List (List PV) → Prop} (h : FCall P E f args e z φ) : PCall P E f args (fun x => ∃ es, x = .sl z es ∧ φ es) := by
  intro w U vs hU hE hEb hA
  refine (h w U vs undef hU hE (fun c hc => ⟨hEb c hc, fun h => by cases h⟩) hA trivial).mono ?_
  rintro e' w' ⟨v, r, os', rfl, ⟨es, rfl, hφ⟩, ⟨us, hrow, h1, hl, hz, hb⟩, hg⟩
  refine ⟨v, .sl z es, rfl, ⟨es, rfl, hφ⟩, ?_, hg⟩
  have hcl := fun g m c hv => hrow.cells (g := g) (m := m) (c := c) hv
  rcases hrow.2 with ⟨rfl, g2⟩ | ⟨g, cap, cur, fz, rfl, k2, k3, _⟩
  · exact ⟨none, 0, by rw [g2], by omega, fun hne => absurd (List.eq_nil_of_length_eq_zero g2) hne⟩
  · refine ⟨_, cap, rfl, k3, fun _ => ⟨g, 0, rfl, (Array.getElem?_eq_some_iff.1 k2).1, fun hu => ?_, ?_⟩⟩
    · have h1 := hU g hu
      have h2 := hb g rfl
      omega
    · refine cells_rep es us 0 hz (PRepL.mono (fun c _ hu => ⟨rfl, fun h => hu (.inl h)⟩) _ _ hl) h1 (fun j u hu => ?_)
      rw [Nat.zero_add]
      exact hcl g _ _ rfl j u hu
theorem plainF1 {f : FuncId} {args : List PV} {e z : Nat} {es : List (List PV)} (h : FCall P E f args e z (· = es)) : PCall P E f args (· = .sl z es) := by
  intro w U vs hU hE hEb hA
  refine (plainF h w U vs hU hE hEb hA).mono ?_
  rintro e' w' ⟨v, x, h1, ⟨es', rfl, rfl⟩, h2⟩
  exact ⟨v, _, h1, rfl, h2⟩
end



section
variable {E : Envt}
end
end Go.Proofs.YtndjmidmfmcbkaaDoor

/- slices.Equal of strings. -/
namespace Go.Proofs.YtndjmidmfmcbkaaDoor
set_option linter.unusedVariables false
set_option linter.unusedSimpArgs false
set_option linter.defProp false
/- slices.Equal[[]string,string] -/
def ir_slices_Equal_string_string_L0 : IC :=
  (.seq (.reg [⟨some 14, .bin .lss (.t 13) (.t 12), none⟩])
    (.seq (.cond (.t 14) .skip (.exit 0))
    (.seq (.block 1 (.seq (.reg [⟨some 15, .mov (.t 13), none⟩,
      ⟨some 5, .mov (.t 15), none⟩])
    (.seq (.drg [⟨some 16, .mov (.t 0), none⟩,
      ⟨some 17, .mov (.t 5), none⟩,
      ⟨some 18, .ixa 1 (.t 16) (.t 17), none⟩,
      ⟨some 19, .ld 1 false (.t 18), none⟩,
      ⟨some 20, .mov (.t 1), none⟩,
      ⟨some 21, .mov (.t 5), none⟩,
      ⟨some 22, .ixa 1 (.t 20) (.t 21), none⟩,
      ⟨some 23, .ld 1 false (.t 22), none⟩,
      ⟨some 24, .bin .neq (.t 19) (.t 23), none⟩])
    (.cond (.t 24) (.seq (.reg [⟨some 4, .mov (.c (.bool false)), none⟩])
    .ret) .skip))))
    (.reg [⟨some 25, .bin .add (.t 13) (.c (.int .i64 1)), none⟩,
      ⟨some 13, .mov (.t 25), none⟩]))))
def ir_slices_Equal_string_string : IC :=
  (.seq (.reg [⟨some 4, .mov (.c (.bool false)), none⟩])
    (.seq (.seq (.reg [⟨some 6, .mov (.t 0), none⟩,
      ⟨some 7, .len (.t 6), none⟩,
      ⟨some 8, .mov (.t 1), none⟩,
      ⟨some 9, .len (.t 8), none⟩,
      ⟨some 10, .bin .neq (.t 7) (.t 9), none⟩])
    (.cond (.t 10) (.seq (.reg [⟨some 4, .mov (.c (.bool false)), none⟩])
    .ret) .skip))
    (.seq (.seq (.reg [⟨some 11, .mov (.t 0), none⟩,
      ⟨some 12, .len (.t 11), none⟩,
      ⟨some 13, .mov (.c (.int .i64 0)), none⟩])
    (.block 0 (.loop ir_slices_Equal_string_string_L0)))
    (.seq (.reg [⟨some 4, .mov (.c (.bool true)), none⟩])
    .ret))))
def rs_slices_Equal_string_string : List IRes := [.t 4]
theorem ck_slices_Equal_string_string : chkF Tryd.prog Tryd.f13 ir_slices_Equal_string_string rs_slices_Equal_string_string 26 = true := by kernel_rfl

section
variable {E : Envt}
theorem EqualT_ok (l m : List (List UInt8)) (hl : l.length ≤ 1000000000) : PCall Tryd.prog E 13 [strs l, strs m] (· = .bool (decide (l = m))) := by
  refine pcallF mixed Tryd.func13 ck_slices_Equal_string_string ?_
  simp only [a0, l0, OS.ao, List.map_cons, List.map_nil, List.length_cons, List.length_nil, List.cons_append, List.nil_append, Nat.reduceSub, Nat.reduceAdd, List.replicate_succ, List.replicate_zero, ir_slices_Equal_string_string, rs_slices_Equal_string_string, ZZ, IsnK_some, Za, Zb, Zc, Zd, Ze, Zf, Zg, Zh, rd, AV.un, AV.unA, AV.ad, Zi, Zj, Zk, Zl, Zm, Zn, Zo, Zp, Zq, Zr, Zs, Zt, Zu, Zv, Zw, Zx, Zy, Zz, Zaa, Zab, Zac, Zad, Zae, Zaf, Zag, Zah, Zai, Zaj, Zak, Zal, Zam, Zan, wk1, wk, Zao, Zap, Zaq, Zar, Zas, Zat, Zau, Zav, AV.kill, AO.kill, AV.thaw, AO.thaw, Zaw, Zax, Zay, Zaz, Zba, Zbb, Zbc, Zbd, Zbe, ite_true, ite_false, reduceCtorEq, Nat.reduceAdd, Nat.reduceMul, Nat.reduceLeDiff, Nat.reduceLT, Nat.reduceEqDiff, forall_const]
  simp only [strs, ZZ, IsnK_some, Za, Zb, Zc, Zd, Ze, Zf, Zg, Zh, rd, AV.un, AV.unA, AV.ad, Zi, Zj, Zk, Zl, Zm, Zn, Zo, Zp, Zq, Zr, Zs, Zt, Zu, Zv, Zw, Zx, Zy, Zz, Zaa, Zab, Zac, Zad, Zae, Zaf, Zag, Zah, Zai, Zaj, Zak, Zal, Zam, Zan, wk1, wk, Zao, Zap, Zaq, Zar, Zas, Zat, Zau, Zav, AV.kill, AO.kill, AV.thaw, AO.thaw, Zaw, Zax, Zay, Zaz, Zba, Zbb, Zbc, Zbd, Zbe, ite_true, ite_false, reduceCtorEq, Nat.reduceAdd, Nat.reduceMul, Nat.reduceLeDiff, Nat.reduceLT, Nat.reduceEqDiff, forall_const]
  have hln : (l.map fun x => [PV.str x]).length = l.length := by simp
  have hlm : (m.map fun x => [PV.str x]).length = m.length := by simp
  have hget : ∀ k x, l[k]? = some x → (l.map fun x => [PV.str x]).getD k [] = [.str x] := fun k p hp => getD_map hp
  have hgem : ∀ k x, m[k]? = some x → (m.map fun x => [PV.str x]).getD k [] = [.str x] := fun k p hp => getD_map hp
  generalize (l.map fun x => [PV.str x]) = es at *
  generalize (m.map fun x => [PV.str x]) = fs at *
  simp only [ZZ, IsnK_some, Za, Zb, Zc, Zd, Ze, Zf, Zg, Zh, rd, AV.un, AV.unA, AV.ad, Zi, Zj, Zk, Zl, Zm, Zn, Zo, Zp, Zq, Zr, Zs, Zt, Zu, Zv, Zw, Zx, Zy, Zz, Zaa, Zab, Zac, Zad, Zae, Zaf, Zag, Zah, Zai, Zaj, Zak, Zal, Zam, Zan, wk1, wk, Zao, Zap, Zaq, Zar, Zas, Zat, Zau, Zav, AV.kill, AO.kill, AV.thaw, AO.thaw, Zaw, Zax, Zay, Zaz, Zba, Zbb, Zbc, Zbd, Zbe, ite_true, ite_false, reduceCtorEq, Nat.reduceAdd, Nat.reduceMul, Nat.reduceLeDiff, Nat.reduceLT, Nat.reduceEqDiff, forall_const, hln, hlm]
  refine br ?_ ?_
  · intro h
    have : ¬ l = m := by rintro rfl; simp at h
    simp only [ZZ, IsnK_some, Za, Zb, Zc, Zd, Ze, Zf, Zg, Zh, rd, AV.un, AV.unA, AV.ad, Zi, Zj, Zk, Zl, Zm, Zn, Zo, Zp, Zq, Zr, Zs, Zt, Zu, Zv, Zw, Zx, Zy, Zz, Zaa, Zab, Zac, Zad, Zae, Zaf, Zag, Zah, Zai, Zaj, Zak, Zal, Zam, Zan, wk1, wk, Zao, Zap, Zaq, Zar, Zas, Zat, Zau, Zav, AV.kill, AO.kill, AV.thaw, AO.thaw, Zaw, Zax, Zay, Zaz, Zba, Zbb, Zbc, Zbd, Zbe, ite_true, ite_false, reduceCtorEq, Nat.reduceAdd, Nat.reduceMul, Nat.reduceLeDiff, Nat.reduceLT, Nat.reduceEqDiff, forall_const]
    simp [this]
  intro h
  have hlen : l.length = m.length := by have : (l.length : Int) = m.length := by simpa using h
                                        omega
  simp only [ZZ, IsnK_some, Za, Zb, Zc, Zd, Ze, Zf, Zg, Zh, rd, AV.un, AV.unA, AV.ad, Zi, Zj, Zk, Zl, Zm, Zn, Zo, Zp, Zq, Zr, Zs, Zt, Zu, Zv, Zw, Zx, Zy, Zz, Zaa, Zab, Zac, Zad, Zae, Zaf, Zag, Zah, Zai, Zaj, Zak, Zal, Zam, Zan, wk1, wk, Zao, Zap, Zaq, Zar, Zas, Zat, Zau, Zav, AV.kill, AO.kill, AV.thaw, AO.thaw, Zaw, Zax, Zay, Zaz, Zba, Zbb, Zbc, Zbd, Zbe, ite_true, ite_false, reduceCtorEq, Nat.reduceAdd, Nat.reduceMul, Nat.reduceLeDiff, Nat.reduceLT, Nat.reduceEqDiff, forall_const]
  refine loop_intro (fun n fr L => ∃ (k : Nat), k ≤ l.length ∧ n = l.length - k ∧ (l.take k = m.take k) ∧ fr = [.p (.sl 1 es), .p (.sl 1 fs), .any, .any, .any, .any, .any, .any, .any, .any, .any, .any, .p (int (l.length : Nat)), .p (int (k : Nat)), .any, .any, .any, .any, .any, .any, .any, .any, .any, .any, .any, .any] ∧ L = []) (l.length) [.p (.sl 1 es), .p (.sl 1 fs), .any, .any, .any, .any, .any, .any, .any, .any, .any, .any, .p (int (l.length : Nat)), .p (int (0 : Nat)), .any, .any, .any, .any, .any, .any, .any, .any, .any, .any, .any, .any] [] (by simp only [hln, ZZ, IsnK_some, Za, Zb, Zc, Zd, Ze, Zf, Zg, Zh, rd, AV.un, AV.unA, AV.ad, Zi, Zj, Zk, Zl, Zm, Zn, Zo, Zp, Zq, Zr, Zs, Zt, Zu, Zv, Zw, Zx, Zy, Zz, Zaa, Zab, Zac, Zad, Zae, Zaf, Zag, Zah, Zai, Zaj, Zak, Zal, Zam, Zan, wk1, wk, Zao, Zap, Zaq, Zar, Zas, Zat, Zau, Zav, AV.kill, AO.kill, AV.thaw, AO.thaw, Zaw, Zax, Zay, Zaz, Zba, Zbb, Zbc, Zbd, Zbe, ite_true, ite_false, reduceCtorEq, Nat.reduceAdd, Nat.reduceMul, Nat.reduceLeDiff, Nat.reduceLT, Nat.reduceEqDiff, forall_const]; try trivial) (by (simp only [ZZ, IsnK_some, Za, Zb, Zc, Zd, Ze, Zf, Zg, Zh, rd, AV.un, AV.unA, AV.ad, Zi, Zj, Zk, Zl, Zm, Zn, Zo, Zp, Zq, Zr, Zs, Zt, Zu, Zv, Zw, Zx, Zy, Zz, Zaa, Zab, Zac, Zad, Zae, Zaf, Zag, Zah, Zai, Zaj, Zak, Zal, Zam, Zan, wk1, wk, Zao, Zap, Zaq, Zar, Zas, Zat, Zau, Zav, AV.kill, AO.kill, AV.thaw, AO.thaw, Zaw, Zax, Zay, Zaz, Zba, Zbb, Zbc, Zbd, Zbe, ite_true, ite_false, reduceCtorEq, Nat.reduceAdd, Nat.reduceMul, Nat.reduceLeDiff, Nat.reduceLT, Nat.reduceEqDiff, forall_const]; try trivial)) ⟨0, by omega, by omega, by simp, rfl, rfl⟩ ?_
  rintro n fr L ⟨k, hk, rfl, hf, rfl, rfl⟩
  simp only [ir_slices_Equal_string_string_L0, ZZ, IsnK_some, Za, Zb, Zc, Zd, Ze, Zf, Zg, Zh, rd, AV.un, AV.unA, AV.ad, Zi, Zj, Zk, Zl, Zm, Zn, Zo, Zp, Zq, Zr, Zs, Zt, Zu, Zv, Zw, Zx, Zy, Zz, Zaa, Zab, Zac, Zad, Zae, Zaf, Zag, Zah, Zai, Zaj, Zak, Zal, Zam, Zan, wk1, wk, Zao, Zap, Zaq, Zar, Zas, Zat, Zau, Zav, AV.kill, AO.kill, AV.thaw, AO.thaw, Zaw, Zax, Zay, Zaz, Zba, Zbb, Zbc, Zbd, Zbe, ite_true, ite_false, reduceCtorEq, Nat.reduceAdd, Nat.reduceMul, Nat.reduceLeDiff, Nat.reduceLT, Nat.reduceEqDiff, forall_const]
  refine br ?_ ?_
  · intro h
    have hlt : k < l.length := by have := of_decide_eq_true h; omega
    obtain ⟨x, hx⟩ : ∃ x, l[k]? = some x := ⟨_, List.getElem?_eq_getElem hlt⟩
    obtain ⟨y, hy⟩ : ∃ y, m[k]? = some y := ⟨_, List.getElem?_eq_getElem (by omega)⟩
    have hg := hget k x hx
    have hg2 := hgem k y hy
    simp only [ZZ, IsnK_some, Za, Zb, Zc, Zd, Ze, Zf, Zg, Zh, rd, AV.un, AV.unA, AV.ad, Zi, Zj, Zk, Zl, Zm, Zn, Zo, Zp, Zq, Zr, Zs, Zt, Zu, Zv, Zw, Zx, Zy, Zz, Zaa, Zab, Zac, Zad, Zae, Zaf, Zag, Zah, Zai, Zaj, Zak, Zal, Zam, Zan, wk1, wk, Zao, Zap, Zaq, Zar, Zas, Zat, Zau, Zav, AV.kill, AO.kill, AV.thaw, AO.thaw, Zaw, Zax, Zay, Zaz, Zba, Zbb, Zbc, Zbd, Zbe, ite_true, ite_false, reduceCtorEq, Nat.reduceAdd, Nat.reduceMul, Nat.reduceLeDiff, Nat.reduceLT, Nat.reduceEqDiff, forall_const]
    refine drg0 ?_
    simp only [ZZ, IsnK_some, Za, Zb, Zc, Zd, Ze, Zf, Zg, Zh, rd, AV.un, AV.unA, AV.ad, Zi, Zj, Zk, Zl, Zm, Zn, Zo, Zp, Zq, Zr, Zs, Zt, Zu, Zv, Zw, Zx, Zy, Zz, Zaa, Zab, Zac, Zad, Zae, Zaf, Zag, Zah, Zai, Zaj, Zak, Zal, Zam, Zan, wk1, wk, Zao, Zap, Zaq, Zar, Zas, Zat, Zau, Zav, AV.kill, AO.kill, AV.thaw, AO.thaw, Zaw, Zax, Zay, Zaz, Zba, Zbb, Zbc, Zbd, Zbe, ite_true, ite_false, reduceCtorEq, Nat.reduceAdd, Nat.reduceMul, Nat.reduceLeDiff, Nat.reduceLT, Nat.reduceEqDiff, forall_const, hg, hg2, hln, hlm]
    ((repeat' (with_reducible apply And.intro)) <;> try ((first | first | assumption | trivial | exact (fun hq => by rw [hq]; rfl) | exact i64_of (by omega) (by omega) | omega | (simp; done) | (simp; omega) | (intro hsc; have hs0 := hsc; (try have hsd := of_decide_eq_true hsc); (try simp only [Bool.not_eq_true', Bool.or_eq_false_iff, Bool.and_eq_true, Bool.or_eq_true, decide_eq_true_eq, decide_eq_false_iff_not] at hsc); (repeat' (with_reducible apply And.intro)) <;> (first | assumption | trivial | exact (fun hq => by rw [hq]; rfl) | exact i64_of (by omega) (by omega) | omega | (simp; done) | (simp; omega) | (intro hse; simp [hse, hs0]; done) | (intro hse; simp only [hse, hs0, Bool.true_and, Bool.and_true, Bool.not_false, Bool.not_true, Bool.and_self]; done))))))
    refine br ?_ ?_
    · intro h2
      have : ¬ l = m := by
        rintro rfl
        rw [hx] at hy
        cases hy
        simp at h2
      simp only [ZZ, IsnK_some, Za, Zb, Zc, Zd, Ze, Zf, Zg, Zh, rd, AV.un, AV.unA, AV.ad, Zi, Zj, Zk, Zl, Zm, Zn, Zo, Zp, Zq, Zr, Zs, Zt, Zu, Zv, Zw, Zx, Zy, Zz, Zaa, Zab, Zac, Zad, Zae, Zaf, Zag, Zah, Zai, Zaj, Zak, Zal, Zam, Zan, wk1, wk, Zao, Zap, Zaq, Zar, Zas, Zat, Zau, Zav, AV.kill, AO.kill, AV.thaw, AO.thaw, Zaw, Zax, Zay, Zaz, Zba, Zbb, Zbc, Zbd, Zbe, ite_true, ite_false, reduceCtorEq, Nat.reduceAdd, Nat.reduceMul, Nat.reduceLeDiff, Nat.reduceLT, Nat.reduceEqDiff, forall_const]
      simp [this]
    · intro h2
      have hxy : x = y := by simpa using h2
      simp only [ZZ, IsnK_some, Za, Zb, Zc, Zd, Ze, Zf, Zg, Zh, rd, AV.un, AV.unA, AV.ad, Zi, Zj, Zk, Zl, Zm, Zn, Zo, Zp, Zq, Zr, Zs, Zt, Zu, Zv, Zw, Zx, Zy, Zz, Zaa, Zab, Zac, Zad, Zae, Zaf, Zag, Zah, Zai, Zaj, Zak, Zal, Zam, Zan, wk1, wk, Zao, Zap, Zaq, Zar, Zas, Zat, Zau, Zav, AV.kill, AO.kill, AV.thaw, AO.thaw, Zaw, Zax, Zay, Zaz, Zba, Zbb, Zbc, Zbd, Zbe, ite_true, ite_false, reduceCtorEq, Nat.reduceAdd, Nat.reduceMul, Nat.reduceLeDiff, Nat.reduceLT, Nat.reduceEqDiff, forall_const]
      ((repeat' (with_reducible apply And.intro)) <;> try ((first | first | assumption | trivial | exact (fun hq => by rw [hq]; rfl) | exact i64_of (by omega) (by omega) | omega | (simp; done) | (simp; omega) | (intro hsc; have hs0 := hsc; (try have hsd := of_decide_eq_true hsc); (try simp only [Bool.not_eq_true', Bool.or_eq_false_iff, Bool.and_eq_true, Bool.or_eq_true, decide_eq_true_eq, decide_eq_false_iff_not] at hsc); (repeat' (with_reducible apply And.intro)) <;> (first | assumption | trivial | exact (fun hq => by rw [hq]; rfl) | exact i64_of (by omega) (by omega) | omega | (simp; done) | (simp; omega) | (intro hse; simp [hse, hs0]; done) | (intro hse; simp only [hse, hs0, Bool.true_and, Bool.and_true, Bool.not_false, Bool.not_true, Bool.and_self]; done))))))
      refine end_round (l.length - (k + 1)) [.p (.sl 1 es), .p (.sl 1 fs), .any, .any, .any, .any, .any, .any, .any, .any, .any, .any, .p (int (l.length : Nat)), .p (int ((k + 1) : Nat)), .any, .any, .any, .any, .any, .any, .any, .any, .any, .any, .any, .any] [] (by omega) (by (simp only [ZZ, IsnK_some, Za, Zb, Zc, Zd, Ze, Zf, Zg, Zh, rd, AV.un, AV.unA, AV.ad, Zi, Zj, Zk, Zl, Zm, Zn, Zo, Zp, Zq, Zr, Zs, Zt, Zu, Zv, Zw, Zx, Zy, Zz, Zaa, Zab, Zac, Zad, Zae, Zaf, Zag, Zah, Zai, Zaj, Zak, Zal, Zam, Zan, wk1, wk, Zao, Zap, Zaq, Zar, Zas, Zat, Zau, Zav, AV.kill, AO.kill, AV.thaw, AO.thaw, Zaw, Zax, Zay, Zaz, Zba, Zbb, Zbc, Zbd, Zbe, ite_true, ite_false, reduceCtorEq, Nat.reduceAdd, Nat.reduceMul, Nat.reduceLeDiff, Nat.reduceLT, Nat.reduceEqDiff, forall_const]; try trivial)) (by (simp only [ZZ, IsnK_some, Za, Zb, Zc, Zd, Ze, Zf, Zg, Zh, rd, AV.un, AV.unA, AV.ad, Zi, Zj, Zk, Zl, Zm, Zn, Zo, Zp, Zq, Zr, Zs, Zt, Zu, Zv, Zw, Zx, Zy, Zz, Zaa, Zab, Zac, Zad, Zae, Zaf, Zag, Zah, Zai, Zaj, Zak, Zal, Zam, Zan, wk1, wk, Zao, Zap, Zaq, Zar, Zas, Zat, Zau, Zav, AV.kill, AO.kill, AV.thaw, AO.thaw, Zaw, Zax, Zay, Zaz, Zba, Zbb, Zbc, Zbd, Zbe, ite_true, ite_false, reduceCtorEq, Nat.reduceAdd, Nat.reduceMul, Nat.reduceLeDiff, Nat.reduceLT, Nat.reduceEqDiff, forall_const]; try trivial)) ⟨k + 1, by omega, rfl, by rw [List.take_add_one, List.take_add_one, hf, hx, hy, hxy], rfl, rfl⟩
  · intro h
    have hge : l.length ≤ k := by have := of_decide_eq_false h; omega
    simp only [ZZ, IsnK_some, Za, Zb, Zc, Zd, Ze, Zf, Zg, Zh, rd, AV.un, AV.unA, AV.ad, Zi, Zj, Zk, Zl, Zm, Zn, Zo, Zp, Zq, Zr, Zs, Zt, Zu, Zv, Zw, Zx, Zy, Zz, Zaa, Zab, Zac, Zad, Zae, Zaf, Zag, Zah, Zai, Zaj, Zak, Zal, Zam, Zan, wk1, wk, Zao, Zap, Zaq, Zar, Zas, Zat, Zau, Zav, AV.kill, AO.kill, AV.thaw, AO.thaw, Zaw, Zax, Zay, Zaz, Zba, Zbb, Zbc, Zbd, Zbe, ite_true, ite_false, reduceCtorEq, Nat.reduceAdd, Nat.reduceMul, Nat.reduceLeDiff, Nat.reduceLT, Nat.reduceEqDiff, forall_const]
    rw [List.take_of_length_le hge, List.take_of_length_le (by omega)] at hf
    simp [hf]
end
end Go.Proofs.YtndjmidmfmcbkaaDoor
