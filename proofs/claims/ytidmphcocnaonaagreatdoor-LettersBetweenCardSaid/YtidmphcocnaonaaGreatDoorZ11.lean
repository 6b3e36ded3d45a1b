
/- Own texts, put together: W10 W11. -/
import Derived.Test.YtidmphcocnaonaaGreatDoorZ10
import Derived.Test.YtidmphcocnaonaaGreatDoorZ8
import Derived.Laws.Cover4
/- A letter that is made: its sizes. (Written by wip/genw10.py.) -/
namespace Go.Proofs.YtidmphcocnaonaaGreatDoor
open Go.RowKit
set_option linter.unusedVariables false
set_option linter.unusedSimpArgs false
set_option linter.defProp false

/- (*paperchase/chasemake.Stream).Letter -/
def ir_chasemake_Stream_Letter_L1 : IC :=
  (.seq (.reg [⟨some 62, .bin .lss (.t 61) (.t 60), none⟩])
    (.seq (.cond (.t 62) .skip (.exit 2))
    (.seq (.block 3 (.seq (.reg [⟨some 63, .mov (.t 0), none⟩,
      ⟨some 64, .bsr 9 1 [.c (.str [103, 111, 110, 101, 49]), .c (.str [103, 111, 110, 101, 50])], none⟩,
      ⟨some 65, .mov (.t 3), none⟩,
      ⟨some 66, .app 9 1 16 (.t 64) (.t 65), none⟩,
      ⟨none, .fz (.t 66), none⟩,
      ⟨some 67, .call 45 [.t 63, .t 66], none⟩,
      ⟨some 12, .mov (.t 67), none⟩])
    (.seq (.reg [⟨some 68, .mov (.t 12), none⟩,
      ⟨some 69, .mov (.t 1), none⟩,
      ⟨some 70, .bin .neq (.t 68) (.t 69), none⟩,
      ⟨some 71, .mov (.t 70), none⟩,
      ⟨some 72, .fla 6 (.t 9), (some (71, true))⟩,
      ⟨some 73, .ld 1 false (.t 72), (some (71, true))⟩,
      ⟨some 74, .mov (.t 12), (some (71, true))⟩,
      ⟨some 75, .call 42 [.t 73, .t 74], (some (71, true))⟩,
      ⟨some 76, .not (.t 75), (some (71, true))⟩,
      ⟨some 77, .pick (.t 71) (.t 76) (.c (.bool false)), none⟩])
    (.cond (.t 77) (.reg [⟨some 78, .fla 6 (.t 9), none⟩,
      ⟨some 79, .ld 1 false (.t 78), none⟩,
      ⟨some 80, .mov (.t 12), none⟩,
      ⟨none, .fz (.t 80), none⟩,
      ⟨some 81, .bsl 1 [.t 80], none⟩,
      ⟨some 82, .app 9 1 16 (.t 79) (.t 81), none⟩,
      ⟨some 83, .fla 6 (.t 9), none⟩,
      ⟨none, .st 1 (.t 83) (.t 82), none⟩]) .skip))))
    (.cut (.reg [⟨some 84, .bin .add (.t 61) (.c (.int .i64 1)), none⟩,
      ⟨some 61, .mov (.t 84), none⟩])))))
def ir_chasemake_Stream_Letter_L0 : IC :=
  (.seq (.reg [⟨some 31, .bin .lss (.t 30) (.t 29), none⟩])
    (.seq (.cond (.t 31) .skip (.exit 0))
    (.seq (.block 1 (.seq (.reg [⟨some 32, .mov (.t 0), none⟩,
      ⟨some 33, .call 254 [], none⟩,
      ⟨some 34, .call 45 [.t 32, .t 33], none⟩,
      ⟨none, .fz (.t 34), none⟩,
      ⟨some 35, .bld [.str [], .str []] [(1, 1, .t 34)], none⟩,
      ⟨some 11, .alc 71 [.str [], .str []], none⟩,
      ⟨none, .st 2 (.t 11) (.t 35), none⟩])
    (.seq (.seq (.reg [⟨some 36, .mov (.t 10), none⟩,
      ⟨some 37, .fla 1 (.t 11), none⟩,
      ⟨some 38, .ld 1 false (.t 37), none⟩,
      ⟨some 39, .mpl false (.bool false) (.t 36) (.t 38), none⟩])
    (.cond (.t 39) (.exit 1) .skip))
    (.seq (.reg [⟨some 40, .mov (.t 10), none⟩,
      ⟨some 41, .fla 1 (.t 11), none⟩,
      ⟨some 42, .ld 1 false (.t 41), none⟩,
      ⟨none, .mpu (.t 40) (.t 42) (.c (.bool true)), none⟩])
    (.seq (.reg [⟨some 43, .mov (.t 0), none⟩,
      ⟨some 44, .call 44 [.t 43, .c (.int .i64 3)], none⟩])
    (.cond (.t 44) (.reg [⟨some 45, .fla 5 (.t 9), none⟩,
      ⟨some 46, .ld 1 false (.t 45), none⟩,
      ⟨some 47, .ld 2 true (.t 11), none⟩,
      ⟨some 48, .bsl 2 [.t 47], none⟩,
      ⟨some 49, .app 71 2 32 (.t 46) (.t 48), none⟩,
      ⟨some 50, .fla 5 (.t 9), none⟩,
      ⟨none, .st 1 (.t 50) (.t 49), none⟩]) (.reg [⟨some 51, .fla 4 (.t 9), none⟩,
      ⟨some 52, .ld 1 false (.t 51), none⟩,
      ⟨some 53, .ld 2 true (.t 11), none⟩,
      ⟨some 54, .bsl 2 [.t 53], none⟩,
      ⟨some 55, .app 71 2 32 (.t 52) (.t 54), none⟩,
      ⟨some 56, .fla 4 (.t 9), none⟩,
      ⟨none, .st 1 (.t 56) (.t 55), none⟩])))))))
    (.cut (.reg [⟨some 57, .bin .add (.t 30) (.c (.int .i64 1)), none⟩,
      ⟨some 30, .mov (.t 57), none⟩])))))
def ir_chasemake_Stream_Letter : IC :=
  (.seq (.reg [⟨some 8, .alc 74 [.str [], .int .i64 0, .str [], .str [], .nl 2, .nl 2, .nl 1, .str [], .str []], none⟩])
    (.seq (.reg [⟨some 13, .mov (.t 1), none⟩,
      ⟨some 14, .mov (.t 2), none⟩,
      ⟨some 15, .mov (.t 0), none⟩,
      ⟨some 16, .call 254 [], none⟩,
      ⟨some 17, .call 45 [.t 15, .t 16], none⟩,
      ⟨none, .fz (.t 17), none⟩,
      ⟨some 18, .bld [.str [], .str []] [(1, 1, .t 17)], none⟩,
      ⟨some 19, .mov (.t 0), none⟩,
      ⟨some 20, .call 255 [.t 19], none⟩,
      ⟨none, .fz (.t 20), none⟩,
      ⟨some 21, .bld [.str [], .int .i64 0, .str [], .str [], .nl 2, .nl 2, .nl 1, .str [], .str []] [(0, 1, .t 13), (1, 1, .t 14), (2, 2, .t 18), (8, 1, .t 20)], none⟩,
      ⟨some 9, .alc 74 [.str [], .int .i64 0, .str [], .str [], .nl 2, .nl 2, .nl 1, .str [], .str []], none⟩,
      ⟨none, .st 9 (.t 9) (.t 21), none⟩])
    (.seq (.reg [⟨some 22, .mov (.t 0), none⟩,
      ⟨some 23, .bsl 1 [.c (.str []), .c (.str []), .c (.str [65, 110, 110, 32, 76, 101, 101]), .c (.str [195, 137, 97])], none⟩,
      ⟨some 24, .call 45 [.t 22, .t 23], none⟩,
      ⟨some 25, .fla 2 (.t 9), none⟩,
      ⟨some 26, .fla 0 (.t 25), none⟩,
      ⟨none, .st 1 (.t 26) (.t 24), none⟩])
    (.seq (.reg [⟨some 27, .mkm 9 4, none⟩,
      ⟨some 10, .mov (.t 27), none⟩])
    (.seq (.seq (.reg [⟨some 28, .mov (.t 0), none⟩,
      ⟨some 29, .call 19 [.t 28, .c (.int .i64 0), .c (.int .i64 3)], none⟩,
      ⟨some 30, .mov (.c (.int .i64 0)), none⟩])
    (.block 0 (.loop ir_chasemake_Stream_Letter_L0)))
    (.seq (.seq (.reg [⟨some 58, .mov (.t 0), none⟩,
      ⟨none, .re, none⟩,
      ⟨some 59, .bsl 1 [.c (.int .i64 0), .c (.int .i64 0), .c (.int .i64 1), .c (.int .i64 1), .c (.int .i64 2)], none⟩,
      ⟨some 60, .call 59 [.t 58, .t 59], none⟩,
      ⟨some 61, .mov (.c (.int .i64 0)), none⟩])
    (.block 2 (.loop ir_chasemake_Stream_Letter_L1)))
    (.seq (.reg [⟨some 85, .mov (.t 0), none⟩,
      ⟨none, .re, none⟩,
      ⟨some 86, .bsl 1 [.c (.str []), .c (.str [76, 117, 110, 99, 104]), .c (.str [82, 101, 58, 32, 76, 117, 110, 99, 104]), .c (.str [82, 69, 58, 32, 70, 119, 100, 58, 32, 108, 117, 110, 99, 104]), .c (.str [76, 101, 103, 97, 108, 32, 97, 100, 118, 105, 99, 101]), .c (.str [82, 101, 58, 32, 108, 101, 103, 97, 108, 32, 32, 97, 100, 118, 105, 99, 101]), .c (.str [79, 116, 104, 101, 114])], none⟩,
      ⟨some 87, .call 45 [.t 85, .t 86], none⟩,
      ⟨some 88, .fla 7 (.t 9), none⟩,
      ⟨none, .st 1 (.t 88) (.t 87), none⟩])
    (.seq (.reg [⟨some 89, .fla 7 (.t 9), none⟩,
      ⟨some 90, .ld 1 false (.t 89), none⟩,
      ⟨some 91, .call 176 [.t 90], none⟩,
      ⟨some 92, .call 256 [.t 91, .c (.str [32])], none⟩,
      ⟨some 93, .fla 7 (.t 9), none⟩,
      ⟨none, .st 1 (.t 93) (.t 92), none⟩])
    (.seq (.reg [⟨some 94, .ld 9 true (.t 9), none⟩,
      ⟨none, .st 9 (.t 8) (.t 94), none⟩])
    .ret)))))))))
def rs_chasemake_Stream_Letter : List IRes := [.c 8 9 true]
theorem ck_chasemake_Stream_Letter : chkF Tryz.prog Tryz.f185 ir_chasemake_Stream_Letter rs_chasemake_Stream_Letter 95 = true := by kernel_rfl

/-- A field that may be nil: its cell, its row, its value. -/
def cT (q : Nat) : List AdT → AV
  | [] => .p (.nl 2)
  | _ :: _ => .row (.l q)
def oT (q : Nat) : List AdT → Objs
  | [] => []
  | a :: r => [(.l q, .row (adrE (a :: r)) tAdr 2 true)]
def pT : List AdT → PV
  | [] => .nl 2
  | a :: r => .sl 2 (adrE (a :: r))
abbrev tStrW : Nat := 9
def cSt (q : Nat) : List (List UInt8) → AV
  | [] => .p (.nl 1)
  | _ :: _ => .row (.l q)
def oSt (q : Nat) : List (List UInt8) → Objs
  | [] => []
  | a :: r => [(.l q, .row (strE (a :: r)) tStrW 1 true)]
def pSt : List (List UInt8) → PV
  | [] => .nl 1
  | a :: r => .sl 1 (strE (a :: r))
def nmA : List (List UInt8) := [[], [], [65, 110, 110, 32, 76, 101, 101], [195, 137, 97]]
theorem nmA_len : ∀ s ∈ nmA, s.length ≤ 30000 := by decide
def sjA : List (List UInt8) := [[], [76, 117, 110, 99, 104], [82, 101, 58, 32, 76, 117, 110, 99, 104], [82, 69, 58, 32, 70, 119, 100, 58, 32, 108, 117, 110, 99, 104], [76, 101, 103, 97, 108, 32, 97, 100, 118, 105, 99, 101], [82, 101, 58, 32, 108, 101, 103, 97, 108, 32, 32, 97, 100, 118, 105, 99, 101], [79, 116, 104, 101, 114]]
theorem sjA_ok : ∀ s ∈ sjA, s.length ≤ 100 ∧ s.all (fun b => decide (b.toNat < 128)) = true ∧ (Lib.fields s).length ≤ 1000 ∧ (Lib.join (Lib.fields s) [32]).length ≤ 30000 := by decide +kernel
def gnA : List (List UInt8) := [[103, 111, 110, 101, 49], [103, 111, 110, 101, 50]]
set_option maxHeartbeats 4000000 in
set_option maxRecDepth 100000 in
theorem Letter_ok (l : List Int) (k : Nat) (id : List UInt8) (at_ : Int) (ids : List (List UInt8)) (hid : id.length ≤ 100) (hids : ids.length ≤ 100) (hib : ∀ s ∈ ids, s.length ≤ 100) (hk : k ≤ 800000) (hl : l.length ≤ 9223372036854775807) :
    SCall Tryz.prog E6 185 T (stm l k) [.str id, int at_, .sl 1 (strE ids)] (fun x cs' => ∃ m k', x = .agg (ltV m) ∧ LtM 10 m ∧ cs' = stm l k' ∧ k' ≤ k + 100) := by
  unfold SCall
  refine gcallP mixed Tryz.func185 ck_chasemake_Stream_Letter ?_
  simp only [a0, l0, OS.ao, List.map_cons, List.map_nil, List.length_cons, List.length_nil, List.cons_append, List.nil_append, Nat.reduceSub, Nat.reduceAdd, List.replicate_succ, List.replicate_zero, ir_chasemake_Stream_Letter, rs_chasemake_Stream_Letter, ZZ, YY, Ze, ite_true, ite_false, forall_const, reduceCtorEq, Nat.reduceAdd, Nat.reduceMul, Nat.reduceLeDiff, Nat.reduceLT, Nat.reduceEqDiff]
  refine use1 people_ok rfl (.inl rfl) ?_
  simp only [ZZ, YY, Ze, ite_true, ite_false, forall_const, reduceCtorEq, Nat.reduceAdd, Nat.reduceMul, Nat.reduceLeDiff, Nat.reduceLT, Nat.reduceEqDiff]
  refine useS (one_ok l k peA (by omega) hl (by decide) (by decide)) rfl rfl rfl (by simp only [ZZ, YY, Ze, ite_true, ite_false, forall_const, reduceCtorEq, Nat.reduceAdd, Nat.reduceMul, Nat.reduceLeDiff, Nat.reduceLT, Nat.reduceEqDiff]) ?_
  rintro x cs' ⟨f, rfl, hf, rfl⟩
  have hf := peA_len f hf
  simp only [ZZ, YY, Ze, ite_true, ite_false, forall_const, reduceCtorEq, Nat.reduceAdd, Nat.reduceMul, Nat.reduceLeDiff, Nat.reduceLT, Nat.reduceEqDiff]
  refine useS (body_ok l (k + 1) (by omega) hl) rfl rfl rfl (by simp only [ZZ, YY, Ze, ite_true, ite_false, forall_const, reduceCtorEq, Nat.reduceAdd, Nat.reduceMul, Nat.reduceLeDiff, Nat.reduceLT, Nat.reduceEqDiff]) ?_
  rintro x cs' ⟨bd, k1, rfl, hbd, rfl, hk1⟩
  simp only [ZZ, YY, Ze, ite_true, ite_false, forall_const, reduceCtorEq, Nat.reduceAdd, Nat.reduceMul, Nat.reduceLeDiff, Nat.reduceLT, Nat.reduceEqDiff]
  refine useS (one_ok l k1 nmA (by omega) hl (by decide) (by decide)) rfl rfl rfl (by simp only [ZZ, YY, Ze, ite_true, ite_false, forall_const, reduceCtorEq, Nat.reduceAdd, Nat.reduceMul, Nat.reduceLeDiff, Nat.reduceLT, Nat.reduceEqDiff]) ?_
  rintro x cs' ⟨nm, rfl, hnm, rfl⟩
  have hnm := nmA_len nm hnm
  simp only [ZZ, YY, Ze, ite_true, ite_false, forall_const, reduceCtorEq, Nat.reduceAdd, Nat.reduceMul, Nat.reduceLeDiff, Nat.reduceLT, Nat.reduceEqDiff]
  refine useS (Range_ok l (k1 + 1) 0 3 (by omega) hl (by decide) (by decide) (by decide)) rfl rfl rfl (by simp only [ZZ, YY, Ze, ite_true, ite_false, forall_const, reduceCtorEq, Nat.reduceAdd, Nat.reduceMul, Nat.reduceLeDiff, Nat.reduceLT, Nat.reduceEqDiff]) ?_
  rintro x cs' ⟨z, rfl, hz0, hz3, rfl⟩
  simp only [ZZ, YY, Ze, ite_true, ite_false, forall_const, reduceCtorEq, Nat.reduceAdd, Nat.reduceMul, Nat.reduceLeDiff, Nat.reduceLT, Nat.reduceEqDiff]
  refine loop_intro (fun n fr L => ∃ (i k' : Nat) (W : List (List UInt8)) (kv : List (List UInt8 × PV)) (ts cc : List AdT), i ≤ 3 ∧ n = 3 - i ∧ k' ≤ k1 + 2 + 4 * i ∧ setOf kv W ∧ ts.length ≤ i ∧ cc.length ≤ i ∧ (∀ a ∈ ts, a.1.length ≤ 30000 ∧ a.2.length ≤ 30000) ∧ (∀ a ∈ cc, a.1.length ≤ 30000 ∧ a.2.length ≤ 30000) ∧ fr = [.adr (.b 0) 0, .p (.str id), .any, .p (.sl 1 (strE ids)), .any, .any, .any, .any, .adr (.l 8) 0, .adr (.l 9) 0, .mp (.l 27), .any, .any, .any, .any, .any, .any, .any, .any, .any, .any, .any, .any, .any, .any, .any, .any, .any, .any, .p (int z), .p (int (i : Nat)), .any, .any, .any, .any, .any, .any, .any, .any, .any, .any, .any, .any, .any, .any, .any, .any, .any, .any, .any, .any, .any, .any, .any, .any, .any, .any, .any, .any, .any, .any, .any, .any, .any, .any, .any, .any, .any, .any, .any, .any, .any, .any, .any, .any, .any, .any, .any, .any, .any, .any, .any, .any, .any, .any, .any, .any, .any, .any, .any, .any, .any, .any, .any, .any] ∧ L = ([(.b 0, .box ((stm l (k')).map .p) T), (.l 8, .box [.p (.str []), .p (int 0), .p (.str []), .p (.str []), .p (.nl 2), .p (.nl 2), .p (.nl 1), .p (.str []), .p (.str [])] tMail), (.l 9, .box [.p (.str id), .p (int at_), .p (.str nm), .p (.str f), cT 55 (ts), cT 49 (cc), .p (.nl 1), .p (.str []), .p (.str bd)] tMail), (.l 27, .map (kv) 9 4)] ++ (oT 55 (ts) ++ oT 49 (cc)))) 3 [.adr (.b 0) 0, .p (.str id), .any, .p (.sl 1 (strE ids)), .any, .any, .any, .any, .adr (.l 8) 0, .adr (.l 9) 0, .mp (.l 27), .any, .any, .any, .any, .any, .any, .any, .any, .any, .any, .any, .any, .any, .any, .any, .any, .any, .any, .p (int z), .p (int (0 : Nat)), .any, .any, .any, .any, .any, .any, .any, .any, .any, .any, .any, .any, .any, .any, .any, .any, .any, .any, .any, .any, .any, .any, .any, .any, .any, .any, .any, .any, .any, .any, .any, .any, .any, .any, .any, .any, .any, .any, .any, .any, .any, .any, .any, .any, .any, .any, .any, .any, .any, .any, .any, .any, .any, .any, .any, .any, .any, .any, .any, .any, .any, .any, .any, .any] ([(.b 0, .box ((stm l (k1 + 1 + 1)).map .p) T), (.l 8, .box [.p (.str []), .p (int 0), .p (.str []), .p (.str []), .p (.nl 2), .p (.nl 2), .p (.nl 1), .p (.str []), .p (.str [])] tMail), (.l 9, .box [.p (.str id), .p (int at_), .p (.str nm), .p (.str f), cT 55 ([]), cT 49 ([]), .p (.nl 1), .p (.str []), .p (.str bd)] tMail), (.l 27, .map ([]) 9 4)] ++ (oT 55 ([]) ++ oT 49 ([]))) (by (simp only [ZZ, YY, Ze, ite_true, ite_false, forall_const, reduceCtorEq, Nat.reduceAdd, Nat.reduceMul, Nat.reduceLeDiff, Nat.reduceLT, Nat.reduceEqDiff]; try trivial)) (by simp only [ZZ, YY, Ze, ite_true, ite_false, forall_const, reduceCtorEq, Nat.reduceAdd, Nat.reduceMul, Nat.reduceLeDiff, Nat.reduceLT, Nat.reduceEqDiff, cT, oT]) ⟨0, k1 + 1 + 1, [], [], [], [], by omega, by omega, by omega, setOf_nil, by simp, by simp, by simp, by simp, rfl, rfl⟩ ?_
  rintro n fr L ⟨i, k', W, kv, ts, cc, hi3, rfl, hk', hkv, ht1, hc1, ht2, hc2, rfl, rfl⟩
  simp only [ir_chasemake_Stream_Letter_L0, ZZ, YY, Ze, ite_true, ite_false, forall_const, reduceCtorEq, Nat.reduceAdd, Nat.reduceMul, Nat.reduceLeDiff, Nat.reduceLT, Nat.reduceEqDiff]
  refine br ?_ ?_
  · intro h
    have hlt : (i : Int) < z := of_decide_eq_true h
    rcases ts with _ | ⟨t0, tr⟩ <;> rcases cc with _ | ⟨c0, cr⟩
    · simp only [cT, oT, ZZ, YY, Ze, ite_true, ite_false, forall_const, reduceCtorEq, Nat.reduceAdd, Nat.reduceMul, Nat.reduceLeDiff, Nat.reduceLT, Nat.reduceEqDiff]
      refine use1 people_ok rfl (.inl rfl) ?_
      simp only [ZZ, YY, Ze, ite_true, ite_false, forall_const, reduceCtorEq, Nat.reduceAdd, Nat.reduceMul, Nat.reduceLeDiff, Nat.reduceLT, Nat.reduceEqDiff]
      refine useS (one_ok l k' peA (by omega) hl (by decide) (by decide)) rfl rfl rfl (by simp only [ZZ, YY, Ze, ite_true, ite_false, forall_const, reduceCtorEq, Nat.reduceAdd, Nat.reduceMul, Nat.reduceLeDiff, Nat.reduceLT, Nat.reduceEqDiff]) ?_
      rintro x cs' ⟨g, rfl, hg, rfl⟩
      have hg := peA_len g hg
      simp only [ZZ, YY, Ze, ite_true, ite_false, forall_const, reduceCtorEq, Nat.reduceAdd, Nat.reduceMul, Nat.reduceLeDiff, Nat.reduceLT, Nat.reduceEqDiff, hkv g]
      refine br ?_ ?_
      · intro _
        simp only [ZZ, YY, Ze, ite_true, ite_false, forall_const, reduceCtorEq, Nat.reduceAdd, Nat.reduceMul, Nat.reduceLeDiff, Nat.reduceLT, Nat.reduceEqDiff]
        refine cut_same (by simp only [ZZ, YY, Ze, ite_true, ite_false, forall_const, reduceCtorEq, Nat.reduceAdd, Nat.reduceMul, Nat.reduceLeDiff, Nat.reduceLT, Nat.reduceEqDiff]) ?_
        simp only [ZZ, YY, Ze, ite_true, ite_false, forall_const, reduceCtorEq, Nat.reduceAdd, Nat.reduceMul, Nat.reduceLeDiff, Nat.reduceLT, Nat.reduceEqDiff]
        refine ⟨i64_of (by omega) (by omega), end_round (3 - (i + 1)) [.adr (.b 0) 0, .p (.str id), .any, .p (.sl 1 (strE ids)), .any, .any, .any, .any, .adr (.l 8) 0, .adr (.l 9) 0, .mp (.l 27), .any, .any, .any, .any, .any, .any, .any, .any, .any, .any, .any, .any, .any, .any, .any, .any, .any, .any, .p (int z), .p (int ((i + 1 : Nat))), .any, .any, .any, .any, .any, .any, .any, .any, .any, .any, .any, .any, .any, .any, .any, .any, .any, .any, .any, .any, .any, .any, .any, .any, .any, .any, .any, .any, .any, .any, .any, .any, .any, .any, .any, .any, .any, .any, .any, .any, .any, .any, .any, .any, .any, .any, .any, .any, .any, .any, .any, .any, .any, .any, .any, .any, .any, .any, .any, .any, .any, .any, .any, .any] ([(.b 0, .box ((stm l (k' + 1)).map .p) T), (.l 8, .box [.p (.str []), .p (int 0), .p (.str []), .p (.str []), .p (.nl 2), .p (.nl 2), .p (.nl 1), .p (.str []), .p (.str [])] tMail), (.l 9, .box [.p (.str id), .p (int at_), .p (.str nm), .p (.str f), cT 55 ([]), cT 49 ([]), .p (.nl 1), .p (.str []), .p (.str bd)] tMail), (.l 27, .map (kv) 9 4)] ++ (oT 55 ([]) ++ oT 49 ([]))) (by omega) (by (simp only [ZZ, YY, Ze, ite_true, ite_false, forall_const, reduceCtorEq, Nat.reduceAdd, Nat.reduceMul, Nat.reduceLeDiff, Nat.reduceLT, Nat.reduceEqDiff]; try trivial)) (by simp only [ZZ, YY, Ze, ite_true, ite_false, forall_const, reduceCtorEq, Nat.reduceAdd, Nat.reduceMul, Nat.reduceLeDiff, Nat.reduceLT, Nat.reduceEqDiff, cT, oT, adrE, adC, List.map_append]) ⟨i + 1, k' + 1, W, kv, [], [], by omega, rfl, by omega, hkv, (by simp only [List.length_append, List.length_cons, List.length_nil] at *; omega), (by simp only [List.length_append, List.length_cons, List.length_nil] at *; omega), ht2, hc2, rfl, rfl⟩⟩
      intro _
      simp only [ZZ, YY, Ze, ite_true, ite_false, forall_const, reduceCtorEq, Nat.reduceAdd, Nat.reduceMul, Nat.reduceLeDiff, Nat.reduceLT, Nat.reduceEqDiff]
      refine useS (Flip_ok l (k' + 1) 3 (by omega) hl (by decide)) rfl rfl rfl (by simp only [ZZ, YY, Ze, ite_true, ite_false, forall_const, reduceCtorEq, Nat.reduceAdd, Nat.reduceMul, Nat.reduceLeDiff, Nat.reduceLT, Nat.reduceEqDiff]) ?_
      rintro x cs' ⟨b, rfl, rfl⟩
      simp only [ZZ, YY, Ze, ite_true, ite_false, forall_const, reduceCtorEq, Nat.reduceAdd, Nat.reduceMul, Nat.reduceLeDiff, Nat.reduceLT, Nat.reduceEqDiff]
      refine br ?_ ?_
      · intro _
        simp only [ZZ, YY, Ze, ite_true, ite_false, forall_const, reduceCtorEq, Nat.reduceAdd, Nat.reduceMul, Nat.reduceLeDiff, Nat.reduceLT, Nat.reduceEqDiff, adrE_len, List.length_cons]
        refine cut_same (by simp only [ZZ, YY, Ze, ite_true, ite_false, forall_const, reduceCtorEq, Nat.reduceAdd, Nat.reduceMul, Nat.reduceLeDiff, Nat.reduceLT, Nat.reduceEqDiff]) ?_
        simp only [ZZ, YY, Ze, ite_true, ite_false, forall_const, reduceCtorEq, Nat.reduceAdd, Nat.reduceMul, Nat.reduceLeDiff, Nat.reduceLT, Nat.reduceEqDiff]
        refine ⟨i64_of (by omega) (by omega), end_round (3 - (i + 1)) [.adr (.b 0) 0, .p (.str id), .any, .p (.sl 1 (strE ids)), .any, .any, .any, .any, .adr (.l 8) 0, .adr (.l 9) 0, .mp (.l 27), .any, .any, .any, .any, .any, .any, .any, .any, .any, .any, .any, .any, .any, .any, .any, .any, .any, .any, .p (int z), .p (int ((i + 1 : Nat))), .any, .any, .any, .any, .any, .any, .any, .any, .any, .any, .any, .any, .any, .any, .any, .any, .any, .any, .any, .any, .any, .any, .any, .any, .any, .any, .any, .any, .any, .any, .any, .any, .any, .any, .any, .any, .any, .any, .any, .any, .any, .any, .any, .any, .any, .any, .any, .any, .any, .any, .any, .any, .any, .any, .any, .any, .any, .any, .any, .any, .any, .any, .any, .any] ([(.b 0, .box ((stm l (k' + 1 + 1)).map .p) T), (.l 8, .box [.p (.str []), .p (int 0), .p (.str []), .p (.str []), .p (.nl 2), .p (.nl 2), .p (.nl 1), .p (.str []), .p (.str [])] tMail), (.l 9, .box [.p (.str id), .p (int at_), .p (.str nm), .p (.str f), cT 55 ([]), cT 49 (([]) ++ [([], g)]), .p (.nl 1), .p (.str []), .p (.str bd)] tMail), (.l 27, .map (mpS kv g (.bool true)) 9 4)] ++ (oT 55 ([]) ++ oT 49 (([]) ++ [([], g)]))) (by omega) (by (simp only [ZZ, YY, Ze, ite_true, ite_false, forall_const, reduceCtorEq, Nat.reduceAdd, Nat.reduceMul, Nat.reduceLeDiff, Nat.reduceLT, Nat.reduceEqDiff]; try trivial)) (by simp only [ZZ, YY, Ze, ite_true, ite_false, forall_const, reduceCtorEq, Nat.reduceAdd, Nat.reduceMul, Nat.reduceLeDiff, Nat.reduceLT, Nat.reduceEqDiff, cT, oT, adrE, adC, List.map_append]) ⟨i + 1, k' + 1 + 1, W ++ [g], mpS kv g (.bool true), [], ([]) ++ [([], g)], by omega, rfl, by omega, setOf_put hkv g, (by simp only [List.length_append, List.length_cons, List.length_nil] at *; omega), (by simp only [List.length_append, List.length_cons, List.length_nil] at *; omega), ht2, (fun a ha => by rcases List.mem_append.1 ha with ha | ha; exact hc2 a ha; rw [List.mem_singleton] at ha; subst ha; exact ⟨by simp, show g.length ≤ 30000 by omega⟩), rfl, rfl⟩⟩
      · intro _
        simp only [ZZ, YY, Ze, ite_true, ite_false, forall_const, reduceCtorEq, Nat.reduceAdd, Nat.reduceMul, Nat.reduceLeDiff, Nat.reduceLT, Nat.reduceEqDiff, adrE_len, List.length_cons]
        refine cut_same (by simp only [ZZ, YY, Ze, ite_true, ite_false, forall_const, reduceCtorEq, Nat.reduceAdd, Nat.reduceMul, Nat.reduceLeDiff, Nat.reduceLT, Nat.reduceEqDiff]) ?_
        simp only [ZZ, YY, Ze, ite_true, ite_false, forall_const, reduceCtorEq, Nat.reduceAdd, Nat.reduceMul, Nat.reduceLeDiff, Nat.reduceLT, Nat.reduceEqDiff]
        refine ⟨i64_of (by omega) (by omega), end_round (3 - (i + 1)) [.adr (.b 0) 0, .p (.str id), .any, .p (.sl 1 (strE ids)), .any, .any, .any, .any, .adr (.l 8) 0, .adr (.l 9) 0, .mp (.l 27), .any, .any, .any, .any, .any, .any, .any, .any, .any, .any, .any, .any, .any, .any, .any, .any, .any, .any, .p (int z), .p (int ((i + 1 : Nat))), .any, .any, .any, .any, .any, .any, .any, .any, .any, .any, .any, .any, .any, .any, .any, .any, .any, .any, .any, .any, .any, .any, .any, .any, .any, .any, .any, .any, .any, .any, .any, .any, .any, .any, .any, .any, .any, .any, .any, .any, .any, .any, .any, .any, .any, .any, .any, .any, .any, .any, .any, .any, .any, .any, .any, .any, .any, .any, .any, .any, .any, .any, .any, .any] ([(.b 0, .box ((stm l (k' + 1 + 1)).map .p) T), (.l 8, .box [.p (.str []), .p (int 0), .p (.str []), .p (.str []), .p (.nl 2), .p (.nl 2), .p (.nl 1), .p (.str []), .p (.str [])] tMail), (.l 9, .box [.p (.str id), .p (int at_), .p (.str nm), .p (.str f), cT 55 (([]) ++ [([], g)]), cT 49 ([]), .p (.nl 1), .p (.str []), .p (.str bd)] tMail), (.l 27, .map (mpS kv g (.bool true)) 9 4)] ++ (oT 55 (([]) ++ [([], g)]) ++ oT 49 ([]))) (by omega) (by (simp only [ZZ, YY, Ze, ite_true, ite_false, forall_const, reduceCtorEq, Nat.reduceAdd, Nat.reduceMul, Nat.reduceLeDiff, Nat.reduceLT, Nat.reduceEqDiff]; try trivial)) (by simp only [ZZ, YY, Ze, ite_true, ite_false, forall_const, reduceCtorEq, Nat.reduceAdd, Nat.reduceMul, Nat.reduceLeDiff, Nat.reduceLT, Nat.reduceEqDiff, cT, oT, adrE, adC, List.map_append]) ⟨i + 1, k' + 1 + 1, W ++ [g], mpS kv g (.bool true), ([]) ++ [([], g)], [], by omega, rfl, by omega, setOf_put hkv g, (by simp only [List.length_append, List.length_cons, List.length_nil] at *; omega), (by simp only [List.length_append, List.length_cons, List.length_nil] at *; omega), (fun a ha => by rcases List.mem_append.1 ha with ha | ha; exact ht2 a ha; rw [List.mem_singleton] at ha; subst ha; exact ⟨by simp, show g.length ≤ 30000 by omega⟩), hc2, rfl, rfl⟩⟩
    · simp only [cT, oT, ZZ, YY, Ze, ite_true, ite_false, forall_const, reduceCtorEq, Nat.reduceAdd, Nat.reduceMul, Nat.reduceLeDiff, Nat.reduceLT, Nat.reduceEqDiff]
      simp only [List.length_cons] at hc1
      refine use1 people_ok rfl (.inl rfl) ?_
      simp only [ZZ, YY, Ze, ite_true, ite_false, forall_const, reduceCtorEq, Nat.reduceAdd, Nat.reduceMul, Nat.reduceLeDiff, Nat.reduceLT, Nat.reduceEqDiff]
      refine useS (one_ok l k' peA (by omega) hl (by decide) (by decide)) rfl rfl rfl (by simp only [ZZ, YY, Ze, ite_true, ite_false, forall_const, reduceCtorEq, Nat.reduceAdd, Nat.reduceMul, Nat.reduceLeDiff, Nat.reduceLT, Nat.reduceEqDiff]) ?_
      rintro x cs' ⟨g, rfl, hg, rfl⟩
      have hg := peA_len g hg
      simp only [ZZ, YY, Ze, ite_true, ite_false, forall_const, reduceCtorEq, Nat.reduceAdd, Nat.reduceMul, Nat.reduceLeDiff, Nat.reduceLT, Nat.reduceEqDiff, hkv g]
      refine br ?_ ?_
      · intro _
        simp only [ZZ, YY, Ze, ite_true, ite_false, forall_const, reduceCtorEq, Nat.reduceAdd, Nat.reduceMul, Nat.reduceLeDiff, Nat.reduceLT, Nat.reduceEqDiff]
        refine cut_same (by simp only [ZZ, YY, Ze, ite_true, ite_false, forall_const, reduceCtorEq, Nat.reduceAdd, Nat.reduceMul, Nat.reduceLeDiff, Nat.reduceLT, Nat.reduceEqDiff]) ?_
        simp only [ZZ, YY, Ze, ite_true, ite_false, forall_const, reduceCtorEq, Nat.reduceAdd, Nat.reduceMul, Nat.reduceLeDiff, Nat.reduceLT, Nat.reduceEqDiff]
        refine ⟨i64_of (by omega) (by omega), end_round (3 - (i + 1)) [.adr (.b 0) 0, .p (.str id), .any, .p (.sl 1 (strE ids)), .any, .any, .any, .any, .adr (.l 8) 0, .adr (.l 9) 0, .mp (.l 27), .any, .any, .any, .any, .any, .any, .any, .any, .any, .any, .any, .any, .any, .any, .any, .any, .any, .any, .p (int z), .p (int ((i + 1 : Nat))), .any, .any, .any, .any, .any, .any, .any, .any, .any, .any, .any, .any, .any, .any, .any, .any, .any, .any, .any, .any, .any, .any, .any, .any, .any, .any, .any, .any, .any, .any, .any, .any, .any, .any, .any, .any, .any, .any, .any, .any, .any, .any, .any, .any, .any, .any, .any, .any, .any, .any, .any, .any, .any, .any, .any, .any, .any, .any, .any, .any, .any, .any, .any, .any] ([(.b 0, .box ((stm l (k' + 1)).map .p) T), (.l 8, .box [.p (.str []), .p (int 0), .p (.str []), .p (.str []), .p (.nl 2), .p (.nl 2), .p (.nl 1), .p (.str []), .p (.str [])] tMail), (.l 9, .box [.p (.str id), .p (int at_), .p (.str nm), .p (.str f), cT 55 ([]), cT 49 (c0 :: cr), .p (.nl 1), .p (.str []), .p (.str bd)] tMail), (.l 27, .map (kv) 9 4)] ++ (oT 55 ([]) ++ oT 49 (c0 :: cr))) (by omega) (by (simp only [ZZ, YY, Ze, ite_true, ite_false, forall_const, reduceCtorEq, Nat.reduceAdd, Nat.reduceMul, Nat.reduceLeDiff, Nat.reduceLT, Nat.reduceEqDiff]; try trivial)) (by simp only [ZZ, YY, Ze, ite_true, ite_false, forall_const, reduceCtorEq, Nat.reduceAdd, Nat.reduceMul, Nat.reduceLeDiff, Nat.reduceLT, Nat.reduceEqDiff, cT, oT, adrE, adC, List.map_append]) ⟨i + 1, k' + 1, W, kv, [], c0 :: cr, by omega, rfl, by omega, hkv, (by simp only [List.length_append, List.length_cons, List.length_nil] at *; omega), (by simp only [List.length_append, List.length_cons, List.length_nil] at *; omega), ht2, hc2, rfl, rfl⟩⟩
      intro _
      simp only [ZZ, YY, Ze, ite_true, ite_false, forall_const, reduceCtorEq, Nat.reduceAdd, Nat.reduceMul, Nat.reduceLeDiff, Nat.reduceLT, Nat.reduceEqDiff]
      refine useS (Flip_ok l (k' + 1) 3 (by omega) hl (by decide)) rfl rfl rfl (by simp only [ZZ, YY, Ze, ite_true, ite_false, forall_const, reduceCtorEq, Nat.reduceAdd, Nat.reduceMul, Nat.reduceLeDiff, Nat.reduceLT, Nat.reduceEqDiff]) ?_
      rintro x cs' ⟨b, rfl, rfl⟩
      simp only [ZZ, YY, Ze, ite_true, ite_false, forall_const, reduceCtorEq, Nat.reduceAdd, Nat.reduceMul, Nat.reduceLeDiff, Nat.reduceLT, Nat.reduceEqDiff]
      refine br ?_ ?_
      · intro _
        simp only [ZZ, YY, Ze, ite_true, ite_false, forall_const, reduceCtorEq, Nat.reduceAdd, Nat.reduceMul, Nat.reduceLeDiff, Nat.reduceLT, Nat.reduceEqDiff, adrE_len, List.length_cons]
        ((repeat' (with_reducible apply And.intro)) <;> try ((first | first | assumption | trivial | exact (fun hq => by rw [hq]; rfl) | exact i64_of (by omega) (by omega) | omega | (simp; done) | (simp; omega) | (intro hsc; have hs0 := hsc; (try have hsd := of_decide_eq_true hsc); (try simp only [Bool.not_eq_true', Bool.or_eq_false_iff, Bool.and_eq_true, Bool.or_eq_true, decide_eq_true_eq, decide_eq_false_iff_not] at hsc); (repeat' (with_reducible apply And.intro)) <;> (first | assumption | trivial | exact (fun hq => by rw [hq]; rfl) | exact i64_of (by omega) (by omega) | omega | (simp; done) | (simp; omega) | (intro hse; simp [hse, hs0]; done) | (intro hse; simp only [hse, hs0, Bool.true_and, Bool.and_true, Bool.not_false, Bool.not_true, Bool.and_self]; done))))))
        refine cut_same (by simp only [ZZ, YY, Ze, ite_true, ite_false, forall_const, reduceCtorEq, Nat.reduceAdd, Nat.reduceMul, Nat.reduceLeDiff, Nat.reduceLT, Nat.reduceEqDiff]) ?_
        simp only [ZZ, YY, Ze, ite_true, ite_false, forall_const, reduceCtorEq, Nat.reduceAdd, Nat.reduceMul, Nat.reduceLeDiff, Nat.reduceLT, Nat.reduceEqDiff]
        refine ⟨i64_of (by omega) (by omega), end_round (3 - (i + 1)) [.adr (.b 0) 0, .p (.str id), .any, .p (.sl 1 (strE ids)), .any, .any, .any, .any, .adr (.l 8) 0, .adr (.l 9) 0, .mp (.l 27), .any, .any, .any, .any, .any, .any, .any, .any, .any, .any, .any, .any, .any, .any, .any, .any, .any, .any, .p (int z), .p (int ((i + 1 : Nat))), .any, .any, .any, .any, .any, .any, .any, .any, .any, .any, .any, .any, .any, .any, .any, .any, .any, .any, .any, .any, .any, .any, .any, .any, .any, .any, .any, .any, .any, .any, .any, .any, .any, .any, .any, .any, .any, .any, .any, .any, .any, .any, .any, .any, .any, .any, .any, .any, .any, .any, .any, .any, .any, .any, .any, .any, .any, .any, .any, .any, .any, .any, .any, .any] ([(.b 0, .box ((stm l (k' + 1 + 1)).map .p) T), (.l 8, .box [.p (.str []), .p (int 0), .p (.str []), .p (.str []), .p (.nl 2), .p (.nl 2), .p (.nl 1), .p (.str []), .p (.str [])] tMail), (.l 9, .box [.p (.str id), .p (int at_), .p (.str nm), .p (.str f), cT 55 ([]), cT 49 ((c0 :: cr) ++ [([], g)]), .p (.nl 1), .p (.str []), .p (.str bd)] tMail), (.l 27, .map (mpS kv g (.bool true)) 9 4)] ++ (oT 55 ([]) ++ oT 49 ((c0 :: cr) ++ [([], g)]))) (by omega) (by (simp only [ZZ, YY, Ze, ite_true, ite_false, forall_const, reduceCtorEq, Nat.reduceAdd, Nat.reduceMul, Nat.reduceLeDiff, Nat.reduceLT, Nat.reduceEqDiff]; try trivial)) (by simp only [ZZ, YY, Ze, ite_true, ite_false, forall_const, reduceCtorEq, Nat.reduceAdd, Nat.reduceMul, Nat.reduceLeDiff, Nat.reduceLT, Nat.reduceEqDiff, cT, oT, adrE, adC, List.map_append]) ⟨i + 1, k' + 1 + 1, W ++ [g], mpS kv g (.bool true), [], (c0 :: cr) ++ [([], g)], by omega, rfl, by omega, setOf_put hkv g, (by simp only [List.length_append, List.length_cons, List.length_nil] at *; omega), (by simp only [List.length_append, List.length_cons, List.length_nil] at *; omega), ht2, (fun a ha => by rcases List.mem_append.1 ha with ha | ha; exact hc2 a ha; rw [List.mem_singleton] at ha; subst ha; exact ⟨by simp, show g.length ≤ 30000 by omega⟩), rfl, rfl⟩⟩
      · intro _
        simp only [ZZ, YY, Ze, ite_true, ite_false, forall_const, reduceCtorEq, Nat.reduceAdd, Nat.reduceMul, Nat.reduceLeDiff, Nat.reduceLT, Nat.reduceEqDiff, adrE_len, List.length_cons]
        refine cut_same (by simp only [ZZ, YY, Ze, ite_true, ite_false, forall_const, reduceCtorEq, Nat.reduceAdd, Nat.reduceMul, Nat.reduceLeDiff, Nat.reduceLT, Nat.reduceEqDiff]) ?_
        simp only [ZZ, YY, Ze, ite_true, ite_false, forall_const, reduceCtorEq, Nat.reduceAdd, Nat.reduceMul, Nat.reduceLeDiff, Nat.reduceLT, Nat.reduceEqDiff]
        refine ⟨i64_of (by omega) (by omega), end_round (3 - (i + 1)) [.adr (.b 0) 0, .p (.str id), .any, .p (.sl 1 (strE ids)), .any, .any, .any, .any, .adr (.l 8) 0, .adr (.l 9) 0, .mp (.l 27), .any, .any, .any, .any, .any, .any, .any, .any, .any, .any, .any, .any, .any, .any, .any, .any, .any, .any, .p (int z), .p (int ((i + 1 : Nat))), .any, .any, .any, .any, .any, .any, .any, .any, .any, .any, .any, .any, .any, .any, .any, .any, .any, .any, .any, .any, .any, .any, .any, .any, .any, .any, .any, .any, .any, .any, .any, .any, .any, .any, .any, .any, .any, .any, .any, .any, .any, .any, .any, .any, .any, .any, .any, .any, .any, .any, .any, .any, .any, .any, .any, .any, .any, .any, .any, .any, .any, .any, .any, .any] ([(.b 0, .box ((stm l (k' + 1 + 1)).map .p) T), (.l 8, .box [.p (.str []), .p (int 0), .p (.str []), .p (.str []), .p (.nl 2), .p (.nl 2), .p (.nl 1), .p (.str []), .p (.str [])] tMail), (.l 9, .box [.p (.str id), .p (int at_), .p (.str nm), .p (.str f), cT 55 (([]) ++ [([], g)]), cT 49 (c0 :: cr), .p (.nl 1), .p (.str []), .p (.str bd)] tMail), (.l 27, .map (mpS kv g (.bool true)) 9 4)] ++ (oT 55 (([]) ++ [([], g)]) ++ oT 49 (c0 :: cr))) (by omega) (by (simp only [ZZ, YY, Ze, ite_true, ite_false, forall_const, reduceCtorEq, Nat.reduceAdd, Nat.reduceMul, Nat.reduceLeDiff, Nat.reduceLT, Nat.reduceEqDiff]; try trivial)) (by simp only [ZZ, YY, Ze, ite_true, ite_false, forall_const, reduceCtorEq, Nat.reduceAdd, Nat.reduceMul, Nat.reduceLeDiff, Nat.reduceLT, Nat.reduceEqDiff, cT, oT, adrE, adC, List.map_append]) ⟨i + 1, k' + 1 + 1, W ++ [g], mpS kv g (.bool true), ([]) ++ [([], g)], c0 :: cr, by omega, rfl, by omega, setOf_put hkv g, (by simp only [List.length_append, List.length_cons, List.length_nil] at *; omega), (by simp only [List.length_append, List.length_cons, List.length_nil] at *; omega), (fun a ha => by rcases List.mem_append.1 ha with ha | ha; exact ht2 a ha; rw [List.mem_singleton] at ha; subst ha; exact ⟨by simp, show g.length ≤ 30000 by omega⟩), hc2, rfl, rfl⟩⟩
    · simp only [cT, oT, ZZ, YY, Ze, ite_true, ite_false, forall_const, reduceCtorEq, Nat.reduceAdd, Nat.reduceMul, Nat.reduceLeDiff, Nat.reduceLT, Nat.reduceEqDiff]
      simp only [List.length_cons] at ht1
      refine use1 people_ok rfl (.inl rfl) ?_
      simp only [ZZ, YY, Ze, ite_true, ite_false, forall_const, reduceCtorEq, Nat.reduceAdd, Nat.reduceMul, Nat.reduceLeDiff, Nat.reduceLT, Nat.reduceEqDiff]
      refine useS (one_ok l k' peA (by omega) hl (by decide) (by decide)) rfl rfl rfl (by simp only [ZZ, YY, Ze, ite_true, ite_false, forall_const, reduceCtorEq, Nat.reduceAdd, Nat.reduceMul, Nat.reduceLeDiff, Nat.reduceLT, Nat.reduceEqDiff]) ?_
      rintro x cs' ⟨g, rfl, hg, rfl⟩
      have hg := peA_len g hg
      simp only [ZZ, YY, Ze, ite_true, ite_false, forall_const, reduceCtorEq, Nat.reduceAdd, Nat.reduceMul, Nat.reduceLeDiff, Nat.reduceLT, Nat.reduceEqDiff, hkv g]
      refine br ?_ ?_
      · intro _
        simp only [ZZ, YY, Ze, ite_true, ite_false, forall_const, reduceCtorEq, Nat.reduceAdd, Nat.reduceMul, Nat.reduceLeDiff, Nat.reduceLT, Nat.reduceEqDiff]
        refine cut_same (by simp only [ZZ, YY, Ze, ite_true, ite_false, forall_const, reduceCtorEq, Nat.reduceAdd, Nat.reduceMul, Nat.reduceLeDiff, Nat.reduceLT, Nat.reduceEqDiff]) ?_
        simp only [ZZ, YY, Ze, ite_true, ite_false, forall_const, reduceCtorEq, Nat.reduceAdd, Nat.reduceMul, Nat.reduceLeDiff, Nat.reduceLT, Nat.reduceEqDiff]
        refine ⟨i64_of (by omega) (by omega), end_round (3 - (i + 1)) [.adr (.b 0) 0, .p (.str id), .any, .p (.sl 1 (strE ids)), .any, .any, .any, .any, .adr (.l 8) 0, .adr (.l 9) 0, .mp (.l 27), .any, .any, .any, .any, .any, .any, .any, .any, .any, .any, .any, .any, .any, .any, .any, .any, .any, .any, .p (int z), .p (int ((i + 1 : Nat))), .any, .any, .any, .any, .any, .any, .any, .any, .any, .any, .any, .any, .any, .any, .any, .any, .any, .any, .any, .any, .any, .any, .any, .any, .any, .any, .any, .any, .any, .any, .any, .any, .any, .any, .any, .any, .any, .any, .any, .any, .any, .any, .any, .any, .any, .any, .any, .any, .any, .any, .any, .any, .any, .any, .any, .any, .any, .any, .any, .any, .any, .any, .any, .any] ([(.b 0, .box ((stm l (k' + 1)).map .p) T), (.l 8, .box [.p (.str []), .p (int 0), .p (.str []), .p (.str []), .p (.nl 2), .p (.nl 2), .p (.nl 1), .p (.str []), .p (.str [])] tMail), (.l 9, .box [.p (.str id), .p (int at_), .p (.str nm), .p (.str f), cT 55 (t0 :: tr), cT 49 ([]), .p (.nl 1), .p (.str []), .p (.str bd)] tMail), (.l 27, .map (kv) 9 4)] ++ (oT 55 (t0 :: tr) ++ oT 49 ([]))) (by omega) (by (simp only [ZZ, YY, Ze, ite_true, ite_false, forall_const, reduceCtorEq, Nat.reduceAdd, Nat.reduceMul, Nat.reduceLeDiff, Nat.reduceLT, Nat.reduceEqDiff]; try trivial)) (by simp only [ZZ, YY, Ze, ite_true, ite_false, forall_const, reduceCtorEq, Nat.reduceAdd, Nat.reduceMul, Nat.reduceLeDiff, Nat.reduceLT, Nat.reduceEqDiff, cT, oT, adrE, adC, List.map_append]) ⟨i + 1, k' + 1, W, kv, t0 :: tr, [], by omega, rfl, by omega, hkv, (by simp only [List.length_append, List.length_cons, List.length_nil] at *; omega), (by simp only [List.length_append, List.length_cons, List.length_nil] at *; omega), ht2, hc2, rfl, rfl⟩⟩
      intro _
      simp only [ZZ, YY, Ze, ite_true, ite_false, forall_const, reduceCtorEq, Nat.reduceAdd, Nat.reduceMul, Nat.reduceLeDiff, Nat.reduceLT, Nat.reduceEqDiff]
      refine useS (Flip_ok l (k' + 1) 3 (by omega) hl (by decide)) rfl rfl rfl (by simp only [ZZ, YY, Ze, ite_true, ite_false, forall_const, reduceCtorEq, Nat.reduceAdd, Nat.reduceMul, Nat.reduceLeDiff, Nat.reduceLT, Nat.reduceEqDiff]) ?_
      rintro x cs' ⟨b, rfl, rfl⟩
      simp only [ZZ, YY, Ze, ite_true, ite_false, forall_const, reduceCtorEq, Nat.reduceAdd, Nat.reduceMul, Nat.reduceLeDiff, Nat.reduceLT, Nat.reduceEqDiff]
      refine br ?_ ?_
      · intro _
        simp only [ZZ, YY, Ze, ite_true, ite_false, forall_const, reduceCtorEq, Nat.reduceAdd, Nat.reduceMul, Nat.reduceLeDiff, Nat.reduceLT, Nat.reduceEqDiff, adrE_len, List.length_cons]
        refine cut_same (by simp only [ZZ, YY, Ze, ite_true, ite_false, forall_const, reduceCtorEq, Nat.reduceAdd, Nat.reduceMul, Nat.reduceLeDiff, Nat.reduceLT, Nat.reduceEqDiff]) ?_
        simp only [ZZ, YY, Ze, ite_true, ite_false, forall_const, reduceCtorEq, Nat.reduceAdd, Nat.reduceMul, Nat.reduceLeDiff, Nat.reduceLT, Nat.reduceEqDiff]
        refine ⟨i64_of (by omega) (by omega), end_round (3 - (i + 1)) [.adr (.b 0) 0, .p (.str id), .any, .p (.sl 1 (strE ids)), .any, .any, .any, .any, .adr (.l 8) 0, .adr (.l 9) 0, .mp (.l 27), .any, .any, .any, .any, .any, .any, .any, .any, .any, .any, .any, .any, .any, .any, .any, .any, .any, .any, .p (int z), .p (int ((i + 1 : Nat))), .any, .any, .any, .any, .any, .any, .any, .any, .any, .any, .any, .any, .any, .any, .any, .any, .any, .any, .any, .any, .any, .any, .any, .any, .any, .any, .any, .any, .any, .any, .any, .any, .any, .any, .any, .any, .any, .any, .any, .any, .any, .any, .any, .any, .any, .any, .any, .any, .any, .any, .any, .any, .any, .any, .any, .any, .any, .any, .any, .any, .any, .any, .any, .any] ([(.b 0, .box ((stm l (k' + 1 + 1)).map .p) T), (.l 8, .box [.p (.str []), .p (int 0), .p (.str []), .p (.str []), .p (.nl 2), .p (.nl 2), .p (.nl 1), .p (.str []), .p (.str [])] tMail), (.l 9, .box [.p (.str id), .p (int at_), .p (.str nm), .p (.str f), cT 55 (t0 :: tr), cT 49 (([]) ++ [([], g)]), .p (.nl 1), .p (.str []), .p (.str bd)] tMail), (.l 27, .map (mpS kv g (.bool true)) 9 4)] ++ (oT 55 (t0 :: tr) ++ oT 49 (([]) ++ [([], g)]))) (by omega) (by (simp only [ZZ, YY, Ze, ite_true, ite_false, forall_const, reduceCtorEq, Nat.reduceAdd, Nat.reduceMul, Nat.reduceLeDiff, Nat.reduceLT, Nat.reduceEqDiff]; try trivial)) (by simp only [ZZ, YY, Ze, ite_true, ite_false, forall_const, reduceCtorEq, Nat.reduceAdd, Nat.reduceMul, Nat.reduceLeDiff, Nat.reduceLT, Nat.reduceEqDiff, cT, oT, adrE, adC, List.map_append]) ⟨i + 1, k' + 1 + 1, W ++ [g], mpS kv g (.bool true), t0 :: tr, ([]) ++ [([], g)], by omega, rfl, by omega, setOf_put hkv g, (by simp only [List.length_append, List.length_cons, List.length_nil] at *; omega), (by simp only [List.length_append, List.length_cons, List.length_nil] at *; omega), ht2, (fun a ha => by rcases List.mem_append.1 ha with ha | ha; exact hc2 a ha; rw [List.mem_singleton] at ha; subst ha; exact ⟨by simp, show g.length ≤ 30000 by omega⟩), rfl, rfl⟩⟩
      · intro _
        simp only [ZZ, YY, Ze, ite_true, ite_false, forall_const, reduceCtorEq, Nat.reduceAdd, Nat.reduceMul, Nat.reduceLeDiff, Nat.reduceLT, Nat.reduceEqDiff, adrE_len, List.length_cons]
        ((repeat' (with_reducible apply And.intro)) <;> try ((first | first | assumption | trivial | exact (fun hq => by rw [hq]; rfl) | exact i64_of (by omega) (by omega) | omega | (simp; done) | (simp; omega) | (intro hsc; have hs0 := hsc; (try have hsd := of_decide_eq_true hsc); (try simp only [Bool.not_eq_true', Bool.or_eq_false_iff, Bool.and_eq_true, Bool.or_eq_true, decide_eq_true_eq, decide_eq_false_iff_not] at hsc); (repeat' (with_reducible apply And.intro)) <;> (first | assumption | trivial | exact (fun hq => by rw [hq]; rfl) | exact i64_of (by omega) (by omega) | omega | (simp; done) | (simp; omega) | (intro hse; simp [hse, hs0]; done) | (intro hse; simp only [hse, hs0, Bool.true_and, Bool.and_true, Bool.not_false, Bool.not_true, Bool.and_self]; done))))))
        refine cut_same (by simp only [ZZ, YY, Ze, ite_true, ite_false, forall_const, reduceCtorEq, Nat.reduceAdd, Nat.reduceMul, Nat.reduceLeDiff, Nat.reduceLT, Nat.reduceEqDiff]) ?_
        simp only [ZZ, YY, Ze, ite_true, ite_false, forall_const, reduceCtorEq, Nat.reduceAdd, Nat.reduceMul, Nat.reduceLeDiff, Nat.reduceLT, Nat.reduceEqDiff]
        refine ⟨i64_of (by omega) (by omega), end_round (3 - (i + 1)) [.adr (.b 0) 0, .p (.str id), .any, .p (.sl 1 (strE ids)), .any, .any, .any, .any, .adr (.l 8) 0, .adr (.l 9) 0, .mp (.l 27), .any, .any, .any, .any, .any, .any, .any, .any, .any, .any, .any, .any, .any, .any, .any, .any, .any, .any, .p (int z), .p (int ((i + 1 : Nat))), .any, .any, .any, .any, .any, .any, .any, .any, .any, .any, .any, .any, .any, .any, .any, .any, .any, .any, .any, .any, .any, .any, .any, .any, .any, .any, .any, .any, .any, .any, .any, .any, .any, .any, .any, .any, .any, .any, .any, .any, .any, .any, .any, .any, .any, .any, .any, .any, .any, .any, .any, .any, .any, .any, .any, .any, .any, .any, .any, .any, .any, .any, .any, .any] ([(.b 0, .box ((stm l (k' + 1 + 1)).map .p) T), (.l 8, .box [.p (.str []), .p (int 0), .p (.str []), .p (.str []), .p (.nl 2), .p (.nl 2), .p (.nl 1), .p (.str []), .p (.str [])] tMail), (.l 9, .box [.p (.str id), .p (int at_), .p (.str nm), .p (.str f), cT 55 ((t0 :: tr) ++ [([], g)]), cT 49 ([]), .p (.nl 1), .p (.str []), .p (.str bd)] tMail), (.l 27, .map (mpS kv g (.bool true)) 9 4)] ++ (oT 55 ((t0 :: tr) ++ [([], g)]) ++ oT 49 ([]))) (by omega) (by (simp only [ZZ, YY, Ze, ite_true, ite_false, forall_const, reduceCtorEq, Nat.reduceAdd, Nat.reduceMul, Nat.reduceLeDiff, Nat.reduceLT, Nat.reduceEqDiff]; try trivial)) (by simp only [ZZ, YY, Ze, ite_true, ite_false, forall_const, reduceCtorEq, Nat.reduceAdd, Nat.reduceMul, Nat.reduceLeDiff, Nat.reduceLT, Nat.reduceEqDiff, cT, oT, adrE, adC, List.map_append]) ⟨i + 1, k' + 1 + 1, W ++ [g], mpS kv g (.bool true), (t0 :: tr) ++ [([], g)], [], by omega, rfl, by omega, setOf_put hkv g, (by simp only [List.length_append, List.length_cons, List.length_nil] at *; omega), (by simp only [List.length_append, List.length_cons, List.length_nil] at *; omega), (fun a ha => by rcases List.mem_append.1 ha with ha | ha; exact ht2 a ha; rw [List.mem_singleton] at ha; subst ha; exact ⟨by simp, show g.length ≤ 30000 by omega⟩), hc2, rfl, rfl⟩⟩
    · simp only [cT, oT, ZZ, YY, Ze, ite_true, ite_false, forall_const, reduceCtorEq, Nat.reduceAdd, Nat.reduceMul, Nat.reduceLeDiff, Nat.reduceLT, Nat.reduceEqDiff]
      simp only [List.length_cons] at ht1
      simp only [List.length_cons] at hc1
      refine use1 people_ok rfl (.inl rfl) ?_
      simp only [ZZ, YY, Ze, ite_true, ite_false, forall_const, reduceCtorEq, Nat.reduceAdd, Nat.reduceMul, Nat.reduceLeDiff, Nat.reduceLT, Nat.reduceEqDiff]
      refine useS (one_ok l k' peA (by omega) hl (by decide) (by decide)) rfl rfl rfl (by simp only [ZZ, YY, Ze, ite_true, ite_false, forall_const, reduceCtorEq, Nat.reduceAdd, Nat.reduceMul, Nat.reduceLeDiff, Nat.reduceLT, Nat.reduceEqDiff]) ?_
      rintro x cs' ⟨g, rfl, hg, rfl⟩
      have hg := peA_len g hg
      simp only [ZZ, YY, Ze, ite_true, ite_false, forall_const, reduceCtorEq, Nat.reduceAdd, Nat.reduceMul, Nat.reduceLeDiff, Nat.reduceLT, Nat.reduceEqDiff, hkv g]
      refine br ?_ ?_
      · intro _
        simp only [ZZ, YY, Ze, ite_true, ite_false, forall_const, reduceCtorEq, Nat.reduceAdd, Nat.reduceMul, Nat.reduceLeDiff, Nat.reduceLT, Nat.reduceEqDiff]
        refine cut_same (by simp only [ZZ, YY, Ze, ite_true, ite_false, forall_const, reduceCtorEq, Nat.reduceAdd, Nat.reduceMul, Nat.reduceLeDiff, Nat.reduceLT, Nat.reduceEqDiff]) ?_
        simp only [ZZ, YY, Ze, ite_true, ite_false, forall_const, reduceCtorEq, Nat.reduceAdd, Nat.reduceMul, Nat.reduceLeDiff, Nat.reduceLT, Nat.reduceEqDiff]
        refine ⟨i64_of (by omega) (by omega), end_round (3 - (i + 1)) [.adr (.b 0) 0, .p (.str id), .any, .p (.sl 1 (strE ids)), .any, .any, .any, .any, .adr (.l 8) 0, .adr (.l 9) 0, .mp (.l 27), .any, .any, .any, .any, .any, .any, .any, .any, .any, .any, .any, .any, .any, .any, .any, .any, .any, .any, .p (int z), .p (int ((i + 1 : Nat))), .any, .any, .any, .any, .any, .any, .any, .any, .any, .any, .any, .any, .any, .any, .any, .any, .any, .any, .any, .any, .any, .any, .any, .any, .any, .any, .any, .any, .any, .any, .any, .any, .any, .any, .any, .any, .any, .any, .any, .any, .any, .any, .any, .any, .any, .any, .any, .any, .any, .any, .any, .any, .any, .any, .any, .any, .any, .any, .any, .any, .any, .any, .any, .any] ([(.b 0, .box ((stm l (k' + 1)).map .p) T), (.l 8, .box [.p (.str []), .p (int 0), .p (.str []), .p (.str []), .p (.nl 2), .p (.nl 2), .p (.nl 1), .p (.str []), .p (.str [])] tMail), (.l 9, .box [.p (.str id), .p (int at_), .p (.str nm), .p (.str f), cT 55 (t0 :: tr), cT 49 (c0 :: cr), .p (.nl 1), .p (.str []), .p (.str bd)] tMail), (.l 27, .map (kv) 9 4)] ++ (oT 55 (t0 :: tr) ++ oT 49 (c0 :: cr))) (by omega) (by (simp only [ZZ, YY, Ze, ite_true, ite_false, forall_const, reduceCtorEq, Nat.reduceAdd, Nat.reduceMul, Nat.reduceLeDiff, Nat.reduceLT, Nat.reduceEqDiff]; try trivial)) (by simp only [ZZ, YY, Ze, ite_true, ite_false, forall_const, reduceCtorEq, Nat.reduceAdd, Nat.reduceMul, Nat.reduceLeDiff, Nat.reduceLT, Nat.reduceEqDiff, cT, oT, adrE, adC, List.map_append]) ⟨i + 1, k' + 1, W, kv, t0 :: tr, c0 :: cr, by omega, rfl, by omega, hkv, (by simp only [List.length_append, List.length_cons, List.length_nil] at *; omega), (by simp only [List.length_append, List.length_cons, List.length_nil] at *; omega), ht2, hc2, rfl, rfl⟩⟩
      intro _
      simp only [ZZ, YY, Ze, ite_true, ite_false, forall_const, reduceCtorEq, Nat.reduceAdd, Nat.reduceMul, Nat.reduceLeDiff, Nat.reduceLT, Nat.reduceEqDiff]
      refine useS (Flip_ok l (k' + 1) 3 (by omega) hl (by decide)) rfl rfl rfl (by simp only [ZZ, YY, Ze, ite_true, ite_false, forall_const, reduceCtorEq, Nat.reduceAdd, Nat.reduceMul, Nat.reduceLeDiff, Nat.reduceLT, Nat.reduceEqDiff]) ?_
      rintro x cs' ⟨b, rfl, rfl⟩
      simp only [ZZ, YY, Ze, ite_true, ite_false, forall_const, reduceCtorEq, Nat.reduceAdd, Nat.reduceMul, Nat.reduceLeDiff, Nat.reduceLT, Nat.reduceEqDiff]
      refine br ?_ ?_
      · intro _
        simp only [ZZ, YY, Ze, ite_true, ite_false, forall_const, reduceCtorEq, Nat.reduceAdd, Nat.reduceMul, Nat.reduceLeDiff, Nat.reduceLT, Nat.reduceEqDiff, adrE_len, List.length_cons]
        ((repeat' (with_reducible apply And.intro)) <;> try ((first | first | assumption | trivial | exact (fun hq => by rw [hq]; rfl) | exact i64_of (by omega) (by omega) | omega | (simp; done) | (simp; omega) | (intro hsc; have hs0 := hsc; (try have hsd := of_decide_eq_true hsc); (try simp only [Bool.not_eq_true', Bool.or_eq_false_iff, Bool.and_eq_true, Bool.or_eq_true, decide_eq_true_eq, decide_eq_false_iff_not] at hsc); (repeat' (with_reducible apply And.intro)) <;> (first | assumption | trivial | exact (fun hq => by rw [hq]; rfl) | exact i64_of (by omega) (by omega) | omega | (simp; done) | (simp; omega) | (intro hse; simp [hse, hs0]; done) | (intro hse; simp only [hse, hs0, Bool.true_and, Bool.and_true, Bool.not_false, Bool.not_true, Bool.and_self]; done))))))
        refine cut_same (by simp only [ZZ, YY, Ze, ite_true, ite_false, forall_const, reduceCtorEq, Nat.reduceAdd, Nat.reduceMul, Nat.reduceLeDiff, Nat.reduceLT, Nat.reduceEqDiff]) ?_
        simp only [ZZ, YY, Ze, ite_true, ite_false, forall_const, reduceCtorEq, Nat.reduceAdd, Nat.reduceMul, Nat.reduceLeDiff, Nat.reduceLT, Nat.reduceEqDiff]
        refine ⟨i64_of (by omega) (by omega), end_round (3 - (i + 1)) [.adr (.b 0) 0, .p (.str id), .any, .p (.sl 1 (strE ids)), .any, .any, .any, .any, .adr (.l 8) 0, .adr (.l 9) 0, .mp (.l 27), .any, .any, .any, .any, .any, .any, .any, .any, .any, .any, .any, .any, .any, .any, .any, .any, .any, .any, .p (int z), .p (int ((i + 1 : Nat))), .any, .any, .any, .any, .any, .any, .any, .any, .any, .any, .any, .any, .any, .any, .any, .any, .any, .any, .any, .any, .any, .any, .any, .any, .any, .any, .any, .any, .any, .any, .any, .any, .any, .any, .any, .any, .any, .any, .any, .any, .any, .any, .any, .any, .any, .any, .any, .any, .any, .any, .any, .any, .any, .any, .any, .any, .any, .any, .any, .any, .any, .any, .any, .any] ([(.b 0, .box ((stm l (k' + 1 + 1)).map .p) T), (.l 8, .box [.p (.str []), .p (int 0), .p (.str []), .p (.str []), .p (.nl 2), .p (.nl 2), .p (.nl 1), .p (.str []), .p (.str [])] tMail), (.l 9, .box [.p (.str id), .p (int at_), .p (.str nm), .p (.str f), cT 55 (t0 :: tr), cT 49 ((c0 :: cr) ++ [([], g)]), .p (.nl 1), .p (.str []), .p (.str bd)] tMail), (.l 27, .map (mpS kv g (.bool true)) 9 4)] ++ (oT 55 (t0 :: tr) ++ oT 49 ((c0 :: cr) ++ [([], g)]))) (by omega) (by (simp only [ZZ, YY, Ze, ite_true, ite_false, forall_const, reduceCtorEq, Nat.reduceAdd, Nat.reduceMul, Nat.reduceLeDiff, Nat.reduceLT, Nat.reduceEqDiff]; try trivial)) (by simp only [ZZ, YY, Ze, ite_true, ite_false, forall_const, reduceCtorEq, Nat.reduceAdd, Nat.reduceMul, Nat.reduceLeDiff, Nat.reduceLT, Nat.reduceEqDiff, cT, oT, adrE, adC, List.map_append]) ⟨i + 1, k' + 1 + 1, W ++ [g], mpS kv g (.bool true), t0 :: tr, (c0 :: cr) ++ [([], g)], by omega, rfl, by omega, setOf_put hkv g, (by simp only [List.length_append, List.length_cons, List.length_nil] at *; omega), (by simp only [List.length_append, List.length_cons, List.length_nil] at *; omega), ht2, (fun a ha => by rcases List.mem_append.1 ha with ha | ha; exact hc2 a ha; rw [List.mem_singleton] at ha; subst ha; exact ⟨by simp, show g.length ≤ 30000 by omega⟩), rfl, rfl⟩⟩
      · intro _
        simp only [ZZ, YY, Ze, ite_true, ite_false, forall_const, reduceCtorEq, Nat.reduceAdd, Nat.reduceMul, Nat.reduceLeDiff, Nat.reduceLT, Nat.reduceEqDiff, adrE_len, List.length_cons]
        ((repeat' (with_reducible apply And.intro)) <;> try ((first | first | assumption | trivial | exact (fun hq => by rw [hq]; rfl) | exact i64_of (by omega) (by omega) | omega | (simp; done) | (simp; omega) | (intro hsc; have hs0 := hsc; (try have hsd := of_decide_eq_true hsc); (try simp only [Bool.not_eq_true', Bool.or_eq_false_iff, Bool.and_eq_true, Bool.or_eq_true, decide_eq_true_eq, decide_eq_false_iff_not] at hsc); (repeat' (with_reducible apply And.intro)) <;> (first | assumption | trivial | exact (fun hq => by rw [hq]; rfl) | exact i64_of (by omega) (by omega) | omega | (simp; done) | (simp; omega) | (intro hse; simp [hse, hs0]; done) | (intro hse; simp only [hse, hs0, Bool.true_and, Bool.and_true, Bool.not_false, Bool.not_true, Bool.and_self]; done))))))
        refine cut_same (by simp only [ZZ, YY, Ze, ite_true, ite_false, forall_const, reduceCtorEq, Nat.reduceAdd, Nat.reduceMul, Nat.reduceLeDiff, Nat.reduceLT, Nat.reduceEqDiff]) ?_
        simp only [ZZ, YY, Ze, ite_true, ite_false, forall_const, reduceCtorEq, Nat.reduceAdd, Nat.reduceMul, Nat.reduceLeDiff, Nat.reduceLT, Nat.reduceEqDiff]
        refine ⟨i64_of (by omega) (by omega), end_round (3 - (i + 1)) [.adr (.b 0) 0, .p (.str id), .any, .p (.sl 1 (strE ids)), .any, .any, .any, .any, .adr (.l 8) 0, .adr (.l 9) 0, .mp (.l 27), .any, .any, .any, .any, .any, .any, .any, .any, .any, .any, .any, .any, .any, .any, .any, .any, .any, .any, .p (int z), .p (int ((i + 1 : Nat))), .any, .any, .any, .any, .any, .any, .any, .any, .any, .any, .any, .any, .any, .any, .any, .any, .any, .any, .any, .any, .any, .any, .any, .any, .any, .any, .any, .any, .any, .any, .any, .any, .any, .any, .any, .any, .any, .any, .any, .any, .any, .any, .any, .any, .any, .any, .any, .any, .any, .any, .any, .any, .any, .any, .any, .any, .any, .any, .any, .any, .any, .any, .any, .any] ([(.b 0, .box ((stm l (k' + 1 + 1)).map .p) T), (.l 8, .box [.p (.str []), .p (int 0), .p (.str []), .p (.str []), .p (.nl 2), .p (.nl 2), .p (.nl 1), .p (.str []), .p (.str [])] tMail), (.l 9, .box [.p (.str id), .p (int at_), .p (.str nm), .p (.str f), cT 55 ((t0 :: tr) ++ [([], g)]), cT 49 (c0 :: cr), .p (.nl 1), .p (.str []), .p (.str bd)] tMail), (.l 27, .map (mpS kv g (.bool true)) 9 4)] ++ (oT 55 ((t0 :: tr) ++ [([], g)]) ++ oT 49 (c0 :: cr))) (by omega) (by (simp only [ZZ, YY, Ze, ite_true, ite_false, forall_const, reduceCtorEq, Nat.reduceAdd, Nat.reduceMul, Nat.reduceLeDiff, Nat.reduceLT, Nat.reduceEqDiff]; try trivial)) (by simp only [ZZ, YY, Ze, ite_true, ite_false, forall_const, reduceCtorEq, Nat.reduceAdd, Nat.reduceMul, Nat.reduceLeDiff, Nat.reduceLT, Nat.reduceEqDiff, cT, oT, adrE, adC, List.map_append]) ⟨i + 1, k' + 1 + 1, W ++ [g], mpS kv g (.bool true), (t0 :: tr) ++ [([], g)], c0 :: cr, by omega, rfl, by omega, setOf_put hkv g, (by simp only [List.length_append, List.length_cons, List.length_nil] at *; omega), (by simp only [List.length_append, List.length_cons, List.length_nil] at *; omega), (fun a ha => by rcases List.mem_append.1 ha with ha | ha; exact ht2 a ha; rw [List.mem_singleton] at ha; subst ha; exact ⟨by simp, show g.length ≤ 30000 by omega⟩), hc2, rfl, rfl⟩⟩
  intro h
  clear h hkv
  simp only [ZZ, YY, Ze, ite_true, ite_false, forall_const, reduceCtorEq, Nat.reduceAdd, Nat.reduceMul, Nat.reduceLeDiff, Nat.reduceLT, Nat.reduceEqDiff]
  rw [ops_re]
  refine ⟨[.adr (.b 0) 0, .p (.str id), .any, .p (.sl 1 (strE ids)), .any, .any, .any, .any, .adr (.l 8) 0, .adr (.l 9) 0, .any, .any, .any, .any, .any, .any, .any, .any, .any, .any, .any, .any, .any, .any, .any, .any, .any, .any, .any, .any, .any, .any, .any, .any, .any, .any, .any, .any, .any, .any, .any, .any, .any, .any, .any, .any, .any, .any, .any, .any, .any, .any, .any, .any, .any, .any, .any, .any, .adr (.b 0) 0, .any, .any, .any, .any, .any, .any, .any, .any, .any, .any, .any, .any, .any, .any, .any, .any, .any, .any, .any, .any, .any, .any, .any, .any, .any, .any, .any, .any, .any, .any, .any, .any, .any, .any, .any, .any], [(.b 0, .box ((stm l (k')).map .p) T), (.l 8, .box [.p (.str []), .p (int 0), .p (.str []), .p (.str []), .p (.nl 2), .p (.nl 2), .p (.nl 1), .p (.str []), .p (.str [])] tMail), (.l 9, .box [.p (.str id), .p (int at_), .p (.str nm), .p (.str f), .p (pT ts), .p (pT cc), .p (.nl 1), .p (.str []), .p (.str bd)] tMail)], ?_, ?_⟩
  · rcases ts with _ | ⟨t0, tr⟩ <;> rcases cc with _ | ⟨c0, cr⟩
    · exact re_weak (by (simp only [ZZ, YY, Ze, ite_true, ite_false, forall_const, reduceCtorEq, Nat.reduceAdd, Nat.reduceMul, Nat.reduceLeDiff, Nat.reduceLT, Nat.reduceEqDiff]; try trivial)) (by simp only [ZZ, YY, Ze, ite_true, ite_false, forall_const, reduceCtorEq, Nat.reduceAdd, Nat.reduceMul, Nat.reduceLeDiff, Nat.reduceLT, Nat.reduceEqDiff, cT, oT, pT])
    · exact ReOk.trans (re_row (k := .l 49) rfl) (by simp only [ZZ, YY, Ze, ite_true, ite_false, forall_const, reduceCtorEq, Nat.reduceAdd, Nat.reduceMul, Nat.reduceLeDiff, Nat.reduceLT, Nat.reduceEqDiff, cT, oT]; exact re_weak (by (simp only [ZZ, YY, Ze, ite_true, ite_false, forall_const, reduceCtorEq, Nat.reduceAdd, Nat.reduceMul, Nat.reduceLeDiff, Nat.reduceLT, Nat.reduceEqDiff]; try trivial)) (by simp only [ZZ, YY, Ze, ite_true, ite_false, forall_const, reduceCtorEq, Nat.reduceAdd, Nat.reduceMul, Nat.reduceLeDiff, Nat.reduceLT, Nat.reduceEqDiff, pT]))
    · exact ReOk.trans (re_row (k := .l 55) rfl) (by simp only [ZZ, YY, Ze, ite_true, ite_false, forall_const, reduceCtorEq, Nat.reduceAdd, Nat.reduceMul, Nat.reduceLeDiff, Nat.reduceLT, Nat.reduceEqDiff, cT, oT]; exact re_weak (by (simp only [ZZ, YY, Ze, ite_true, ite_false, forall_const, reduceCtorEq, Nat.reduceAdd, Nat.reduceMul, Nat.reduceLeDiff, Nat.reduceLT, Nat.reduceEqDiff]; try trivial)) (by simp only [ZZ, YY, Ze, ite_true, ite_false, forall_const, reduceCtorEq, Nat.reduceAdd, Nat.reduceMul, Nat.reduceLeDiff, Nat.reduceLT, Nat.reduceEqDiff, pT]))
    · exact ReOk.trans (re_row (k := .l 55) rfl) (by simp only [ZZ, YY, Ze, ite_true, ite_false, forall_const, reduceCtorEq, Nat.reduceAdd, Nat.reduceMul, Nat.reduceLeDiff, Nat.reduceLT, Nat.reduceEqDiff, cT, oT]; exact ReOk.trans (re_row (k := .l 49) rfl) (by simp only [ZZ, YY, Ze, ite_true, ite_false, forall_const, reduceCtorEq, Nat.reduceAdd, Nat.reduceMul, Nat.reduceLeDiff, Nat.reduceLT, Nat.reduceEqDiff]; exact re_weak (by (simp only [ZZ, YY, Ze, ite_true, ite_false, forall_const, reduceCtorEq, Nat.reduceAdd, Nat.reduceMul, Nat.reduceLeDiff, Nat.reduceLT, Nat.reduceEqDiff]; try trivial)) (by simp only [ZZ, YY, Ze, ite_true, ite_false, forall_const, reduceCtorEq, Nat.reduceAdd, Nat.reduceMul, Nat.reduceLeDiff, Nat.reduceLT, Nat.reduceEqDiff, pT])))
  simp only [ZZ, YY, Ze, ite_true, ite_false, forall_const, reduceCtorEq, Nat.reduceAdd, Nat.reduceMul, Nat.reduceLeDiff, Nat.reduceLT, Nat.reduceEqDiff]
  refine useS (Pick_ok l k' [0, 0, 1, 1, 2] (by omega) hl (by simp) (by simp)) rfl rfl rfl (by simp only [ZZ, YY, Ze, ite_true, ite_false, forall_const, reduceCtorEq, Nat.reduceAdd, Nat.reduceMul, Nat.reduceLeDiff, Nat.reduceLT, Nat.reduceEqDiff]) ?_
  rintro x cs' ⟨y, rfl, hy, rfl⟩
  have hy : 0 ≤ y ∧ y ≤ 2 := by simp at hy; omega
  simp only [ZZ, YY, Ze, ite_true, ite_false, forall_const, reduceCtorEq, Nat.reduceAdd, Nat.reduceMul, Nat.reduceLeDiff, Nat.reduceLT, Nat.reduceEqDiff]
  refine loop_intro (fun n fr L => ∃ (j q : Nat) (rf : List (List UInt8)), j ≤ 2 ∧ n = 2 - j ∧ q ≤ k1 + 15 + j ∧ rf.length ≤ j ∧ (∀ r ∈ rf, r.length ≤ 30000) ∧ fr = [.adr (.b 0) 0, .p (.str id), .any, .p (.sl 1 (strE ids)), .any, .any, .any, .any, .adr (.l 8) 0, .adr (.l 9) 0, .any, .any, .any, .any, .any, .any, .any, .any, .any, .any, .any, .any, .any, .any, .any, .any, .any, .any, .any, .any, .any, .any, .any, .any, .any, .any, .any, .any, .any, .any, .any, .any, .any, .any, .any, .any, .any, .any, .any, .any, .any, .any, .any, .any, .any, .any, .any, .any, .any, .any, .p (int y), .p (int (j : Nat)), .any, .any, .any, .any, .any, .any, .any, .any, .any, .any, .any, .any, .any, .any, .any, .any, .any, .any, .any, .any, .any, .any, .any, .any, .any, .any, .any, .any, .any, .any, .any, .any, .any] ∧ L = ([(.b 0, .box ((stm l (q)).map .p) T), (.l 8, .box [.p (.str []), .p (int 0), .p (.str []), .p (.str []), .p (.nl 2), .p (.nl 2), .p (.nl 1), .p (.str []), .p (.str [])] tMail), (.l 9, .box [.p (.str id), .p (int at_), .p (.str nm), .p (.str f), .p (pT ts), .p (pT cc), cSt 82 (rf), .p (.str []), .p (.str bd)] tMail)] ++ oSt 82 (rf))) 2 [.adr (.b 0) 0, .p (.str id), .any, .p (.sl 1 (strE ids)), .any, .any, .any, .any, .adr (.l 8) 0, .adr (.l 9) 0, .any, .any, .any, .any, .any, .any, .any, .any, .any, .any, .any, .any, .any, .any, .any, .any, .any, .any, .any, .any, .any, .any, .any, .any, .any, .any, .any, .any, .any, .any, .any, .any, .any, .any, .any, .any, .any, .any, .any, .any, .any, .any, .any, .any, .any, .any, .any, .any, .any, .any, .p (int y), .p (int (0 : Nat)), .any, .any, .any, .any, .any, .any, .any, .any, .any, .any, .any, .any, .any, .any, .any, .any, .any, .any, .any, .any, .any, .any, .any, .any, .any, .any, .any, .any, .any, .any, .any, .any, .any] ([(.b 0, .box ((stm l (k' + 1)).map .p) T), (.l 8, .box [.p (.str []), .p (int 0), .p (.str []), .p (.str []), .p (.nl 2), .p (.nl 2), .p (.nl 1), .p (.str []), .p (.str [])] tMail), (.l 9, .box [.p (.str id), .p (int at_), .p (.str nm), .p (.str f), .p (pT ts), .p (pT cc), cSt 82 ([]), .p (.str []), .p (.str bd)] tMail)] ++ oSt 82 ([])) (by (simp only [ZZ, YY, Ze, ite_true, ite_false, forall_const, reduceCtorEq, Nat.reduceAdd, Nat.reduceMul, Nat.reduceLeDiff, Nat.reduceLT, Nat.reduceEqDiff]; try trivial)) (by simp only [ZZ, YY, Ze, ite_true, ite_false, forall_const, reduceCtorEq, Nat.reduceAdd, Nat.reduceMul, Nat.reduceLeDiff, Nat.reduceLT, Nat.reduceEqDiff, cSt, oSt]) ⟨0, k' + 1, [], by omega, by omega, by omega, by simp, by simp, rfl, rfl⟩ ?_
  rintro n fr L ⟨j, q, rf, hj2, rfl, hq, hr1, hr2, rfl, rfl⟩
  simp only [ir_chasemake_Stream_Letter_L1, ZZ, YY, Ze, ite_true, ite_false, forall_const, reduceCtorEq, Nat.reduceAdd, Nat.reduceMul, Nat.reduceLeDiff, Nat.reduceLT, Nat.reduceEqDiff]
  refine br ?_ ?_
  · intro h
    have hlt : (j : Int) < y := of_decide_eq_true h
    rcases rf with _ | ⟨r0, rr⟩
    · simp only [cSt, oSt, ZZ, YY, Ze, ite_true, ite_false, forall_const, reduceCtorEq, Nat.reduceAdd, Nat.reduceMul, Nat.reduceLeDiff, Nat.reduceLT, Nat.reduceEqDiff]
      simp only [strE_len, ZZ, YY, Ze, ite_true, ite_false, forall_const, reduceCtorEq, Nat.reduceAdd, Nat.reduceMul, Nat.reduceLeDiff, Nat.reduceLT, Nat.reduceEqDiff]
      ((repeat' (with_reducible apply And.intro)) <;> try ((first | first | assumption | trivial | exact (fun hq => by rw [hq]; rfl) | exact i64_of (by omega) (by omega) | omega | (simp; done) | (simp; omega) | (intro hsc; have hs0 := hsc; (try have hsd := of_decide_eq_true hsc); (try simp only [Bool.not_eq_true', Bool.or_eq_false_iff, Bool.and_eq_true, Bool.or_eq_true, decide_eq_true_eq, decide_eq_false_iff_not] at hsc); (repeat' (with_reducible apply And.intro)) <;> (first | assumption | trivial | exact (fun hq => by rw [hq]; rfl) | exact i64_of (by omega) (by omega) | omega | (simp; done) | (simp; omega) | (intro hse; simp [hse, hs0]; done) | (intro hse; simp only [hse, hs0, Bool.true_and, Bool.and_true, Bool.not_false, Bool.not_true, Bool.and_self]; done))))))
      refine useS (one_ok l q (gnA ++ ids) (by omega) hl (by simp [gnA]) (by simp [gnA]; omega)) rfl rfl rfl (by simp only [ZZ, YY, Ze, ite_true, ite_false, forall_const, reduceCtorEq, Nat.reduceAdd, Nat.reduceMul, Nat.reduceLeDiff, Nat.reduceLT, Nat.reduceEqDiff]) ?_
      rintro x cs' ⟨r, rfl, hr, rfl⟩
      have hr : r.length ≤ 30000 := by rcases List.mem_append.1 hr with hr | hr; (simp only [gnA, List.mem_cons, List.not_mem_nil, or_false] at hr; rcases hr with rfl | rfl <;> decide); have := hib r hr; omega
      simp only [ZZ, YY, Ze, ite_true, ite_false, forall_const, reduceCtorEq, Nat.reduceAdd, Nat.reduceMul, Nat.reduceLeDiff, Nat.reduceLT, Nat.reduceEqDiff]
      refine useG (fun _ => up6 (ContainsS_ok ([]) r (by simp only [List.length_cons, List.length_nil] at *; omega))) rfl (.inr rfl) ?_
      simp only [ZZ, YY, Ze, ite_true, ite_false, forall_const, reduceCtorEq, Nat.reduceAdd, Nat.reduceMul, Nat.reduceLeDiff, Nat.reduceLT, Nat.reduceEqDiff]
      refine br ?_ ?_
      · intro _
        simp only [ZZ, YY, Ze, ite_true, ite_false, forall_const, reduceCtorEq, Nat.reduceAdd, Nat.reduceMul, Nat.reduceLeDiff, Nat.reduceLT, Nat.reduceEqDiff]
        refine cut_same (by simp only [ZZ, YY, Ze, ite_true, ite_false, forall_const, reduceCtorEq, Nat.reduceAdd, Nat.reduceMul, Nat.reduceLeDiff, Nat.reduceLT, Nat.reduceEqDiff]) ?_
        simp only [ZZ, YY, Ze, ite_true, ite_false, forall_const, reduceCtorEq, Nat.reduceAdd, Nat.reduceMul, Nat.reduceLeDiff, Nat.reduceLT, Nat.reduceEqDiff]
        refine ⟨i64_of (by omega) (by omega), end_round (2 - (j + 1)) [.adr (.b 0) 0, .p (.str id), .any, .p (.sl 1 (strE ids)), .any, .any, .any, .any, .adr (.l 8) 0, .adr (.l 9) 0, .any, .any, .any, .any, .any, .any, .any, .any, .any, .any, .any, .any, .any, .any, .any, .any, .any, .any, .any, .any, .any, .any, .any, .any, .any, .any, .any, .any, .any, .any, .any, .any, .any, .any, .any, .any, .any, .any, .any, .any, .any, .any, .any, .any, .any, .any, .any, .any, .any, .any, .p (int y), .p (int ((j + 1 : Nat))), .any, .any, .any, .any, .any, .any, .any, .any, .any, .any, .any, .any, .any, .any, .any, .any, .any, .any, .any, .any, .any, .any, .any, .any, .any, .any, .any, .any, .any, .any, .any, .any, .any] ([(.b 0, .box ((stm l (q + 1)).map .p) T), (.l 8, .box [.p (.str []), .p (int 0), .p (.str []), .p (.str []), .p (.nl 2), .p (.nl 2), .p (.nl 1), .p (.str []), .p (.str [])] tMail), (.l 9, .box [.p (.str id), .p (int at_), .p (.str nm), .p (.str f), .p (pT ts), .p (pT cc), cSt 82 (([]) ++ [r]), .p (.str []), .p (.str bd)] tMail)] ++ oSt 82 (([]) ++ [r])) (by omega) (by (simp only [ZZ, YY, Ze, ite_true, ite_false, forall_const, reduceCtorEq, Nat.reduceAdd, Nat.reduceMul, Nat.reduceLeDiff, Nat.reduceLT, Nat.reduceEqDiff]; try trivial)) (by simp only [ZZ, YY, Ze, ite_true, ite_false, forall_const, reduceCtorEq, Nat.reduceAdd, Nat.reduceMul, Nat.reduceLeDiff, Nat.reduceLT, Nat.reduceEqDiff, cSt, oSt, strE, List.map_append]) ⟨j + 1, q + 1, ([]) ++ [r], by omega, rfl, by omega, (by simp only [List.length_append, List.length_cons, List.length_nil] at *; omega), (fun a ha => by rcases List.mem_append.1 ha with ha | ha; exact hr2 a ha; rw [List.mem_singleton] at ha; subst ha; exact hr), rfl, rfl⟩⟩
      · intro _
        simp only [ZZ, YY, Ze, ite_true, ite_false, forall_const, reduceCtorEq, Nat.reduceAdd, Nat.reduceMul, Nat.reduceLeDiff, Nat.reduceLT, Nat.reduceEqDiff]
        refine cut_same (by simp only [ZZ, YY, Ze, ite_true, ite_false, forall_const, reduceCtorEq, Nat.reduceAdd, Nat.reduceMul, Nat.reduceLeDiff, Nat.reduceLT, Nat.reduceEqDiff]) ?_
        simp only [ZZ, YY, Ze, ite_true, ite_false, forall_const, reduceCtorEq, Nat.reduceAdd, Nat.reduceMul, Nat.reduceLeDiff, Nat.reduceLT, Nat.reduceEqDiff]
        refine ⟨i64_of (by omega) (by omega), end_round (2 - (j + 1)) [.adr (.b 0) 0, .p (.str id), .any, .p (.sl 1 (strE ids)), .any, .any, .any, .any, .adr (.l 8) 0, .adr (.l 9) 0, .any, .any, .any, .any, .any, .any, .any, .any, .any, .any, .any, .any, .any, .any, .any, .any, .any, .any, .any, .any, .any, .any, .any, .any, .any, .any, .any, .any, .any, .any, .any, .any, .any, .any, .any, .any, .any, .any, .any, .any, .any, .any, .any, .any, .any, .any, .any, .any, .any, .any, .p (int y), .p (int ((j + 1 : Nat))), .any, .any, .any, .any, .any, .any, .any, .any, .any, .any, .any, .any, .any, .any, .any, .any, .any, .any, .any, .any, .any, .any, .any, .any, .any, .any, .any, .any, .any, .any, .any, .any, .any] ([(.b 0, .box ((stm l (q + 1)).map .p) T), (.l 8, .box [.p (.str []), .p (int 0), .p (.str []), .p (.str []), .p (.nl 2), .p (.nl 2), .p (.nl 1), .p (.str []), .p (.str [])] tMail), (.l 9, .box [.p (.str id), .p (int at_), .p (.str nm), .p (.str f), .p (pT ts), .p (pT cc), cSt 82 ([]), .p (.str []), .p (.str bd)] tMail)] ++ oSt 82 ([])) (by omega) (by (simp only [ZZ, YY, Ze, ite_true, ite_false, forall_const, reduceCtorEq, Nat.reduceAdd, Nat.reduceMul, Nat.reduceLeDiff, Nat.reduceLT, Nat.reduceEqDiff]; try trivial)) (by simp only [ZZ, YY, Ze, ite_true, ite_false, forall_const, reduceCtorEq, Nat.reduceAdd, Nat.reduceMul, Nat.reduceLeDiff, Nat.reduceLT, Nat.reduceEqDiff, cSt, oSt, strE, List.map_append]) ⟨j + 1, q + 1, [], by omega, rfl, by omega, (by simp only [List.length_append, List.length_cons, List.length_nil] at *; omega), hr2, rfl, rfl⟩⟩
    · simp only [cSt, oSt, ZZ, YY, Ze, ite_true, ite_false, forall_const, reduceCtorEq, Nat.reduceAdd, Nat.reduceMul, Nat.reduceLeDiff, Nat.reduceLT, Nat.reduceEqDiff]
      simp only [List.length_cons] at hr1
      simp only [strE_len, ZZ, YY, Ze, ite_true, ite_false, forall_const, reduceCtorEq, Nat.reduceAdd, Nat.reduceMul, Nat.reduceLeDiff, Nat.reduceLT, Nat.reduceEqDiff]
      ((repeat' (with_reducible apply And.intro)) <;> try ((first | first | assumption | trivial | exact (fun hq => by rw [hq]; rfl) | exact i64_of (by omega) (by omega) | omega | (simp; done) | (simp; omega) | (intro hsc; have hs0 := hsc; (try have hsd := of_decide_eq_true hsc); (try simp only [Bool.not_eq_true', Bool.or_eq_false_iff, Bool.and_eq_true, Bool.or_eq_true, decide_eq_true_eq, decide_eq_false_iff_not] at hsc); (repeat' (with_reducible apply And.intro)) <;> (first | assumption | trivial | exact (fun hq => by rw [hq]; rfl) | exact i64_of (by omega) (by omega) | omega | (simp; done) | (simp; omega) | (intro hse; simp [hse, hs0]; done) | (intro hse; simp only [hse, hs0, Bool.true_and, Bool.and_true, Bool.not_false, Bool.not_true, Bool.and_self]; done))))))
      refine useS (one_ok l q (gnA ++ ids) (by omega) hl (by simp [gnA]) (by simp [gnA]; omega)) rfl rfl rfl (by simp only [ZZ, YY, Ze, ite_true, ite_false, forall_const, reduceCtorEq, Nat.reduceAdd, Nat.reduceMul, Nat.reduceLeDiff, Nat.reduceLT, Nat.reduceEqDiff]) ?_
      rintro x cs' ⟨r, rfl, hr, rfl⟩
      have hr : r.length ≤ 30000 := by rcases List.mem_append.1 hr with hr | hr; (simp only [gnA, List.mem_cons, List.not_mem_nil, or_false] at hr; rcases hr with rfl | rfl <;> decide); have := hib r hr; omega
      simp only [ZZ, YY, Ze, ite_true, ite_false, forall_const, reduceCtorEq, Nat.reduceAdd, Nat.reduceMul, Nat.reduceLeDiff, Nat.reduceLT, Nat.reduceEqDiff]
      refine useG (fun _ => up6 (ContainsS_ok (r0 :: rr) r (by simp only [List.length_cons, List.length_nil] at *; omega))) rfl (.inr rfl) ?_
      simp only [ZZ, YY, Ze, ite_true, ite_false, forall_const, reduceCtorEq, Nat.reduceAdd, Nat.reduceMul, Nat.reduceLeDiff, Nat.reduceLT, Nat.reduceEqDiff]
      refine br ?_ ?_
      · intro _
        simp only [ZZ, YY, Ze, ite_true, ite_false, forall_const, reduceCtorEq, Nat.reduceAdd, Nat.reduceMul, Nat.reduceLeDiff, Nat.reduceLT, Nat.reduceEqDiff, strE_len, List.length_cons]
        ((repeat' (with_reducible apply And.intro)) <;> try ((first | first | assumption | trivial | exact (fun hq => by rw [hq]; rfl) | exact i64_of (by omega) (by omega) | omega | (simp; done) | (simp; omega) | (intro hsc; have hs0 := hsc; (try have hsd := of_decide_eq_true hsc); (try simp only [Bool.not_eq_true', Bool.or_eq_false_iff, Bool.and_eq_true, Bool.or_eq_true, decide_eq_true_eq, decide_eq_false_iff_not] at hsc); (repeat' (with_reducible apply And.intro)) <;> (first | assumption | trivial | exact (fun hq => by rw [hq]; rfl) | exact i64_of (by omega) (by omega) | omega | (simp; done) | (simp; omega) | (intro hse; simp [hse, hs0]; done) | (intro hse; simp only [hse, hs0, Bool.true_and, Bool.and_true, Bool.not_false, Bool.not_true, Bool.and_self]; done))))))
        refine cut_same (by simp only [ZZ, YY, Ze, ite_true, ite_false, forall_const, reduceCtorEq, Nat.reduceAdd, Nat.reduceMul, Nat.reduceLeDiff, Nat.reduceLT, Nat.reduceEqDiff]) ?_
        simp only [ZZ, YY, Ze, ite_true, ite_false, forall_const, reduceCtorEq, Nat.reduceAdd, Nat.reduceMul, Nat.reduceLeDiff, Nat.reduceLT, Nat.reduceEqDiff]
        refine ⟨i64_of (by omega) (by omega), end_round (2 - (j + 1)) [.adr (.b 0) 0, .p (.str id), .any, .p (.sl 1 (strE ids)), .any, .any, .any, .any, .adr (.l 8) 0, .adr (.l 9) 0, .any, .any, .any, .any, .any, .any, .any, .any, .any, .any, .any, .any, .any, .any, .any, .any, .any, .any, .any, .any, .any, .any, .any, .any, .any, .any, .any, .any, .any, .any, .any, .any, .any, .any, .any, .any, .any, .any, .any, .any, .any, .any, .any, .any, .any, .any, .any, .any, .any, .any, .p (int y), .p (int ((j + 1 : Nat))), .any, .any, .any, .any, .any, .any, .any, .any, .any, .any, .any, .any, .any, .any, .any, .any, .any, .any, .any, .any, .any, .any, .any, .any, .any, .any, .any, .any, .any, .any, .any, .any, .any] ([(.b 0, .box ((stm l (q + 1)).map .p) T), (.l 8, .box [.p (.str []), .p (int 0), .p (.str []), .p (.str []), .p (.nl 2), .p (.nl 2), .p (.nl 1), .p (.str []), .p (.str [])] tMail), (.l 9, .box [.p (.str id), .p (int at_), .p (.str nm), .p (.str f), .p (pT ts), .p (pT cc), cSt 82 ((r0 :: rr) ++ [r]), .p (.str []), .p (.str bd)] tMail)] ++ oSt 82 ((r0 :: rr) ++ [r])) (by omega) (by (simp only [ZZ, YY, Ze, ite_true, ite_false, forall_const, reduceCtorEq, Nat.reduceAdd, Nat.reduceMul, Nat.reduceLeDiff, Nat.reduceLT, Nat.reduceEqDiff]; try trivial)) (by simp only [ZZ, YY, Ze, ite_true, ite_false, forall_const, reduceCtorEq, Nat.reduceAdd, Nat.reduceMul, Nat.reduceLeDiff, Nat.reduceLT, Nat.reduceEqDiff, cSt, oSt, strE, List.map_append]) ⟨j + 1, q + 1, (r0 :: rr) ++ [r], by omega, rfl, by omega, (by simp only [List.length_append, List.length_cons, List.length_nil] at *; omega), (fun a ha => by rcases List.mem_append.1 ha with ha | ha; exact hr2 a ha; rw [List.mem_singleton] at ha; subst ha; exact hr), rfl, rfl⟩⟩
      · intro _
        simp only [ZZ, YY, Ze, ite_true, ite_false, forall_const, reduceCtorEq, Nat.reduceAdd, Nat.reduceMul, Nat.reduceLeDiff, Nat.reduceLT, Nat.reduceEqDiff]
        refine cut_same (by simp only [ZZ, YY, Ze, ite_true, ite_false, forall_const, reduceCtorEq, Nat.reduceAdd, Nat.reduceMul, Nat.reduceLeDiff, Nat.reduceLT, Nat.reduceEqDiff]) ?_
        simp only [ZZ, YY, Ze, ite_true, ite_false, forall_const, reduceCtorEq, Nat.reduceAdd, Nat.reduceMul, Nat.reduceLeDiff, Nat.reduceLT, Nat.reduceEqDiff]
        refine ⟨i64_of (by omega) (by omega), end_round (2 - (j + 1)) [.adr (.b 0) 0, .p (.str id), .any, .p (.sl 1 (strE ids)), .any, .any, .any, .any, .adr (.l 8) 0, .adr (.l 9) 0, .any, .any, .any, .any, .any, .any, .any, .any, .any, .any, .any, .any, .any, .any, .any, .any, .any, .any, .any, .any, .any, .any, .any, .any, .any, .any, .any, .any, .any, .any, .any, .any, .any, .any, .any, .any, .any, .any, .any, .any, .any, .any, .any, .any, .any, .any, .any, .any, .any, .any, .p (int y), .p (int ((j + 1 : Nat))), .any, .any, .any, .any, .any, .any, .any, .any, .any, .any, .any, .any, .any, .any, .any, .any, .any, .any, .any, .any, .any, .any, .any, .any, .any, .any, .any, .any, .any, .any, .any, .any, .any] ([(.b 0, .box ((stm l (q + 1)).map .p) T), (.l 8, .box [.p (.str []), .p (int 0), .p (.str []), .p (.str []), .p (.nl 2), .p (.nl 2), .p (.nl 1), .p (.str []), .p (.str [])] tMail), (.l 9, .box [.p (.str id), .p (int at_), .p (.str nm), .p (.str f), .p (pT ts), .p (pT cc), cSt 82 (r0 :: rr), .p (.str []), .p (.str bd)] tMail)] ++ oSt 82 (r0 :: rr)) (by omega) (by (simp only [ZZ, YY, Ze, ite_true, ite_false, forall_const, reduceCtorEq, Nat.reduceAdd, Nat.reduceMul, Nat.reduceLeDiff, Nat.reduceLT, Nat.reduceEqDiff]; try trivial)) (by simp only [ZZ, YY, Ze, ite_true, ite_false, forall_const, reduceCtorEq, Nat.reduceAdd, Nat.reduceMul, Nat.reduceLeDiff, Nat.reduceLT, Nat.reduceEqDiff, cSt, oSt, strE, List.map_append]) ⟨j + 1, q + 1, r0 :: rr, by omega, rfl, by omega, (by simp only [List.length_append, List.length_cons, List.length_nil] at *; omega), hr2, rfl, rfl⟩⟩
  intro h
  clear h
  simp only [ZZ, YY, Ze, ite_true, ite_false, forall_const, reduceCtorEq, Nat.reduceAdd, Nat.reduceMul, Nat.reduceLeDiff, Nat.reduceLT, Nat.reduceEqDiff]
  rw [ops_re]
  refine ⟨[.adr (.b 0) 0, .any, .any, .any, .any, .any, .any, .any, .adr (.l 8) 0, .adr (.l 9) 0, .any, .any, .any, .any, .any, .any, .any, .any, .any, .any, .any, .any, .any, .any, .any, .any, .any, .any, .any, .any, .any, .any, .any, .any, .any, .any, .any, .any, .any, .any, .any, .any, .any, .any, .any, .any, .any, .any, .any, .any, .any, .any, .any, .any, .any, .any, .any, .any, .any, .any, .any, .any, .any, .any, .any, .any, .any, .any, .any, .any, .any, .any, .any, .any, .any, .any, .any, .any, .any, .any, .any, .any, .any, .any, .any, .adr (.b 0) 0, .any, .any, .any, .any, .any, .any, .any, .any, .any], [(.b 0, .box ((stm l (q)).map .p) T), (.l 8, .box [.p (.str []), .p (int 0), .p (.str []), .p (.str []), .p (.nl 2), .p (.nl 2), .p (.nl 1), .p (.str []), .p (.str [])] tMail), (.l 9, .box [.p (.str id), .p (int at_), .p (.str nm), .p (.str f), .p (pT ts), .p (pT cc), .p (pSt rf), .p (.str []), .p (.str bd)] tMail)], ?_, ?_⟩
  · rcases rf with _ | ⟨r0, rr⟩
    · exact re_weak (by (simp only [ZZ, YY, Ze, ite_true, ite_false, forall_const, reduceCtorEq, Nat.reduceAdd, Nat.reduceMul, Nat.reduceLeDiff, Nat.reduceLT, Nat.reduceEqDiff]; try trivial)) (by simp only [ZZ, YY, Ze, ite_true, ite_false, forall_const, reduceCtorEq, Nat.reduceAdd, Nat.reduceMul, Nat.reduceLeDiff, Nat.reduceLT, Nat.reduceEqDiff, cSt, oSt, pSt])
    · exact ReOk.trans (re_row (k := .l 82) rfl) (by simp only [ZZ, YY, Ze, ite_true, ite_false, forall_const, reduceCtorEq, Nat.reduceAdd, Nat.reduceMul, Nat.reduceLeDiff, Nat.reduceLT, Nat.reduceEqDiff, cSt, oSt]; exact re_weak (by (simp only [ZZ, YY, Ze, ite_true, ite_false, forall_const, reduceCtorEq, Nat.reduceAdd, Nat.reduceMul, Nat.reduceLeDiff, Nat.reduceLT, Nat.reduceEqDiff]; try trivial)) (by simp only [ZZ, YY, Ze, ite_true, ite_false, forall_const, reduceCtorEq, Nat.reduceAdd, Nat.reduceMul, Nat.reduceLeDiff, Nat.reduceLT, Nat.reduceEqDiff, pSt]))
  simp only [ZZ, YY, Ze, ite_true, ite_false, forall_const, reduceCtorEq, Nat.reduceAdd, Nat.reduceMul, Nat.reduceLeDiff, Nat.reduceLT, Nat.reduceEqDiff]
  refine useS (one_ok l q sjA (by omega) hl (by decide) (by decide)) rfl rfl rfl (by simp only [ZZ, YY, Ze, ite_true, ite_false, forall_const, reduceCtorEq, Nat.reduceAdd, Nat.reduceMul, Nat.reduceLeDiff, Nat.reduceLT, Nat.reduceEqDiff]) ?_
  rintro x cs' ⟨s, rfl, hs, rfl⟩
  obtain ⟨s1, s2, s3, s4⟩ := sjA_ok s hs
  simp only [ZZ, YY, Ze, ite_true, ite_false, forall_const, reduceCtorEq, Nat.reduceAdd, Nat.reduceMul, Nat.reduceLeDiff, Nat.reduceLT, Nat.reduceEqDiff]
  refine use1 (Fields6_ok s (by omega) s2) rfl (.inl rfl) ?_
  simp only [ZZ, YY, Ze, ite_true, ite_false, forall_const, reduceCtorEq, Nat.reduceAdd, Nat.reduceMul, Nat.reduceLeDiff, Nat.reduceLT, Nat.reduceEqDiff]
  refine use1 (Join_ok (Lib.fields s) [32] (by omega) (by omega)) rfl (.inl rfl) ?_
  rcases ts with _ | ⟨t0, tr⟩ <;> rcases cc with _ | ⟨c0, cr⟩ <;> rcases rf with _ | ⟨r0, rr⟩
  · simp only [ZZ, YY, Ze, ite_true, ite_false, forall_const, reduceCtorEq, Nat.reduceAdd, Nat.reduceMul, Nat.reduceLeDiff, Nat.reduceLT, Nat.reduceEqDiff, pT, pSt]
    exact fin_S (stm l (q + 1)) rfl ⟨⟨id, at_, (nm, f), [], [], [], Lib.join (Lib.fields s) [32], bd⟩, _, rfl, ⟨Nat.le_trans hid (by decide), hnm, Nat.le_trans hf (by decide), Nat.le_trans ht1 (by omega), ht2, Nat.le_trans hc1 (by omega), hc2, Nat.le_trans hr1 (by omega), hr2, s4, Nat.le_trans hbd (by decide)⟩, rfl, by omega⟩
  · simp only [ZZ, YY, Ze, ite_true, ite_false, forall_const, reduceCtorEq, Nat.reduceAdd, Nat.reduceMul, Nat.reduceLeDiff, Nat.reduceLT, Nat.reduceEqDiff, pT, pSt]
    exact fin_S (stm l (q + 1)) rfl ⟨⟨id, at_, (nm, f), [], [], r0 :: rr, Lib.join (Lib.fields s) [32], bd⟩, _, rfl, ⟨Nat.le_trans hid (by decide), hnm, Nat.le_trans hf (by decide), Nat.le_trans ht1 (by omega), ht2, Nat.le_trans hc1 (by omega), hc2, Nat.le_trans hr1 (by omega), hr2, s4, Nat.le_trans hbd (by decide)⟩, rfl, by omega⟩
  · simp only [ZZ, YY, Ze, ite_true, ite_false, forall_const, reduceCtorEq, Nat.reduceAdd, Nat.reduceMul, Nat.reduceLeDiff, Nat.reduceLT, Nat.reduceEqDiff, pT, pSt]
    exact fin_S (stm l (q + 1)) rfl ⟨⟨id, at_, (nm, f), [], c0 :: cr, [], Lib.join (Lib.fields s) [32], bd⟩, _, rfl, ⟨Nat.le_trans hid (by decide), hnm, Nat.le_trans hf (by decide), Nat.le_trans ht1 (by omega), ht2, Nat.le_trans hc1 (by omega), hc2, Nat.le_trans hr1 (by omega), hr2, s4, Nat.le_trans hbd (by decide)⟩, rfl, by omega⟩
  · simp only [ZZ, YY, Ze, ite_true, ite_false, forall_const, reduceCtorEq, Nat.reduceAdd, Nat.reduceMul, Nat.reduceLeDiff, Nat.reduceLT, Nat.reduceEqDiff, pT, pSt]
    exact fin_S (stm l (q + 1)) rfl ⟨⟨id, at_, (nm, f), [], c0 :: cr, r0 :: rr, Lib.join (Lib.fields s) [32], bd⟩, _, rfl, ⟨Nat.le_trans hid (by decide), hnm, Nat.le_trans hf (by decide), Nat.le_trans ht1 (by omega), ht2, Nat.le_trans hc1 (by omega), hc2, Nat.le_trans hr1 (by omega), hr2, s4, Nat.le_trans hbd (by decide)⟩, rfl, by omega⟩
  · simp only [ZZ, YY, Ze, ite_true, ite_false, forall_const, reduceCtorEq, Nat.reduceAdd, Nat.reduceMul, Nat.reduceLeDiff, Nat.reduceLT, Nat.reduceEqDiff, pT, pSt]
    exact fin_S (stm l (q + 1)) rfl ⟨⟨id, at_, (nm, f), t0 :: tr, [], [], Lib.join (Lib.fields s) [32], bd⟩, _, rfl, ⟨Nat.le_trans hid (by decide), hnm, Nat.le_trans hf (by decide), Nat.le_trans ht1 (by omega), ht2, Nat.le_trans hc1 (by omega), hc2, Nat.le_trans hr1 (by omega), hr2, s4, Nat.le_trans hbd (by decide)⟩, rfl, by omega⟩
  · simp only [ZZ, YY, Ze, ite_true, ite_false, forall_const, reduceCtorEq, Nat.reduceAdd, Nat.reduceMul, Nat.reduceLeDiff, Nat.reduceLT, Nat.reduceEqDiff, pT, pSt]
    exact fin_S (stm l (q + 1)) rfl ⟨⟨id, at_, (nm, f), t0 :: tr, [], r0 :: rr, Lib.join (Lib.fields s) [32], bd⟩, _, rfl, ⟨Nat.le_trans hid (by decide), hnm, Nat.le_trans hf (by decide), Nat.le_trans ht1 (by omega), ht2, Nat.le_trans hc1 (by omega), hc2, Nat.le_trans hr1 (by omega), hr2, s4, Nat.le_trans hbd (by decide)⟩, rfl, by omega⟩
  · simp only [ZZ, YY, Ze, ite_true, ite_false, forall_const, reduceCtorEq, Nat.reduceAdd, Nat.reduceMul, Nat.reduceLeDiff, Nat.reduceLT, Nat.reduceEqDiff, pT, pSt]
    exact fin_S (stm l (q + 1)) rfl ⟨⟨id, at_, (nm, f), t0 :: tr, c0 :: cr, [], Lib.join (Lib.fields s) [32], bd⟩, _, rfl, ⟨Nat.le_trans hid (by decide), hnm, Nat.le_trans hf (by decide), Nat.le_trans ht1 (by omega), ht2, Nat.le_trans hc1 (by omega), hc2, Nat.le_trans hr1 (by omega), hr2, s4, Nat.le_trans hbd (by decide)⟩, rfl, by omega⟩
  · simp only [ZZ, YY, Ze, ite_true, ite_false, forall_const, reduceCtorEq, Nat.reduceAdd, Nat.reduceMul, Nat.reduceLeDiff, Nat.reduceLT, Nat.reduceEqDiff, pT, pSt]
    exact fin_S (stm l (q + 1)) rfl ⟨⟨id, at_, (nm, f), t0 :: tr, c0 :: cr, r0 :: rr, Lib.join (Lib.fields s) [32], bd⟩, _, rfl, ⟨Nat.le_trans hid (by decide), hnm, Nat.le_trans hf (by decide), Nat.le_trans ht1 (by omega), ht2, Nat.le_trans hc1 (by omega), hc2, Nat.le_trans hr1 (by omega), hr2, s4, Nat.le_trans hbd (by decide)⟩, rfl, by omega⟩
end Go.Proofs.YtidmphcocnaonaaGreatDoor

/- Letters that are made: their sizes. -/
namespace Go.Proofs.YtidmphcocnaonaaGreatDoor
open Go.RowKit
set_option linter.unusedVariables false
set_option linter.unusedSimpArgs false
set_option linter.defProp false

/- (*paperchase/chasemake.Stream).Letters -/
def ir_chasemake_Stream_Letters_L2 : IC :=
  (.seq (.reg [⟨some 62, .bin .lss (.t 61) (.t 60), none⟩])
    (.seq (.cond (.t 62) .skip (.exit 4))
    (.seq (.block 5 (.seq (.reg [⟨some 63, .ixa 1 (.t 59) (.t 61), none⟩,
      ⟨some 64, .ld 1 false (.t 63), none⟩,
      ⟨some 13, .mov (.t 64), none⟩])
    (.reg [⟨some 65, .mov (.t 11), none⟩,
      ⟨some 66, .mov (.t 7), none⟩,
      ⟨some 67, .mov (.t 13), none⟩,
      ⟨some 68, .ixa 9 (.t 66) (.t 67), none⟩,
      ⟨some 69, .ld 9 true (.t 68), none⟩,
      ⟨some 70, .bsl 9 [.t 69], none⟩,
      ⟨some 71, .app 74 9 160 (.t 65) (.t 70), none⟩,
      ⟨some 11, .mov (.t 71), none⟩])))
    (.reg [⟨some 72, .bin .add (.t 61) (.c (.int .i64 1)), none⟩,
      ⟨some 61, .mov (.t 72), none⟩]))))
def ir_chasemake_Stream_Letters_L1 : IC :=
  (.seq (.reg [⟨some 36, .bin .lss (.t 35) (.t 34), none⟩])
    (.seq (.cond (.t 36) .skip (.exit 2))
    (.seq (.block 3 (.seq (.reg [⟨some 37, .ixa 1 (.t 33) (.t 35), none⟩,
      ⟨some 38, .ld 1 false (.t 37), none⟩,
      ⟨some 10, .mov (.t 38), none⟩])
    (.seq (.reg [⟨some 39, .mov (.t 8), none⟩,
      ⟨some 40, .mov (.t 0), none⟩,
      ⟨some 41, .bsl 1 [.c (.int .i64 0), .c (.int .i64 5), .c (.int .i64 30), .c (.int .i64 300)], none⟩,
      ⟨some 42, .call 59 [.t 40, .t 41], none⟩,
      ⟨some 43, .bin .add (.t 39) (.t 42), none⟩,
      ⟨some 8, .mov (.t 43), none⟩])
    (.reg [⟨some 44, .mov (.t 7), none⟩,
      ⟨some 45, .mov (.t 0), none⟩,
      ⟨some 46, .mov (.t 5), none⟩,
      ⟨some 47, .mov (.t 10), none⟩,
      ⟨some 48, .ixa 1 (.t 46) (.t 47), none⟩,
      ⟨some 49, .ld 1 false (.t 48), none⟩,
      ⟨some 50, .mov (.t 8), none⟩,
      ⟨some 51, .mov (.t 5), none⟩,
      ⟨none, .fz (.t 51), none⟩,
      ⟨some 52, .call 185 [.t 45, .t 49, .t 50, .t 51], none⟩,
      ⟨none, .fz (.t 52), none⟩,
      ⟨some 53, .bsl 9 [.t 52], none⟩,
      ⟨some 54, .app 74 9 160 (.t 44) (.t 53), none⟩,
      ⟨some 7, .mov (.t 54), none⟩]))))
    (.reg [⟨some 55, .bin .add (.t 35) (.c (.int .i64 1)), none⟩,
      ⟨some 35, .mov (.t 55), none⟩]))))
def ir_chasemake_Stream_Letters_L0 : IC :=
  (.seq (.reg [⟨some 19, .bin .lss (.t 18) (.t 17), none⟩])
    (.seq (.cond (.t 19) .skip (.exit 0))
    (.seq (.block 1 (.seq (.reg [⟨some 20, .mov (.t 18), none⟩,
      ⟨some 6, .mov (.t 20), none⟩])
    (.reg [⟨some 21, .mov (.t 5), none⟩,
      ⟨some 22, .mov (.t 6), none⟩,
      ⟨some 23, .bin .add (.c (.int .i64 97)) (.t 22), none⟩,
      ⟨some 24, .cvi .i32 (.t 23), none⟩,
      ⟨some 25, .cvs (.t 24), none⟩,
      ⟨some 26, .bin .add (.c (.str [109])) (.t 25), none⟩,
      ⟨some 27, .bsl 1 [.t 26], none⟩,
      ⟨some 28, .app 9 1 16 (.t 21) (.t 27), none⟩,
      ⟨some 5, .mov (.t 28), none⟩])))
    (.reg [⟨some 29, .bin .add (.t 18) (.c (.int .i64 1)), none⟩,
      ⟨some 18, .mov (.t 29), none⟩]))))
def ir_chasemake_Stream_Letters : IC :=
  (.seq (.reg [⟨some 4, .mov (.c (.nl 9)), none⟩])
    (.seq (.reg [⟨some 5, .nilr 9 1, none⟩])
    (.seq (.seq (.reg [⟨some 14, .mov (.t 0), none⟩,
      ⟨some 15, .mov (.t 1), none⟩,
      ⟨some 16, .bin .add (.t 15) (.c (.int .i64 1)), none⟩,
      ⟨some 17, .call 58 [.t 14, .t 16], none⟩,
      ⟨some 18, .mov (.c (.int .i64 0)), none⟩])
    (.block 0 (.loop ir_chasemake_Stream_Letters_L0)))
    (.seq (.reg [⟨some 7, .nilr 74 9, none⟩])
    (.seq (.reg [⟨some 8, .mov (.c (.int .i64 0)), none⟩])
    (.seq (.seq (.reg [⟨some 30, .mov (.t 0), none⟩,
      ⟨some 31, .mov (.t 5), none⟩,
      ⟨some 32, .len (.t 31), none⟩,
      ⟨some 33, .call 184 [.t 30, .t 32], none⟩,
      ⟨some 34, .len (.t 33), none⟩,
      ⟨some 35, .mov (.c (.int .i64 0)), none⟩])
    (.block 2 (.loop ir_chasemake_Stream_Letters_L1)))
    (.seq (.reg [⟨some 11, .nilr 74 9, none⟩])
    (.seq (.seq (.reg [⟨some 56, .mov (.t 0), none⟩,
      ⟨some 57, .mov (.t 7), none⟩,
      ⟨some 58, .len (.t 57), none⟩,
      ⟨some 59, .call 184 [.t 56, .t 58], none⟩,
      ⟨some 60, .len (.t 59), none⟩,
      ⟨some 61, .mov (.c (.int .i64 0)), none⟩])
    (.block 4 (.loop ir_chasemake_Stream_Letters_L2)))
    (.seq (.reg [⟨some 73, .mov (.t 11), none⟩,
      ⟨some 4, .mov (.t 73), none⟩])
    .ret)))))))))
def rs_chasemake_Stream_Letters : List IRes := [.t 4]
theorem ck_chasemake_Stream_Letters : chkF Tryz.prog Tryz.f107 ir_chasemake_Stream_Letters rs_chasemake_Stream_Letters 74 = true := by kernel_rfl
/- (*paperchase/chasemake.Stream).AnyLetters -/
def ir_chasemake_Stream_AnyLetters : IC :=
  (.seq (.reg [⟨some 4, .mov (.c (.nl 9)), none⟩])
    (.seq (.reg [⟨some 7, .mov (.t 0), none⟩,
      ⟨some 8, .mov (.t 1), none⟩,
      ⟨some 9, .call 107 [.t 7, .t 8], none⟩,
      ⟨some 5, .mov (.t 9), none⟩])
    (.seq (.seq (.reg [⟨some 10, .mov (.t 0), none⟩,
      ⟨some 11, .call 44 [.t 10, .c (.int .i64 10)], none⟩,
      ⟨some 12, .mov (.t 11), none⟩,
      ⟨some 13, .mov (.t 5), (some (12, true))⟩,
      ⟨some 14, .len (.t 13), (some (12, true))⟩,
      ⟨some 15, .bin .gtr (.t 14) (.c (.int .i64 0)), (some (12, true))⟩,
      ⟨some 16, .pick (.t 12) (.t 15) (.c (.bool false)), none⟩])
    (.cond (.t 16) (.seq (.reg [⟨some 17, .mov (.t 0), none⟩,
      ⟨some 18, .mov (.t 5), none⟩,
      ⟨some 19, .len (.t 18), none⟩,
      ⟨some 20, .call 58 [.t 17, .t 19], none⟩,
      ⟨some 6, .mov (.t 20), none⟩])
    (.seq (.reg [⟨some 21, .mov (.t 0), none⟩,
      ⟨some 22, .call 44 [.t 21, .c (.int .i64 3)], none⟩])
    (.cond (.t 22) (.reg [⟨some 23, .mov (.t 5), none⟩,
      ⟨some 24, .mov (.t 6), none⟩,
      ⟨some 25, .mov (.t 5), none⟩,
      ⟨some 26, .ixa 9 (.t 25) (.c (.int .i64 0)), none⟩,
      ⟨some 27, .fla 0 (.t 26), none⟩,
      ⟨some 28, .ld 1 false (.t 27), none⟩,
      ⟨some 29, .ixa 9 (.t 23) (.t 24), none⟩,
      ⟨some 30, .fla 0 (.t 29), none⟩,
      ⟨none, .st 1 (.t 30) (.t 28), none⟩]) (.reg [⟨some 31, .mov (.t 5), none⟩,
      ⟨some 32, .mov (.t 6), none⟩,
      ⟨some 33, .mov (.t 0), none⟩,
      ⟨some 34, .mov (.t 5), none⟩,
      ⟨some 35, .mov (.t 6), none⟩,
      ⟨some 36, .ixa 9 (.t 34) (.t 35), none⟩,
      ⟨some 37, .ld 9 true (.t 36), none⟩,
      ⟨some 38, .call 108 [.t 33, .t 37], none⟩,
      ⟨some 39, .ixa 9 (.t 31) (.t 32), none⟩,
      ⟨none, .st 9 (.t 39) (.t 38), none⟩])))) .skip))
    (.cut (.seq (.reg [⟨some 40, .mov (.t 5), none⟩,
      ⟨some 4, .mov (.t 40), none⟩])
    .ret)))))
def rs_chasemake_Stream_AnyLetters : List IRes := [.t 4]
theorem ck_chasemake_Stream_AnyLetters : chkF Tryz.prog Tryz.f35 ir_chasemake_Stream_AnyLetters rs_chasemake_Stream_AnyLetters 41 = true := by kernel_rfl

theorem encW_le (c : Int) : (Utf8.encode c).data.toList.length ≤ 4 := by
  rw [Array.length_toList]
  exact encode_size_le c
theorem ltE_snoc (l : List Ltr) (m : Ltr) : ltE l ++ [[.str m.id, int m.at_, .str m.fr.1, .str m.fr.2, .sl 2 (adrE m.tos), .sl 2 (adrE m.ccs), .sl 1 (strE m.refs), .str m.sub, .str m.body]] = ltE (l ++ [m]) := by simp [ltE, ltV]
theorem Letters_ok (l : List Int) (k : Nat) (most : Nat) (hmost : most ≤ 20) (hk : k ≤ 700000) (hl : l.length ≤ 9223372036854775807) :
    SFresh Tryz.prog E6 107 T (stm l k) [int (most : Nat)] tMail 9 (fun es cs' => ∃ (u : List Ltr) (k' : Nat), es = ltE u ∧ u.length ≤ most ∧ (∀ m ∈ u, LtM 100 m) ∧ cs' = stm l k' ∧ k' ≤ k + 10000) := by
  unfold SFresh
  refine gcallR mixed Tryz.func107 ck_chasemake_Stream_Letters ?_
  simp only [a0, l0, OS.ao, List.map_cons, List.map_nil, List.length_cons, List.length_nil, List.cons_append, List.nil_append, Nat.reduceSub, Nat.reduceAdd, List.replicate_succ, List.replicate_zero, ir_chasemake_Stream_Letters, rs_chasemake_Stream_Letters, ZZ, YY, Ze, ite_true, ite_false, forall_const, reduceCtorEq, Nat.reduceAdd, Nat.reduceMul, Nat.reduceLeDiff, Nat.reduceLT, Nat.reduceEqDiff]
  ((repeat' (with_reducible apply And.intro)) <;> try ((first | first | assumption | trivial | exact (fun hq => by rw [hq]; rfl) | exact i64_of (by omega) (by omega) | omega | (simp; done) | (simp; omega) | (intro hsc; have hs0 := hsc; (try have hsd := of_decide_eq_true hsc); (try simp only [Bool.not_eq_true', Bool.or_eq_false_iff, Bool.and_eq_true, Bool.or_eq_true, decide_eq_true_eq, decide_eq_false_iff_not] at hsc); (repeat' (with_reducible apply And.intro)) <;> (first | assumption | trivial | exact (fun hq => by rw [hq]; rfl) | exact i64_of (by omega) (by omega) | omega | (simp; done) | (simp; omega) | (intro hse; simp [hse, hs0]; done) | (intro hse; simp only [hse, hs0, Bool.true_and, Bool.and_true, Bool.not_false, Bool.not_true, Bool.and_self]; done))))))
  refine useS (Next_ok l k _ (by omega) hl (by omega)) rfl rfl rfl (by simp only [ZZ, YY, Ze, ite_true, ite_false, forall_const, reduceCtorEq, Nat.reduceAdd, Nat.reduceMul, Nat.reduceLeDiff, Nat.reduceLT, Nat.reduceEqDiff]) ?_
  rintro x cs' ⟨y, rfl, rfl⟩
  have b1 := below_lo y ((most : Nat) + 1)
  have b2 := below_hi y ((most : Nat) + 1) (by omega)
  obtain ⟨c, hc⟩ : ∃ c : Nat, below y ((most : Nat) + 1) = (c : Nat) := ⟨(below y ((most : Nat) + 1)).toNat, by omega⟩
  rw [hc] at b1 b2 ⊢
  clear hc
  simp only [ZZ, YY, Ze, ite_true, ite_false, forall_const, reduceCtorEq, Nat.reduceAdd, Nat.reduceMul, Nat.reduceLeDiff, Nat.reduceLT, Nat.reduceEqDiff]
  have hR0 : ([] : List (List PV)) = strE [] := rfl
  rw [hR0]
  refine loop_intro (fun n fr L => ∃ (i : Nat) (ids : List (List UInt8)), i ≤ c ∧ n = c - i ∧ (ids.length = i) ∧ (∀ s ∈ ids, s.length ≤ 100) ∧ fr = [.adr (.b 0) 0, .any, .any, .any, .any, .row (.l 5), .any, .any, .any, .any, .any, .any, .any, .any, .any, .any, .any, .p (int (c : Nat)), .p (int (i : Nat)), .any, .any, .any, .any, .any, .any, .any, .any, .any, .any, .any, .any, .any, .any, .any, .any, .any, .any, .any, .any, .any, .any, .any, .any, .any, .any, .any, .any, .any, .any, .any, .any, .any, .any, .any, .any, .any, .any, .any, .any, .any, .any, .any, .any, .any, .any, .any, .any, .any, .any, .any, .any, .any, .any, .any] ∧ L = [(.b 0, .box ((stm l (k + 1)).map .p) T), (.l 5, .row (strE ids) tStrW 1 true)]) (c) [.adr (.b 0) 0, .any, .any, .any, .any, .row (.l 5), .any, .any, .any, .any, .any, .any, .any, .any, .any, .any, .any, .p (int (c : Nat)), .p (int (0 : Nat)), .any, .any, .any, .any, .any, .any, .any, .any, .any, .any, .any, .any, .any, .any, .any, .any, .any, .any, .any, .any, .any, .any, .any, .any, .any, .any, .any, .any, .any, .any, .any, .any, .any, .any, .any, .any, .any, .any, .any, .any, .any, .any, .any, .any, .any, .any, .any, .any, .any, .any, .any, .any, .any, .any, .any] [(.b 0, .box ((stm l (k + 1)).map .p) T), (.l 5, .row (strE []) tStrW 1 true)] (by (simp only [ZZ, YY, Ze, ite_true, ite_false, forall_const, reduceCtorEq, Nat.reduceAdd, Nat.reduceMul, Nat.reduceLeDiff, Nat.reduceLT, Nat.reduceEqDiff]; try trivial)) (by (simp only [ZZ, YY, Ze, ite_true, ite_false, forall_const, reduceCtorEq, Nat.reduceAdd, Nat.reduceMul, Nat.reduceLeDiff, Nat.reduceLT, Nat.reduceEqDiff]; try trivial)) ⟨0, [], by omega, by omega, rfl, (fun s hs => by cases hs), rfl, rfl⟩ ?_
  rintro n fr L ⟨i, ids, hi, rfl, hil, hib, rfl, rfl⟩
  simp only [ir_chasemake_Stream_Letters_L0, ZZ, YY, Ze, ite_true, ite_false, forall_const, reduceCtorEq, Nat.reduceAdd, Nat.reduceMul, Nat.reduceLeDiff, Nat.reduceLT, Nat.reduceEqDiff]
  refine br ?_ ?_
  · intro h
    have hlt : i < c := by have := of_decide_eq_true h; omega
    have hE4 := encW_le (IntKind.i32.wrap (97 + ((i : Nat) : Int)))
    obtain ⟨id, hid, hidl⟩ : ∃ id, id = 109 :: (Utf8.encode (IntKind.i32.wrap (97 + ((i : Nat) : Int)))).data.toList ∧ id.length ≤ 100 := ⟨_, rfl, by simp only [List.length_cons]; omega⟩
    simp only [ZZ, YY, Ze, ite_true, ite_false, forall_const, reduceCtorEq, Nat.reduceAdd, Nat.reduceMul, Nat.reduceLeDiff, Nat.reduceLT, Nat.reduceEqDiff, strE_len, hil]
    ((repeat' (with_reducible apply And.intro)) <;> try ((first | first | assumption | trivial | exact (fun hq => by rw [hq]; rfl) | exact i64_of (by omega) (by omega) | omega | (simp; done) | (simp; omega) | (intro hsc; have hs0 := hsc; (try have hsd := of_decide_eq_true hsc); (try simp only [Bool.not_eq_true', Bool.or_eq_false_iff, Bool.and_eq_true, Bool.or_eq_true, decide_eq_true_eq, decide_eq_false_iff_not] at hsc); (repeat' (with_reducible apply And.intro)) <;> (first | assumption | trivial | exact (fun hq => by rw [hq]; rfl) | exact i64_of (by omega) (by omega) | omega | (simp; done) | (simp; omega) | (intro hse; simp [hse, hs0]; done) | (intro hse; simp only [hse, hs0, Bool.true_and, Bool.and_true, Bool.not_false, Bool.not_true, Bool.and_self]; done))))))
    rw [← hid, show strE ids ++ [[PV.str id]] = strE (ids ++ [id]) from by rw [strE_app]; rfl]
    clear hid hE4
    refine end_round (c - (i + 1)) [.adr (.b 0) 0, .any, .any, .any, .any, .row (.l 5), .any, .any, .any, .any, .any, .any, .any, .any, .any, .any, .any, .p (int (c : Nat)), .p (int ((i + 1) : Nat)), .any, .any, .any, .any, .any, .any, .any, .any, .any, .any, .any, .any, .any, .any, .any, .any, .any, .any, .any, .any, .any, .any, .any, .any, .any, .any, .any, .any, .any, .any, .any, .any, .any, .any, .any, .any, .any, .any, .any, .any, .any, .any, .any, .any, .any, .any, .any, .any, .any, .any, .any, .any, .any, .any, .any] [(.b 0, .box ((stm l (k + 1)).map .p) T), (.l 5, .row (strE (ids ++ [id])) tStrW 1 true)] (by omega) (by (simp only [ZZ, YY, Ze, ite_true, ite_false, forall_const, reduceCtorEq, Nat.reduceAdd, Nat.reduceMul, Nat.reduceLeDiff, Nat.reduceLT, Nat.reduceEqDiff]; try trivial)) (by (simp only [ZZ, YY, Ze, ite_true, ite_false, forall_const, reduceCtorEq, Nat.reduceAdd, Nat.reduceMul, Nat.reduceLeDiff, Nat.reduceLT, Nat.reduceEqDiff]; try trivial)) ⟨i + 1, ids ++ [id], by omega, rfl, by simp [hil], by intro s hs; rcases List.mem_append.1 hs with hs | hs; exact hib s hs; rw [List.mem_singleton] at hs; subst hs; exact hidl, rfl, rfl⟩
  intro h
  have hge : c = i := by have := of_decide_eq_false h; omega
  subst hge
  simp only [ZZ, YY, Ze, ite_true, ite_false, forall_const, reduceCtorEq, Nat.reduceAdd, Nat.reduceMul, Nat.reduceLeDiff, Nat.reduceLT, Nat.reduceEqDiff, strE_len, hil]
  refine useSF (Order_ok l (k + 1) c (by omega) hl (by omega)) rfl rfl rfl (by simp only [ZZ, YY, Ze, ite_true, ite_false, forall_const, reduceCtorEq, Nat.reduceAdd, Nat.reduceMul, Nat.reduceLeDiff, Nat.reduceLT, Nat.reduceEqDiff]) ?_
  rintro es cs' ⟨o, k1, rfl, ho, hor, rfl, hk1⟩
  simp only [ZZ, YY, Ze, ite_true, ite_false, forall_const, reduceCtorEq, Nat.reduceAdd, Nat.reduceMul, Nat.reduceLeDiff, Nat.reduceLT, Nat.reduceEqDiff, inE1_len, ho]
  have hR1 : ([] : List (List PV)) = ltE [] := rfl
  rw [hR1]
  refine loop_re (fun n fr L => ∃ (j : Nat) (k' : Nat) (at_ : Int) (u : List Ltr), j ≤ c ∧ n = c - j ∧ (k' ≤ k1 + 101 * j) ∧ (0 ≤ at_ ∧ at_ ≤ 300 * j) ∧ (u.length = j) ∧ (∀ m ∈ u, LtM 100 m) ∧ fr = [.adr (.b 0) 0, .any, .any, .any, .any, .p (.sl 1 (strE ids)), .any, .row (.l 7), .p (int at_), .any, .any, .any, .any, .any, .any, .any, .any, .any, .any, .any, .any, .any, .any, .any, .any, .any, .any, .any, .any, .any, .any, .any, .any, .row (.l 33), .p (int (c : Nat)), .p (int (j : Nat)), .any, .any, .any, .any, .any, .any, .any, .any, .any, .any, .any, .any, .any, .any, .any, .any, .any, .any, .any, .any, .any, .any, .any, .any, .any, .any, .any, .any, .any, .any, .any, .any, .any, .any, .any, .any, .any, .any] ∧ L = [(.b 0, .box ((stm l k').map .p) T), (.l 7, .row (ltE u) tMail 9 true), (.l 33, .row (inE1 o) tIntW 1 true)]) (c) [.adr (.b 0) 0, .any, .any, .any, .any, .p (.sl 1 (strE ids)), .any, .row (.l 7), .p (int 0), .any, .any, .any, .any, .any, .any, .any, .any, .any, .any, .any, .any, .any, .any, .any, .any, .any, .any, .any, .any, .any, .any, .any, .any, .row (.l 33), .p (int (c : Nat)), .p (int (0 : Nat)), .any, .any, .any, .any, .any, .any, .any, .any, .any, .any, .any, .any, .any, .any, .any, .any, .any, .any, .any, .any, .any, .any, .any, .any, .any, .any, .any, .any, .any, .any, .any, .any, .any, .any, .any, .any, .any, .any] [(.b 0, .box ((stm l k1).map .p) T), (.l 7, .row (ltE []) tMail 9 true), (.l 33, .row (inE1 o) tIntW 1 true)] (ReOk.trans (re_row (k := .l 5) rfl) (by simp only [ZZ, YY, Ze, ite_true, ite_false, forall_const, reduceCtorEq, Nat.reduceAdd, Nat.reduceMul, Nat.reduceLeDiff, Nat.reduceLT, Nat.reduceEqDiff]; exact re_weak (by (simp only [ZZ, YY, Ze, ite_true, ite_false, forall_const, reduceCtorEq, Nat.reduceAdd, Nat.reduceMul, Nat.reduceLeDiff, Nat.reduceLT, Nat.reduceEqDiff]; try trivial)) (by simp only [ZZ, YY, Ze, ite_true, ite_false, forall_const, reduceCtorEq, Nat.reduceAdd, Nat.reduceMul, Nat.reduceLeDiff, Nat.reduceLT, Nat.reduceEqDiff]))) ⟨0, k1, 0, [], by omega, by omega, by omega, ⟨by omega, by omega⟩, rfl, (fun s hs => by cases hs), rfl, rfl⟩ ?_
  rintro n fr L ⟨j, k', at_, u, hj, rfl, hk', hat, hul, hub, rfl, rfl⟩
  simp only [ir_chasemake_Stream_Letters_L1, ZZ, YY, Ze, ite_true, ite_false, forall_const, reduceCtorEq, Nat.reduceAdd, Nat.reduceMul, Nat.reduceLeDiff, Nat.reduceLT, Nat.reduceEqDiff]
  refine br ?_ ?_
  · intro h
    have hlt : j < c := by have := of_decide_eq_true h; omega
    obtain ⟨p, hp⟩ : ∃ p, o[j]? = some p := ⟨_, List.getElem?_eq_getElem (by omega)⟩
    have hg := inE1_get hp
    obtain ⟨hp0, hp1⟩ := hor p (List.mem_of_getElem? hp)
    obtain ⟨q, rfl⟩ : ∃ q : Nat, p = (q : Nat) := ⟨p.toNat, by omega⟩
    obtain ⟨id, hid⟩ : ∃ id, ids[q]? = some id := ⟨_, List.getElem?_eq_getElem (by omega)⟩
    have hg2 := strE_get hid
    have hidl := hib id (List.mem_of_getElem? hid)
    simp only [ZZ, YY, Ze, ite_true, ite_false, forall_const, reduceCtorEq, Nat.reduceAdd, Nat.reduceMul, Nat.reduceLeDiff, Nat.reduceLT, Nat.reduceEqDiff, hg, hg2, inE1_len, ho, strE_len, hil]
    ((repeat' (with_reducible apply And.intro)) <;> try ((first | first | assumption | trivial | exact (fun hq => by rw [hq]; rfl) | exact i64_of (by omega) (by omega) | omega | (simp; done) | (simp; omega) | (intro hsc; have hs0 := hsc; (try have hsd := of_decide_eq_true hsc); (try simp only [Bool.not_eq_true', Bool.or_eq_false_iff, Bool.and_eq_true, Bool.or_eq_true, decide_eq_true_eq, decide_eq_false_iff_not] at hsc); (repeat' (with_reducible apply And.intro)) <;> (first | assumption | trivial | exact (fun hq => by rw [hq]; rfl) | exact i64_of (by omega) (by omega) | omega | (simp; done) | (simp; omega) | (intro hse; simp [hse, hs0]; done) | (intro hse; simp only [hse, hs0, Bool.true_and, Bool.and_true, Bool.not_false, Bool.not_true, Bool.and_self]; done))))))
    refine useS (Pick_ok l k' [0, 5, 30, 300] (by omega) hl (by simp) (by simp)) rfl rfl rfl (by simp only [ZZ, YY, Ze, ite_true, ite_false, forall_const, reduceCtorEq, Nat.reduceAdd, Nat.reduceMul, Nat.reduceLeDiff, Nat.reduceLT, Nat.reduceEqDiff]) ?_
    rintro x cs' ⟨v, rfl, hv, rfl⟩
    have hv : 0 ≤ v ∧ v ≤ 300 := by simp at hv; omega
    simp only [ZZ, YY, Ze, ite_true, ite_false, forall_const, reduceCtorEq, Nat.reduceAdd, Nat.reduceMul, Nat.reduceLeDiff, Nat.reduceLT, Nat.reduceEqDiff, hg, hg2, inE1_len, ho, strE_len, hil]
    ((repeat' (with_reducible apply And.intro)) <;> try ((first | first | assumption | trivial | exact (fun hq => by rw [hq]; rfl) | exact i64_of (by omega) (by omega) | omega | (simp; done) | (simp; omega) | (intro hsc; have hs0 := hsc; (try have hsd := of_decide_eq_true hsc); (try simp only [Bool.not_eq_true', Bool.or_eq_false_iff, Bool.and_eq_true, Bool.or_eq_true, decide_eq_true_eq, decide_eq_false_iff_not] at hsc); (repeat' (with_reducible apply And.intro)) <;> (first | assumption | trivial | exact (fun hq => by rw [hq]; rfl) | exact i64_of (by omega) (by omega) | omega | (simp; done) | (simp; omega) | (intro hse; simp [hse, hs0]; done) | (intro hse; simp only [hse, hs0, Bool.true_and, Bool.and_true, Bool.not_false, Bool.not_true, Bool.and_self]; done))))))
    refine useS (Letter_ok l (k' + 1) id (at_ + v) ids hidl (by omega) hib (by omega) hl) rfl rfl rfl (by simp only [ZZ, YY, Ze, ite_true, ite_false, forall_const, reduceCtorEq, Nat.reduceAdd, Nat.reduceMul, Nat.reduceLeDiff, Nat.reduceLT, Nat.reduceEqDiff]) ?_
    rintro x cs' ⟨m, k2, rfl, hm, rfl, hk2⟩
    simp only [ZZ, YY, Ze, ite_true, ite_false, forall_const, reduceCtorEq, Nat.reduceAdd, Nat.reduceMul, Nat.reduceLeDiff, Nat.reduceLT, Nat.reduceEqDiff, ltE_len, hul, ltV]
    ((repeat' (with_reducible apply And.intro)) <;> try ((first | first | assumption | trivial | exact (fun hq => by rw [hq]; rfl) | exact i64_of (by omega) (by omega) | omega | (simp; done) | (simp; omega) | (intro hsc; have hs0 := hsc; (try have hsd := of_decide_eq_true hsc); (try simp only [Bool.not_eq_true', Bool.or_eq_false_iff, Bool.and_eq_true, Bool.or_eq_true, decide_eq_true_eq, decide_eq_false_iff_not] at hsc); (repeat' (with_reducible apply And.intro)) <;> (first | assumption | trivial | exact (fun hq => by rw [hq]; rfl) | exact i64_of (by omega) (by omega) | omega | (simp; done) | (simp; omega) | (intro hse; simp [hse, hs0]; done) | (intro hse; simp only [hse, hs0, Bool.true_and, Bool.and_true, Bool.not_false, Bool.not_true, Bool.and_self]; done))))))
    rw [ltE_snoc u m]
    refine end_round (c - (j + 1)) [.adr (.b 0) 0, .any, .any, .any, .any, .p (.sl 1 (strE ids)), .any, .row (.l 7), .p (int (at_ + v)), .any, .any, .any, .any, .any, .any, .any, .any, .any, .any, .any, .any, .any, .any, .any, .any, .any, .any, .any, .any, .any, .any, .any, .any, .row (.l 33), .p (int (c : Nat)), .p (int ((j + 1) : Nat)), .any, .any, .any, .any, .any, .any, .any, .any, .any, .any, .any, .any, .any, .any, .any, .any, .any, .any, .any, .any, .any, .any, .any, .any, .any, .any, .any, .any, .any, .any, .any, .any, .any, .any, .any, .any, .any, .any] [(.b 0, .box ((stm l (k2)).map .p) T), (.l 7, .row (ltE (u ++ [m])) tMail 9 true), (.l 33, .row (inE1 o) tIntW 1 true)] (by omega) (by (simp only [ZZ, YY, Ze, ite_true, ite_false, forall_const, reduceCtorEq, Nat.reduceAdd, Nat.reduceMul, Nat.reduceLeDiff, Nat.reduceLT, Nat.reduceEqDiff]; try trivial)) (by (simp only [ZZ, YY, Ze, ite_true, ite_false, forall_const, reduceCtorEq, Nat.reduceAdd, Nat.reduceMul, Nat.reduceLeDiff, Nat.reduceLT, Nat.reduceEqDiff]; try trivial)) ⟨j + 1, k2, at_ + v, u ++ [m], by omega, rfl, by omega, by omega, by simp [hul], by intro s hs; rcases List.mem_append.1 hs with hs | hs; exact hub s hs; rw [List.mem_singleton] at hs; subst hs; exact hm.le (by omega), rfl, rfl⟩
  intro h
  have hge : c = j := by have := of_decide_eq_false h; omega
  subst hge
  simp only [ZZ, YY, Ze, ite_true, ite_false, forall_const, reduceCtorEq, Nat.reduceAdd, Nat.reduceMul, Nat.reduceLeDiff, Nat.reduceLT, Nat.reduceEqDiff, ltE_len, hul]
  refine useSF (Order_ok l k' c (by omega) hl (by omega)) rfl rfl rfl (by simp only [ZZ, YY, Ze, ite_true, ite_false, forall_const, reduceCtorEq, Nat.reduceAdd, Nat.reduceMul, Nat.reduceLeDiff, Nat.reduceLT, Nat.reduceEqDiff]) ?_
  rintro es cs' ⟨o2, k3, rfl, ho2, hor2, rfl, hk3⟩
  simp only [ZZ, YY, Ze, ite_true, ite_false, forall_const, reduceCtorEq, Nat.reduceAdd, Nat.reduceMul, Nat.reduceLeDiff, Nat.reduceLT, Nat.reduceEqDiff, inE1_len, ho2]
  have hR2 : ([] : List (List PV)) = ltE [] := rfl
  rw [hR2]
  refine loop_intro (fun n fr L => ∃ (e : Nat) (w : List Ltr), e ≤ c ∧ n = c - e ∧ (w.length = e) ∧ (∀ m ∈ w, LtM 100 m) ∧ fr = [.adr (.b 0) 0, .any, .any, .any, .any, .any, .any, .row (.l 7), .any, .any, .any, .row (.l 11), .any, .any, .any, .any, .any, .any, .any, .any, .any, .any, .any, .any, .any, .any, .any, .any, .any, .any, .any, .any, .any, .any, .any, .any, .any, .any, .any, .any, .any, .any, .any, .any, .any, .any, .any, .any, .any, .any, .any, .any, .any, .any, .any, .any, .any, .any, .any, .row (.l 59), .p (int (c : Nat)), .p (int (e : Nat)), .any, .any, .any, .any, .any, .any, .any, .any, .any, .any, .any, .any] ∧ L = [(.b 0, .box ((stm l k3).map .p) T), (.l 7, .row (ltE u) tMail 9 true), (.l 11, .row (ltE w) tMail 9 true), (.l 59, .row (inE1 o2) tIntW 1 true)]) (c) [.adr (.b 0) 0, .any, .any, .any, .any, .any, .any, .row (.l 7), .any, .any, .any, .row (.l 11), .any, .any, .any, .any, .any, .any, .any, .any, .any, .any, .any, .any, .any, .any, .any, .any, .any, .any, .any, .any, .any, .any, .any, .any, .any, .any, .any, .any, .any, .any, .any, .any, .any, .any, .any, .any, .any, .any, .any, .any, .any, .any, .any, .any, .any, .any, .any, .row (.l 59), .p (int (c : Nat)), .p (int (0 : Nat)), .any, .any, .any, .any, .any, .any, .any, .any, .any, .any, .any, .any] [(.b 0, .box ((stm l k3).map .p) T), (.l 7, .row (ltE u) tMail 9 true), (.l 11, .row (ltE []) tMail 9 true), (.l 59, .row (inE1 o2) tIntW 1 true)] (by (simp only [ZZ, YY, Ze, ite_true, ite_false, forall_const, reduceCtorEq, Nat.reduceAdd, Nat.reduceMul, Nat.reduceLeDiff, Nat.reduceLT, Nat.reduceEqDiff]; try trivial)) (by (simp only [ZZ, YY, Ze, ite_true, ite_false, forall_const, reduceCtorEq, Nat.reduceAdd, Nat.reduceMul, Nat.reduceLeDiff, Nat.reduceLT, Nat.reduceEqDiff]; try trivial)) ⟨0, [], by omega, by omega, rfl, (fun s hs => by cases hs), rfl, rfl⟩ ?_
  rintro n fr L ⟨e, w, he, rfl, hwl, hwb, rfl, rfl⟩
  simp only [ir_chasemake_Stream_Letters_L2, ZZ, YY, Ze, ite_true, ite_false, forall_const, reduceCtorEq, Nat.reduceAdd, Nat.reduceMul, Nat.reduceLeDiff, Nat.reduceLT, Nat.reduceEqDiff]
  refine br ?_ ?_
  · intro h
    have hlt : e < c := by have := of_decide_eq_true h; omega
    obtain ⟨p, hp⟩ : ∃ p, o2[e]? = some p := ⟨_, List.getElem?_eq_getElem (by omega)⟩
    have hg := inE1_get hp
    obtain ⟨hp0, hp1⟩ := hor2 p (List.mem_of_getElem? hp)
    obtain ⟨q, rfl⟩ : ∃ q : Nat, p = (q : Nat) := ⟨p.toNat, by omega⟩
    obtain ⟨m, hm⟩ : ∃ m, u[q]? = some m := ⟨_, List.getElem?_eq_getElem (by omega)⟩
    have hg2 := ltE_get hm
    simp only [ltV] at hg2
    have hmb := hub m (List.mem_of_getElem? hm)
    simp only [ZZ, YY, Ze, ite_true, ite_false, forall_const, reduceCtorEq, Nat.reduceAdd, Nat.reduceMul, Nat.reduceLeDiff, Nat.reduceLT, Nat.reduceEqDiff, hg, hg2, inE1_len, ho2, ltE_len, hul, hwl]
    ((repeat' (with_reducible apply And.intro)) <;> try ((first | first | assumption | trivial | exact (fun hq => by rw [hq]; rfl) | exact i64_of (by omega) (by omega) | omega | (simp; done) | (simp; omega) | (intro hsc; have hs0 := hsc; (try have hsd := of_decide_eq_true hsc); (try simp only [Bool.not_eq_true', Bool.or_eq_false_iff, Bool.and_eq_true, Bool.or_eq_true, decide_eq_true_eq, decide_eq_false_iff_not] at hsc); (repeat' (with_reducible apply And.intro)) <;> (first | assumption | trivial | exact (fun hq => by rw [hq]; rfl) | exact i64_of (by omega) (by omega) | omega | (simp; done) | (simp; omega) | (intro hse; simp [hse, hs0]; done) | (intro hse; simp only [hse, hs0, Bool.true_and, Bool.and_true, Bool.not_false, Bool.not_true, Bool.and_self]; done))))))
    rw [ltE_snoc w m]
    refine end_round (c - (e + 1)) [.adr (.b 0) 0, .any, .any, .any, .any, .any, .any, .row (.l 7), .any, .any, .any, .row (.l 11), .any, .any, .any, .any, .any, .any, .any, .any, .any, .any, .any, .any, .any, .any, .any, .any, .any, .any, .any, .any, .any, .any, .any, .any, .any, .any, .any, .any, .any, .any, .any, .any, .any, .any, .any, .any, .any, .any, .any, .any, .any, .any, .any, .any, .any, .any, .any, .row (.l 59), .p (int (c : Nat)), .p (int ((e + 1) : Nat)), .any, .any, .any, .any, .any, .any, .any, .any, .any, .any, .any, .any] [(.b 0, .box ((stm l k3).map .p) T), (.l 7, .row (ltE u) tMail 9 true), (.l 11, .row (ltE (w ++ [m])) tMail 9 true), (.l 59, .row (inE1 o2) tIntW 1 true)] (by omega) (by (simp only [ZZ, YY, Ze, ite_true, ite_false, forall_const, reduceCtorEq, Nat.reduceAdd, Nat.reduceMul, Nat.reduceLeDiff, Nat.reduceLT, Nat.reduceEqDiff]; try trivial)) (by (simp only [ZZ, YY, Ze, ite_true, ite_false, forall_const, reduceCtorEq, Nat.reduceAdd, Nat.reduceMul, Nat.reduceLeDiff, Nat.reduceLT, Nat.reduceEqDiff]; try trivial)) ⟨e + 1, w ++ [m], by omega, rfl, by simp [hwl], by intro s hs; rcases List.mem_append.1 hs with hs | hs; exact hwb s hs; rw [List.mem_singleton] at hs; subst hs; exact hmb, rfl, rfl⟩
  intro h
  simp only [ZZ, YY, Ze, ite_true, ite_false, forall_const, reduceCtorEq, Nat.reduceAdd, Nat.reduceMul, Nat.reduceLeDiff, Nat.reduceLT, Nat.reduceEqDiff]
  exact fin_SF 11 _ (stm l k3) rfl rfl rfl ⟨w, k3, rfl, by omega, hwb, rfl, by omega⟩
theorem ltE_set (u : List Ltr) (q : Nat) (m : Ltr) : (ltE u).set q [.str m.id, int m.at_, .str m.fr.1, .str m.fr.2, .sl 2 (adrE m.tos), .sl 2 (adrE m.ccs), .sl 1 (strE m.refs), .str m.sub, .str m.body] = ltE (u.set q m) := by
  show (ltE u).set q (ltV m) = _
  simp [ltE]
theorem AnyLetters_ok (l : List Int) (k : Nat) (most : Nat) (hmost : most ≤ 20) (hk : k ≤ 700000) (hl : l.length ≤ 9223372036854775807) :
    SFresh Tryz.prog E6 35 T (stm l k) [int (most : Nat)] tMail 9 (fun es cs' => ∃ (u : List Ltr) (k' : Nat), es = ltE u ∧ u.length ≤ most ∧ (∀ m ∈ u, LtM 300 m) ∧ cs' = stm l k' ∧ k' ≤ k + 10010) := by
  unfold SFresh
  refine gcallR mixed Tryz.func35 ck_chasemake_Stream_AnyLetters ?_
  simp only [a0, l0, OS.ao, List.map_cons, List.map_nil, List.length_cons, List.length_nil, List.cons_append, List.nil_append, Nat.reduceSub, Nat.reduceAdd, List.replicate_succ, List.replicate_zero, ir_chasemake_Stream_AnyLetters, rs_chasemake_Stream_AnyLetters, ZZ, YY, Ze, ite_true, ite_false, forall_const, reduceCtorEq, Nat.reduceAdd, Nat.reduceMul, Nat.reduceLeDiff, Nat.reduceLT, Nat.reduceEqDiff]
  refine useSF (Letters_ok l k most hmost hk hl) rfl rfl rfl (by simp only [ZZ, YY, Ze, ite_true, ite_false, forall_const, reduceCtorEq, Nat.reduceAdd, Nat.reduceMul, Nat.reduceLeDiff, Nat.reduceLT, Nat.reduceEqDiff]) ?_
  rintro es cs' ⟨u, k1, rfl, hu, hub, rfl, hk1⟩
  simp only [ZZ, YY, Ze, ite_true, ite_false, forall_const, reduceCtorEq, Nat.reduceAdd, Nat.reduceMul, Nat.reduceLeDiff, Nat.reduceLT, Nat.reduceEqDiff]
  refine useS (Flip_ok l k1 10 (by omega) hl (by decide)) rfl rfl rfl (by simp only [ZZ, YY, Ze, ite_true, ite_false, forall_const, reduceCtorEq, Nat.reduceAdd, Nat.reduceMul, Nat.reduceLeDiff, Nat.reduceLT, Nat.reduceEqDiff]) ?_
  rintro x cs' ⟨b, rfl, rfl⟩
  simp only [ZZ, YY, Ze, ite_true, ite_false, forall_const, reduceCtorEq, Nat.reduceAdd, Nat.reduceMul, Nat.reduceLeDiff, Nat.reduceLT, Nat.reduceEqDiff, ltE_len]
  refine br ?_ ?_
  · intro h
    have hpos : 0 < u.length := by
      rw [Bool.and_eq_true] at h
      have := of_decide_eq_true h.2
      omega
    simp only [ZZ, YY, Ze, ite_true, ite_false, forall_const, reduceCtorEq, Nat.reduceAdd, Nat.reduceMul, Nat.reduceLeDiff, Nat.reduceLT, Nat.reduceEqDiff, ltE_len]
    refine useS (Next_ok l (k1 + 1) _ (by omega) hl (by omega)) rfl rfl rfl (by simp only [ZZ, YY, Ze, ite_true, ite_false, forall_const, reduceCtorEq, Nat.reduceAdd, Nat.reduceMul, Nat.reduceLeDiff, Nat.reduceLT, Nat.reduceEqDiff]) ?_
    rintro x cs' ⟨y, rfl, rfl⟩
    have b1 := below_lo y (u.length : Nat)
    have b2 := below_hi y (u.length : Nat) (by omega)
    obtain ⟨q, hq⟩ : ∃ q : Nat, below y (u.length : Nat) = (q : Nat) := ⟨(below y (u.length : Nat)).toNat, by omega⟩
    rw [hq] at b1 b2 ⊢
    clear hq
    obtain ⟨m, hm⟩ : ∃ m, u[q]? = some m := ⟨_, List.getElem?_eq_getElem (by omega)⟩
    have hg := ltE_get hm
    simp only [ltV] at hg
    have hmb := hub m (List.mem_of_getElem? hm)
    simp only [ZZ, YY, Ze, ite_true, ite_false, forall_const, reduceCtorEq, Nat.reduceAdd, Nat.reduceMul, Nat.reduceLeDiff, Nat.reduceLT, Nat.reduceEqDiff]
    refine useS (Flip_ok l (k1 + 1 + 1) 3 (by omega) hl (by decide)) rfl rfl rfl (by simp only [ZZ, YY, Ze, ite_true, ite_false, forall_const, reduceCtorEq, Nat.reduceAdd, Nat.reduceMul, Nat.reduceLeDiff, Nat.reduceLT, Nat.reduceEqDiff]) ?_
    rintro x cs' ⟨b2, rfl, rfl⟩
    simp only [ZZ, YY, Ze, ite_true, ite_false, forall_const, reduceCtorEq, Nat.reduceAdd, Nat.reduceMul, Nat.reduceLeDiff, Nat.reduceLT, Nat.reduceEqDiff]
    refine br ?_ ?_
    · intro _
      obtain ⟨m0, hm0⟩ : ∃ m, u[0]? = some m := ⟨_, List.getElem?_eq_getElem (by omega)⟩
      have hg0 : (ltE u).getD (Int.toNat 0) [] = _ := ltE_get hm0
      simp only [ltV] at hg0
      have hmb0 := hub m0 (List.mem_of_getElem? hm0)
      simp only [ZZ, YY, Ze, ite_true, ite_false, forall_const, reduceCtorEq, Nat.reduceAdd, Nat.reduceMul, Nat.reduceLeDiff, Nat.reduceLT, Nat.reduceEqDiff, hg, hg0, ltE_len]
      have hs := ltE_set u q { m with id := m0.id }
      simp only at hs
      rw [hs]
      refine ⟨⟨by omega, by omega⟩, (by simpa using hpos), ⟨by omega, by omega⟩, by omega, ?_⟩
      refine cut_same (by simp only [ZZ, YY, Ze, ite_true, ite_false, forall_const, reduceCtorEq, Nat.reduceAdd, Nat.reduceMul, Nat.reduceLeDiff, Nat.reduceLT, Nat.reduceEqDiff]) ?_
      simp only [ZZ, YY, Ze, ite_true, ite_false, forall_const, reduceCtorEq, Nat.reduceAdd, Nat.reduceMul, Nat.reduceLeDiff, Nat.reduceLT, Nat.reduceEqDiff]
      refine fin_SF 9 _ (stm l (k1 + 1 + 1 + 1)) rfl rfl rfl ⟨u.set q { m with id := m0.id }, _, rfl, by rw [List.length_set]; exact hu, fun s hs => ?_, rfl, by omega⟩
      rcases List.mem_or_eq_of_mem_set hs with hs | rfl
      · exact (hub s hs).le (by omega)
      · have hM := hmb.le (M := 300) (by omega)
        exact ⟨hmb0.b1, hM.b2, hM.b3, hM.b4, hM.b5, hM.b6, hM.b7, hM.b8, hM.b9, hM.b10, hM.b11⟩
    · intro _
      simp only [ZZ, YY, Ze, ite_true, ite_false, forall_const, reduceCtorEq, Nat.reduceAdd, Nat.reduceMul, Nat.reduceLeDiff, Nat.reduceLT, Nat.reduceEqDiff, hg, ltE_len]
      ((repeat' (with_reducible apply And.intro)) <;> try ((first | first | assumption | trivial | exact (fun hq => by rw [hq]; rfl) | exact i64_of (by omega) (by omega) | omega | (simp; done) | (simp; omega) | (intro hsc; have hs0 := hsc; (try have hsd := of_decide_eq_true hsc); (try simp only [Bool.not_eq_true', Bool.or_eq_false_iff, Bool.and_eq_true, Bool.or_eq_true, decide_eq_true_eq, decide_eq_false_iff_not] at hsc); (repeat' (with_reducible apply And.intro)) <;> (first | assumption | trivial | exact (fun hq => by rw [hq]; rfl) | exact i64_of (by omega) (by omega) | omega | (simp; done) | (simp; omega) | (intro hse; simp [hse, hs0]; done) | (intro hse; simp only [hse, hs0, Bool.true_and, Bool.and_true, Bool.not_false, Bool.not_true, Bool.and_self]; done))))))
      refine useS (Spoiled_ok l (k1 + 1 + 1 + 1) m hmb (by omega) hl) rfl rfl rfl (by simp only [ZZ, YY, Ze, ite_true, ite_false, forall_const, reduceCtorEq, Nat.reduceAdd, Nat.reduceMul, Nat.reduceLeDiff, Nat.reduceLT, Nat.reduceEqDiff]) ?_
      rintro x cs' ⟨m', k3, rfl, hm', rfl, hk3⟩
      have hs := ltE_set u q m'
      simp only [ZZ, YY, Ze, ite_true, ite_false, forall_const, reduceCtorEq, Nat.reduceAdd, Nat.reduceMul, Nat.reduceLeDiff, Nat.reduceLT, Nat.reduceEqDiff, hg, ltE_len, ltV]
      ((repeat' (with_reducible apply And.intro)) <;> try ((first | first | assumption | trivial | exact (fun hq => by rw [hq]; rfl) | exact i64_of (by omega) (by omega) | omega | (simp; done) | (simp; omega) | (intro hsc; have hs0 := hsc; (try have hsd := of_decide_eq_true hsc); (try simp only [Bool.not_eq_true', Bool.or_eq_false_iff, Bool.and_eq_true, Bool.or_eq_true, decide_eq_true_eq, decide_eq_false_iff_not] at hsc); (repeat' (with_reducible apply And.intro)) <;> (first | assumption | trivial | exact (fun hq => by rw [hq]; rfl) | exact i64_of (by omega) (by omega) | omega | (simp; done) | (simp; omega) | (intro hse; simp [hse, hs0]; done) | (intro hse; simp only [hse, hs0, Bool.true_and, Bool.and_true, Bool.not_false, Bool.not_true, Bool.and_self]; done))))))
      rw [hs]
      refine cut_same (by simp only [ZZ, YY, Ze, ite_true, ite_false, forall_const, reduceCtorEq, Nat.reduceAdd, Nat.reduceMul, Nat.reduceLeDiff, Nat.reduceLT, Nat.reduceEqDiff]) ?_
      simp only [ZZ, YY, Ze, ite_true, ite_false, forall_const, reduceCtorEq, Nat.reduceAdd, Nat.reduceMul, Nat.reduceLeDiff, Nat.reduceLT, Nat.reduceEqDiff]
      refine fin_SF 9 _ (stm l k3) rfl rfl rfl ⟨u.set q m', _, rfl, by rw [List.length_set]; exact hu, fun s hs => ?_, rfl, by omega⟩
      rcases List.mem_or_eq_of_mem_set hs with hs | rfl
      · exact (hub s hs).le (by omega)
      · exact hm'
  · intro _
    simp only [ZZ, YY, Ze, ite_true, ite_false, forall_const, reduceCtorEq, Nat.reduceAdd, Nat.reduceMul, Nat.reduceLeDiff, Nat.reduceLT, Nat.reduceEqDiff]
    refine cut_same (by simp only [ZZ, YY, Ze, ite_true, ite_false, forall_const, reduceCtorEq, Nat.reduceAdd, Nat.reduceMul, Nat.reduceLeDiff, Nat.reduceLT, Nat.reduceEqDiff]) ?_
    simp only [ZZ, YY, Ze, ite_true, ite_false, forall_const, reduceCtorEq, Nat.reduceAdd, Nat.reduceMul, Nat.reduceLeDiff, Nat.reduceLT, Nat.reduceEqDiff]
    exact fin_SF 9 _ (stm l (k1 + 1)) rfl rfl rfl ⟨u, _, rfl, hu, fun m hm => (hub m hm).le (by omega), rfl, by omega⟩
end Go.Proofs.YtidmphcocnaonaaGreatDoor
