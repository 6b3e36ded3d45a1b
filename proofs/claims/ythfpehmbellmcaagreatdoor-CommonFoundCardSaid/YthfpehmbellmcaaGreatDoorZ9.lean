
/- Own texts, put together: R5 N4 P1 G2 G3 G4 G5 G6 C4 C5 C7 C8 E1 G7 K3 I8 R1. -/
import Derived.Test.YthfpehmbellmcaaGreatDoorZ8
import Derived.Test.YthfpehmbellmcaaGreatDoorZ5
import Derived.Test.YthfpehmbellmcaaGreatDoorZ6
import Derived.Test.YthfpehmbellmcaaGreatDoorZ3
import Derived.Test.YthfpehmbellmcaaGreatDoorZ4
import Derived.Test.YthfpehmbellmcaaGreatDoorLaySort
import Derived.Test.YthfpehmbellmcaaGreatDoorLayCompact
import Derived.Lib.OwnBridge
import Derived.WalkKit
import Derived.Test.YthfpehmbellmcaaGreatDoorZ7
import Derived.Lib.ValidLaws
import Derived.Test.YthfpehmbellmcaaGreatDoorLayDelStr
/- The makers of documents and of forms: only bounds are told. -/
namespace Go.Proofs.YthfpehmbellmcaaGreatDoor
open Go.RowKit
set_option linter.unusedVariables false
set_option linter.unusedSimpArgs false
set_option linter.defProp false

/- (*paperchase/chasemake.Stream).Bodies -/
def ir_chasemake_Stream_Bodies_L1 : IC :=
  (.seq (.reg [⟨some 62, .bin .lss (.t 61) (.c (.int .i64 26)), none⟩])
    (.seq (.cond (.t 62) .skip (.exit 3))
    (.seq (.block 4 (.seq (.reg [⟨some 63, .mov (.t 61), none⟩,
      ⟨some 10, .mov (.t 63), none⟩])
    (.reg [⟨some 64, .mov (.t 5), none⟩,
      ⟨some 65, .mov (.t 10), none⟩,
      ⟨some 66, .bin .add (.c (.int .i64 97)) (.t 65), none⟩,
      ⟨some 67, .cvi .i32 (.t 66), none⟩,
      ⟨some 68, .cvs (.t 67), none⟩,
      ⟨some 69, .bin .add (.c (.str [122])) (.t 68), none⟩,
      ⟨some 70, .call 33 [.c (.str [119]), .c (.int .i64 20000)], none⟩,
      ⟨some 71, .bld [.str [], .str []] [(0, 1, .t 69), (1, 1, .t 70)], none⟩,
      ⟨some 72, .bsl 2 [.t 71], none⟩,
      ⟨some 73, .app 86 2 32 (.t 64) (.t 72), none⟩,
      ⟨some 5, .mov (.t 73), none⟩])))
    (.reg [⟨some 74, .bin .add (.t 61) (.c (.int .i64 1)), none⟩,
      ⟨some 61, .mov (.t 74), none⟩]))))
def ir_chasemake_Stream_Bodies_L0 : IC :=
  (.seq (.reg [⟨some 18, .bin .lss (.t 17) (.t 16), none⟩])
    (.seq (.cond (.t 18) .skip (.exit 0))
    (.seq (.block 1 (.seq (.reg [⟨some 19, .mov (.t 17), none⟩,
      ⟨some 7, .mov (.t 19), none⟩])
    (.seq (.reg [⟨some 20, .mov (.t 7), none⟩,
      ⟨some 21, .bin .add (.c (.int .i64 97)) (.t 20), none⟩,
      ⟨some 22, .cvi .i32 (.t 21), none⟩,
      ⟨some 23, .cvs (.t 22), none⟩,
      ⟨some 24, .bin .add (.c (.str [98])) (.t 23), none⟩,
      ⟨some 25, .mov (.t 6), none⟩,
      ⟨none, .fz (.t 25), none⟩,
      ⟨some 26, .bld [.str [], .str []] [(0, 1, .t 24), (1, 1, .t 25)], none⟩,
      ⟨some 8, .alc 86 [.str [], .str []], none⟩,
      ⟨none, .st 2 (.t 8) (.t 26), none⟩])
    (.seq (.seq (.reg [⟨some 27, .mov (.t 0), none⟩,
      ⟨some 28, .call 28 [.t 27, .c (.int .i64 3)], none⟩,
      ⟨some 29, .not (.t 28), none⟩])
    (.cond (.t 29) (.reg [⟨some 30, .mov (.t 0), none⟩,
      ⟨some 31, .mov (.t 0), none⟩,
      ⟨some 32, .mov (.t 6), none⟩,
      ⟨some 33, .call 47 [.t 31, .t 32, .c (.str [97, 98, 99, 32, 120, 10])], none⟩,
      ⟨some 34, .call 47 [.t 30, .t 33, .c (.str [100, 101, 32])], none⟩,
      ⟨some 35, .fla 1 (.t 8), none⟩,
      ⟨none, .st 1 (.t 35) (.t 34), none⟩]) .skip))
    (.cut (.seq (.seq (.reg [⟨some 36, .mov (.t 0), none⟩,
      ⟨some 37, .call 28 [.t 36, .c (.int .i64 4)], none⟩])
    (.cond (.t 37) (.reg [⟨some 38, .mov (.t 0), none⟩,
      ⟨some 39, .call 15 [.t 38, .c (.int .i64 12)], none⟩,
      ⟨some 40, .fla 1 (.t 8), none⟩,
      ⟨none, .st 1 (.t 40) (.t 39), none⟩]) .skip))
    (.cut (.reg [⟨some 41, .mov (.t 5), none⟩,
      ⟨some 42, .ld 2 true (.t 8), none⟩,
      ⟨some 43, .bsl 2 [.t 42], none⟩,
      ⟨some 44, .app 86 2 32 (.t 41) (.t 43), none⟩,
      ⟨some 5, .mov (.t 44), none⟩]))))))))
    (.reg [⟨some 45, .bin .add (.t 17) (.c (.int .i64 1)), none⟩,
      ⟨some 17, .mov (.t 45), none⟩]))))
def ir_chasemake_Stream_Bodies : IC :=
  (.seq (.reg [⟨some 4, .mov (.c (.nl 2)), none⟩])
    (.seq (.reg [⟨some 5, .nilr 86 2, none⟩])
    (.seq (.reg [⟨some 11, .mov (.t 0), none⟩,
      ⟨some 12, .call 15 [.t 11, .c (.int .i64 12)], none⟩,
      ⟨some 6, .mov (.t 12), none⟩])
    (.seq (.seq (.reg [⟨some 13, .mov (.t 0), none⟩,
      ⟨some 14, .mov (.t 1), none⟩,
      ⟨some 15, .bin .add (.t 14) (.c (.int .i64 1)), none⟩,
      ⟨some 16, .call 45 [.t 13, .t 15], none⟩,
      ⟨some 17, .mov (.c (.int .i64 0)), none⟩])
    (.block 0 (.loop ir_chasemake_Stream_Bodies_L0)))
    (.seq (.seq (.reg [⟨some 46, .mov (.t 0), none⟩,
      ⟨some 47, .call 28 [.t 46, .c (.int .i64 12)], none⟩,
      ⟨some 48, .mov (.t 47), none⟩,
      ⟨some 49, .mov (.t 5), (some (48, true))⟩,
      ⟨some 50, .len (.t 49), (some (48, true))⟩,
      ⟨some 51, .bin .gtr (.t 50) (.c (.int .i64 0)), (some (48, true))⟩,
      ⟨some 52, .pick (.t 48) (.t 51) (.c (.bool false)), none⟩])
    (.cond (.t 52) (.seq (.reg [⟨some 53, .mov (.t 5), none⟩,
      ⟨some 54, .mov (.t 0), none⟩,
      ⟨some 55, .mov (.t 5), none⟩,
      ⟨some 56, .len (.t 55), none⟩,
      ⟨some 57, .call 45 [.t 54, .t 56], none⟩,
      ⟨some 58, .ixa 2 (.t 53) (.t 57), none⟩,
      ⟨some 9, .mov (.t 58), none⟩])
    (.seq (.reg [⟨some 59, .mov (.t 0), none⟩,
      ⟨some 60, .call 45 [.t 59, .c (.int .i64 3)], none⟩])
    (.block 2 (.seq (.reg [⟨some 76, .bin .eql (.t 60) (.c (.int .i64 0)), none⟩,
      ⟨some 75, .mov (.t 76), none⟩])
    (.cond (.t 75) (.reg [⟨some 77, .mov (.t 9), none⟩,
      ⟨some 78, .mov (.t 0), none⟩,
      ⟨some 79, .bsl 1 [.c (.str []), .c (.str [98, 97]), .c (.str [66])], none⟩,
      ⟨some 80, .call 32 [.t 78, .t 79], none⟩,
      ⟨some 81, .nck (.t 77), none⟩,
      ⟨some 82, .fla 0 (.t 81), none⟩,
      ⟨none, .st 1 (.t 82) (.t 80), none⟩]) (.seq (.reg [⟨some 84, .bin .eql (.t 60) (.c (.int .i64 1)), none⟩,
      ⟨some 83, .mov (.t 84), none⟩])
    (.cond (.t 83) (.reg [⟨some 85, .mov (.t 9), none⟩,
      ⟨some 86, .mov (.t 0), none⟩,
      ⟨some 87, .bsl 1 [.c (.int .i64 20000), .c (.int .i64 20001)], none⟩,
      ⟨some 88, .call 24 [.t 86, .t 87], none⟩,
      ⟨some 89, .call 33 [.c (.str [116]), .t 88], none⟩,
      ⟨some 90, .nck (.t 85), none⟩,
      ⟨some 91, .fla 1 (.t 90), none⟩,
      ⟨none, .st 1 (.t 91) (.t 89), none⟩]) (.seq (.reg [⟨some 61, .mov (.c (.int .i64 0)), none⟩])
    (.block 3 (.loop ir_chasemake_Stream_Bodies_L1)))))))))) .skip))
    (.cut (.seq (.reg [⟨some 92, .mov (.t 5), none⟩,
      ⟨some 4, .mov (.t 92), none⟩])
    .ret)))))))
def rs_chasemake_Stream_Bodies : List IRes := [.t 4]
theorem ck_chasemake_Stream_Bodies : chkF Tryz.prog Tryz.f23 ir_chasemake_Stream_Bodies rs_chasemake_Stream_Bodies 93 = true := by kernel_rfl
/- (*paperchase/chasemake.Stream).Forms -/
def ir_chasemake_Stream_Forms_L0 : IC :=
  (.seq (.reg [⟨some 9, .bin .lss (.t 8) (.t 7), none⟩])
    (.seq (.cond (.t 9) .skip (.exit 0))
    (.seq (.block 1 (.seq (.reg [⟨some 10, .ixa 1 (.t 6) (.t 8), none⟩,
      ⟨some 11, .ld 1 false (.t 10), none⟩,
      ⟨some 5, .mov (.t 11), none⟩])
    (.seq (.reg [⟨some 12, .mov (.t 0), none⟩,
      ⟨some 13, .call 28 [.t 12, .c (.int .i64 2)], none⟩])
    (.cond (.t 13) (.reg [⟨some 14, .mov (.t 3), none⟩,
      ⟨some 15, .mov (.t 5), none⟩,
      ⟨some 16, .bsl 1 [.t 15], none⟩,
      ⟨some 17, .app 9 1 16 (.t 14) (.t 16), none⟩,
      ⟨some 3, .mov (.t 17), none⟩]) .skip))))
    (.cut (.reg [⟨some 18, .bin .add (.t 8) (.c (.int .i64 1)), none⟩,
      ⟨some 8, .mov (.t 18), none⟩])))))
def ir_chasemake_Stream_Forms : IC :=
  (.seq (.reg [⟨some 2, .mov (.c (.nl 1)), none⟩])
    (.seq (.reg [⟨some 3, .nilr 9 1, none⟩])
    (.seq (.seq (.reg [⟨some 6, .bsl 1 [.c (.str [97, 32, 98]), .c (.str [97, 32, 98, 32, 99]), .c (.str [98]), .c (.str [105, 116, 32, 115, 32, 97]), .c (.str [120])], none⟩,
      ⟨some 7, .len (.t 6), none⟩,
      ⟨some 8, .mov (.c (.int .i64 0)), none⟩])
    (.block 0 (.loop ir_chasemake_Stream_Forms_L0)))
    (.seq (.seq (.reg [⟨some 19, .mov (.t 0), none⟩,
      ⟨some 20, .call 28 [.t 19, .c (.int .i64 12)], none⟩])
    (.cond (.t 20) (.reg [⟨some 21, .mov (.t 3), none⟩,
      ⟨some 22, .mov (.t 0), none⟩,
      ⟨some 23, .bsl 1 [.c (.str []), .c (.str [65]), .c (.str [120]), .c (.str [122, 32, 32, 122]), .c (.str [122, 45, 122])], none⟩,
      ⟨some 24, .call 32 [.t 22, .t 23], none⟩,
      ⟨none, .fz (.t 24), none⟩,
      ⟨some 25, .bsl 1 [.t 24], none⟩,
      ⟨some 26, .app 9 1 16 (.t 21) (.t 25), none⟩,
      ⟨some 3, .mov (.t 26), none⟩]) .skip))
    (.cut (.seq (.reg [⟨some 27, .mov (.t 3), none⟩,
      ⟨some 2, .mov (.t 27), none⟩])
    .ret))))))
def rs_chasemake_Stream_Forms : List IRes := [.t 2]
theorem ck_chasemake_Stream_Forms : chkF Tryz.prog Tryz.f27 ir_chasemake_Stream_Forms rs_chasemake_Stream_Forms 28 = true := by kernel_rfl

theorem encR_le (c : Int) : (Utf8.encode c).data.toList.length ≤ 4 := by
  rw [Array.length_toList]
  exact encode_size_le c
theorem boE_app (bl : List Bod) (a b : List UInt8) : boE bl ++ [[.str a, .str b]] = boE (bl ++ [(a, b)]) := by simp [boE]
theorem boE_set (bl : List Bod) (i : Nat) (b : Bod) : (boE bl).set i [.str b.1, .str b.2] = boE (bl.set i b) := by rw [boE, boE, List.map_set]
/-- Bounds of what the maker makes. -/
def BodT (bl : List Bod) : Prop := ∀ b ∈ bl, b.1.length ≤ 100 ∧ b.2.length ≤ 100000
theorem BodT.app {bl : List Bod} (h : BodT bl) {a b : List UInt8} (ha : a.length ≤ 100) (hb : b.length ≤ 100000) : BodT (bl ++ [(a, b)]) := by
  intro c hc
  rcases List.mem_append.1 hc with hc | hc
  · exact h c hc
  · rw [List.mem_singleton] at hc; subst hc; exact ⟨ha, hb⟩
theorem BodT.set {bl : List Bod} (h : BodT bl) (i : Nat) {a b : List UInt8} (ha : a.length ≤ 100) (hb : b.length ≤ 100000) : BodT (bl.set i (a, b)) := by
  intro c hc
  rcases List.mem_or_eq_of_mem_set hc with hc | rfl
  · exact h c hc
  · exact ⟨ha, hb⟩
theorem BodT.nil : BodT [] := fun b hb => by cases hb
abbrev tBody : Nat := 86
set_option maxHeartbeats 8000000 in
set_option maxRecDepth 100000 in
theorem Bodies_ok (l : List Int) (k : Nat) (n : Nat) (hk : k ≤ 800000) (hl : l.length ≤ 9223372036854775807) (hn : n ≤ 12) :
    SCall Tryz.prog E0 23 T (stm l k) [int (n : Nat)] (fun x cs' => ∃ bl k', x = .sl 2 (boE bl) ∧ bl.length ≤ 40 ∧ BodT bl ∧ cs' = stm l k' ∧ k' ≤ k + 50000) := by
  unfold SCall
  refine gcallP mixed Tryz.func23 ck_chasemake_Stream_Bodies ?_
  simp only [a0, l0, OS.ao, List.map_cons, List.map_nil, List.length_cons, List.length_nil, List.cons_append, List.nil_append, Nat.reduceSub, Nat.reduceAdd, List.replicate_succ, List.replicate_zero, ir_chasemake_Stream_Bodies, rs_chasemake_Stream_Bodies, ZZ, YY, Ze, ite_true, ite_false, forall_const, reduceCtorEq, Nat.reduceAdd, Nat.reduceMul, Nat.reduceLeDiff, Nat.reduceLT, Nat.reduceEqDiff]
  refine useS (Prose_ok l k 12 (by omega) hl (by omega) (by omega)) rfl rfl rfl (by simp only [ZZ, YY, Ze, ite_true, ite_false, forall_const, reduceCtorEq, Nat.reduceAdd, Nat.reduceMul, Nat.reduceLeDiff, Nat.reduceLT, Nat.reduceEqDiff]) ?_
  rintro x cs' ⟨base, k1, rfl, hb, rfl, hk1⟩
  simp only [ZZ, YY, Ze, ite_true, ite_false, forall_const, reduceCtorEq, Nat.reduceAdd, Nat.reduceMul, Nat.reduceLeDiff, Nat.reduceLT, Nat.reduceEqDiff]
  ((repeat' (with_reducible apply And.intro)) <;> try ((first | first | assumption | trivial | exact (fun hq => by rw [hq]; rfl) | exact i64_of (by omega) (by omega) | omega | (simp; done) | (simp; omega) | (intro hsc; have hs0 := hsc; (try have hsd := of_decide_eq_true hsc); (try simp only [Bool.not_eq_true', Bool.or_eq_false_iff, Bool.and_eq_true, Bool.or_eq_true, decide_eq_true_eq, decide_eq_false_iff_not] at hsc); (repeat' (with_reducible apply And.intro)) <;> (first | assumption | trivial | exact (fun hq => by rw [hq]; rfl) | exact i64_of (by omega) (by omega) | omega | (simp; done) | (simp; omega) | (intro hse; simp [hse, hs0]; done) | (intro hse; simp only [hse, hs0, Bool.true_and, Bool.and_true, Bool.not_false, Bool.not_true, Bool.and_self]; done))))))
  refine useS (Next_ok l k1 _ (by omega) hl (by omega)) rfl rfl rfl (by simp only [ZZ, YY, Ze, ite_true, ite_false, forall_const, reduceCtorEq, Nat.reduceAdd, Nat.reduceMul, Nat.reduceLeDiff, Nat.reduceLT, Nat.reduceEqDiff]) ?_
  rintro x cs' ⟨y, rfl, rfl⟩
  have b1 := below_lo y ((n : Nat) + 1)
  have b2 := below_hi y ((n : Nat) + 1) (by omega)
  obtain ⟨m, hm⟩ : ∃ m : Nat, below y ((n : Nat) + 1) = (m : Nat) := ⟨(below y ((n : Nat) + 1)).toNat, by omega⟩
  rw [hm] at b1 b2 ⊢
  clear hm
  simp only [ZZ, YY, Ze, ite_true, ite_false, forall_const, reduceCtorEq, Nat.reduceAdd, Nat.reduceMul, Nat.reduceLeDiff, Nat.reduceLT, Nat.reduceEqDiff]
  have hR0 : ([] : List (List PV)) = boE [] := rfl
  rw [hR0]
  refine loop_intro (fun n fr L => ∃ (i : Nat) (k' : Nat) (bl : List Bod), i ≤ m ∧ n = m - i ∧ (k' ≤ k1 + 1 + 3010 * i) ∧ (bl.length = i) ∧ (BodT bl) ∧ fr = [.adr (.b 0) 0, .any, .any, .any, .any, .row (.l 5), .p (.str base), .any, .any, .any, .any, .any, .any, .any, .any, .any, .p (int (m : Nat)), .p (int (i : Nat)), .any, .any, .any, .any, .any, .any, .any, .any, .any, .any, .any, .any, .any, .any, .any, .any, .any, .any, .any, .any, .any, .any, .any, .any, .any, .any, .any, .any, .any, .any, .any, .any, .any, .any, .any, .any, .any, .any, .any, .any, .any, .any, .any, .any, .any, .any, .any, .any, .any, .any, .any, .any, .any, .any, .any, .any, .any, .any, .any, .any, .any, .any, .any, .any, .any, .any, .any, .any, .any, .any, .any, .any, .any, .any, .any] ∧ L = [(.b 0, .box ((stm l k').map .p) T), (.l 5, .row (boE bl) tBody 2 true)]) (m) [.adr (.b 0) 0, .any, .any, .any, .any, .row (.l 5), .p (.str base), .any, .any, .any, .any, .any, .any, .any, .any, .any, .p (int (m : Nat)), .p (int (0 : Nat)), .any, .any, .any, .any, .any, .any, .any, .any, .any, .any, .any, .any, .any, .any, .any, .any, .any, .any, .any, .any, .any, .any, .any, .any, .any, .any, .any, .any, .any, .any, .any, .any, .any, .any, .any, .any, .any, .any, .any, .any, .any, .any, .any, .any, .any, .any, .any, .any, .any, .any, .any, .any, .any, .any, .any, .any, .any, .any, .any, .any, .any, .any, .any, .any, .any, .any, .any, .any, .any, .any, .any, .any, .any, .any, .any] [(.b 0, .box ((stm l (k1 + 1)).map .p) T), (.l 5, .row (boE []) tBody 2 true)] (by (simp only [ZZ, YY, Ze, ite_true, ite_false, forall_const, reduceCtorEq, Nat.reduceAdd, Nat.reduceMul, Nat.reduceLeDiff, Nat.reduceLT, Nat.reduceEqDiff]; try trivial)) (by (simp only [ZZ, YY, Ze, ite_true, ite_false, forall_const, reduceCtorEq, Nat.reduceAdd, Nat.reduceMul, Nat.reduceLeDiff, Nat.reduceLT, Nat.reduceEqDiff]; try trivial)) ⟨0, k1 + 1, [], by omega, by omega, by omega, rfl, BodT.nil, rfl, rfl⟩ ?_
  rintro n fr L ⟨i, k', bl, hi, rfl, hk', hbl, hbt, rfl, rfl⟩
  simp only [ir_chasemake_Stream_Bodies_L0, ZZ, YY, Ze, ite_true, ite_false, forall_const, reduceCtorEq, Nat.reduceAdd, Nat.reduceMul, Nat.reduceLeDiff, Nat.reduceLT, Nat.reduceEqDiff]
  refine br ?_ ?_
  · intro h
    have hlt : i < m := by have := of_decide_eq_true h; omega
    have hE4 := encR_le (IntKind.i32.wrap (97 + ((i : Nat) : Int)))
    obtain ⟨id, hid, hidl⟩ : ∃ id, id = 98 :: (Utf8.encode (IntKind.i32.wrap (97 + ((i : Nat) : Int)))).data.toList ∧ id.length ≤ 100 := ⟨_, rfl, by simp only [List.length_cons]; omega⟩
    simp only [ZZ, YY, Ze, ite_true, ite_false, forall_const, reduceCtorEq, Nat.reduceAdd, Nat.reduceMul, Nat.reduceLeDiff, Nat.reduceLT, Nat.reduceEqDiff]
    ((repeat' (with_reducible apply And.intro)) <;> try ((first | first | assumption | trivial | exact (fun hq => by rw [hq]; rfl) | exact i64_of (by omega) (by omega) | omega | (simp; done) | (simp; omega) | (intro hsc; have hs0 := hsc; (try have hsd := of_decide_eq_true hsc); (try simp only [Bool.not_eq_true', Bool.or_eq_false_iff, Bool.and_eq_true, Bool.or_eq_true, decide_eq_true_eq, decide_eq_false_iff_not] at hsc); (repeat' (with_reducible apply And.intro)) <;> (first | assumption | trivial | exact (fun hq => by rw [hq]; rfl) | exact i64_of (by omega) (by omega) | omega | (simp; done) | (simp; omega) | (intro hse; simp [hse, hs0]; done) | (intro hse; simp only [hse, hs0, Bool.true_and, Bool.and_true, Bool.not_false, Bool.not_true, Bool.and_self]; done))))))
    rw [← hid]
    clear hid hE4
    refine useS (Flip_ok l k' 3 (by omega) hl (by omega)) rfl rfl rfl (by simp only [ZZ, YY, Ze, ite_true, ite_false, forall_const, reduceCtorEq, Nat.reduceAdd, Nat.reduceMul, Nat.reduceLeDiff, Nat.reduceLT, Nat.reduceEqDiff]) ?_
    rintro x cs' ⟨f, rfl, rfl⟩
    simp only [ZZ, YY, Ze, ite_true, ite_false, forall_const, reduceCtorEq, Nat.reduceAdd, Nat.reduceMul, Nat.reduceLeDiff, Nat.reduceLT, Nat.reduceEqDiff]
    refine br_join (fun fr L => ∃ (t : List UInt8) (k2 : Nat), t.length ≤ 100000 ∧ k2 ≤ k' + 7 ∧ fr = [.adr (.b 0) 0, .any, .any, .any, .any, .row (.l 5), .p (.str base), .any, .adr (.l 8) 0, .any, .any, .any, .any, .any, .any, .any, .p (int (m : Nat)), .p (int (i : Nat)), .any, .any, .any, .any, .any, .any, .any, .any, .any, .any, .any, .any, .any, .any, .any, .any, .any, .any, .any, .any, .any, .any, .any, .any, .any, .any, .any, .any, .any, .any, .any, .any, .any, .any, .any, .any, .any, .any, .any, .any, .any, .any, .any, .any, .any, .any, .any, .any, .any, .any, .any, .any, .any, .any, .any, .any, .any, .any, .any, .any, .any, .any, .any, .any, .any, .any, .any, .any, .any, .any, .any, .any, .any, .any, .any] ∧ L = [(.b 0, .box ((stm l (k2)).map .p) T), (.l 5, .row (boE bl) tBody 2 true), (.l 8, .box [.p (.str id), .p (.str (t))] tBody)]) ?_ ?_ ?_
    · intro _
      simp only [ZZ, YY, Ze, ite_true, ite_false, forall_const, reduceCtorEq, Nat.reduceAdd, Nat.reduceMul, Nat.reduceLeDiff, Nat.reduceLT, Nat.reduceEqDiff]
      refine useS (Changed_ok l (k' + 1) base [97, 98, 99, 32, 120, 10] (by omega) hl (by omega) (by simp)) rfl rfl rfl (by simp only [ZZ, YY, Ze, ite_true, ite_false, forall_const, reduceCtorEq, Nat.reduceAdd, Nat.reduceMul, Nat.reduceLeDiff, Nat.reduceLT, Nat.reduceEqDiff]) ?_
      rintro x cs' ⟨u, k2, rfl, hu, rfl, hk2⟩
      simp only [List.length_cons, List.length_nil] at hu
      simp only [ZZ, YY, Ze, ite_true, ite_false, forall_const, reduceCtorEq, Nat.reduceAdd, Nat.reduceMul, Nat.reduceLeDiff, Nat.reduceLT, Nat.reduceEqDiff]
      refine useS (Changed_ok l k2 u [100, 101, 32] (by omega) hl (by omega) (by simp)) rfl rfl rfl (by simp only [ZZ, YY, Ze, ite_true, ite_false, forall_const, reduceCtorEq, Nat.reduceAdd, Nat.reduceMul, Nat.reduceLeDiff, Nat.reduceLT, Nat.reduceEqDiff]) ?_
      rintro x cs' ⟨v, k3, rfl, hv, rfl, hk3⟩
      simp only [List.length_cons, List.length_nil] at hv
      simp only [ZZ, YY, Ze, ite_true, ite_false, forall_const, reduceCtorEq, Nat.reduceAdd, Nat.reduceMul, Nat.reduceLeDiff, Nat.reduceLT, Nat.reduceEqDiff]
      ((repeat' (with_reducible apply And.intro)) <;> try ((first | first | assumption | trivial | exact (fun hq => by rw [hq]; rfl) | exact i64_of (by omega) (by omega) | omega | (simp; done) | (simp; omega) | (intro hsc; have hs0 := hsc; (try have hsd := of_decide_eq_true hsc); (try simp only [Bool.not_eq_true', Bool.or_eq_false_iff, Bool.and_eq_true, Bool.or_eq_true, decide_eq_true_eq, decide_eq_false_iff_not] at hsc); (repeat' (with_reducible apply And.intro)) <;> (first | assumption | trivial | exact (fun hq => by rw [hq]; rfl) | exact i64_of (by omega) (by omega) | omega | (simp; done) | (simp; omega) | (intro hse; simp [hse, hs0]; done) | (intro hse; simp only [hse, hs0, Bool.true_and, Bool.and_true, Bool.not_false, Bool.not_true, Bool.and_self]; done))))))
      exact to_mid [.adr (.b 0) 0, .any, .any, .any, .any, .row (.l 5), .p (.str base), .any, .adr (.l 8) 0, .any, .any, .any, .any, .any, .any, .any, .p (int (m : Nat)), .p (int (i : Nat)), .any, .any, .any, .any, .any, .any, .any, .any, .any, .any, .any, .any, .any, .any, .any, .any, .any, .any, .any, .any, .any, .any, .any, .any, .any, .any, .any, .any, .any, .any, .any, .any, .any, .any, .any, .any, .any, .any, .any, .any, .any, .any, .any, .any, .any, .any, .any, .any, .any, .any, .any, .any, .any, .any, .any, .any, .any, .any, .any, .any, .any, .any, .any, .any, .any, .any, .any, .any, .any, .any, .any, .any, .any, .any, .any] [(.b 0, .box ((stm l (k3)).map .p) T), (.l 5, .row (boE bl) tBody 2 true), (.l 8, .box [.p (.str id), .p (.str (v))] tBody)] (by (simp only [ZZ, YY, Ze, ite_true, ite_false, forall_const, reduceCtorEq, Nat.reduceAdd, Nat.reduceMul, Nat.reduceLeDiff, Nat.reduceLT, Nat.reduceEqDiff]; try trivial)) (by simp only [ZZ, YY, Ze, ite_true, ite_false, forall_const, reduceCtorEq, Nat.reduceAdd, Nat.reduceMul, Nat.reduceLeDiff, Nat.reduceLT, Nat.reduceEqDiff]) ⟨_, _, by omega, by omega, rfl, rfl⟩
    · intro _
      simp only [ZZ, YY, Ze, ite_true, ite_false, forall_const, reduceCtorEq, Nat.reduceAdd, Nat.reduceMul, Nat.reduceLeDiff, Nat.reduceLT, Nat.reduceEqDiff]
      exact to_mid [.adr (.b 0) 0, .any, .any, .any, .any, .row (.l 5), .p (.str base), .any, .adr (.l 8) 0, .any, .any, .any, .any, .any, .any, .any, .p (int (m : Nat)), .p (int (i : Nat)), .any, .any, .any, .any, .any, .any, .any, .any, .any, .any, .any, .any, .any, .any, .any, .any, .any, .any, .any, .any, .any, .any, .any, .any, .any, .any, .any, .any, .any, .any, .any, .any, .any, .any, .any, .any, .any, .any, .any, .any, .any, .any, .any, .any, .any, .any, .any, .any, .any, .any, .any, .any, .any, .any, .any, .any, .any, .any, .any, .any, .any, .any, .any, .any, .any, .any, .any, .any, .any, .any, .any, .any, .any, .any, .any] [(.b 0, .box ((stm l (k' + 1)).map .p) T), (.l 5, .row (boE bl) tBody 2 true), (.l 8, .box [.p (.str id), .p (.str (base))] tBody)] (by (simp only [ZZ, YY, Ze, ite_true, ite_false, forall_const, reduceCtorEq, Nat.reduceAdd, Nat.reduceMul, Nat.reduceLeDiff, Nat.reduceLT, Nat.reduceEqDiff]; try trivial)) (by simp only [ZZ, YY, Ze, ite_true, ite_false, forall_const, reduceCtorEq, Nat.reduceAdd, Nat.reduceMul, Nat.reduceLeDiff, Nat.reduceLT, Nat.reduceEqDiff]) ⟨_, _, by omega, by omega, rfl, rfl⟩
    rintro fr L ⟨t, k2, ht, hk2, rfl, rfl⟩
    simp only [ZZ, YY, Ze, ite_true, ite_false, forall_const, reduceCtorEq, Nat.reduceAdd, Nat.reduceMul, Nat.reduceLeDiff, Nat.reduceLT, Nat.reduceEqDiff]
    refine useS (Flip_ok l k2 4 (by omega) hl (by omega)) rfl rfl rfl (by simp only [ZZ, YY, Ze, ite_true, ite_false, forall_const, reduceCtorEq, Nat.reduceAdd, Nat.reduceMul, Nat.reduceLeDiff, Nat.reduceLT, Nat.reduceEqDiff]) ?_
    rintro x cs' ⟨f2, rfl, rfl⟩
    simp only [ZZ, YY, Ze, ite_true, ite_false, forall_const, reduceCtorEq, Nat.reduceAdd, Nat.reduceMul, Nat.reduceLeDiff, Nat.reduceLT, Nat.reduceEqDiff]
    refine br_join (fun fr L => ∃ (t : List UInt8) (k2 : Nat), t.length ≤ 100000 ∧ k2 ≤ k' + 3009 ∧ fr = [.adr (.b 0) 0, .any, .any, .any, .any, .row (.l 5), .p (.str base), .any, .adr (.l 8) 0, .any, .any, .any, .any, .any, .any, .any, .p (int (m : Nat)), .p (int (i : Nat)), .any, .any, .any, .any, .any, .any, .any, .any, .any, .any, .any, .any, .any, .any, .any, .any, .any, .any, .any, .any, .any, .any, .any, .any, .any, .any, .any, .any, .any, .any, .any, .any, .any, .any, .any, .any, .any, .any, .any, .any, .any, .any, .any, .any, .any, .any, .any, .any, .any, .any, .any, .any, .any, .any, .any, .any, .any, .any, .any, .any, .any, .any, .any, .any, .any, .any, .any, .any, .any, .any, .any, .any, .any, .any, .any] ∧ L = [(.b 0, .box ((stm l (k2)).map .p) T), (.l 5, .row (boE bl) tBody 2 true), (.l 8, .box [.p (.str id), .p (.str (t))] tBody)]) ?_ ?_ ?_
    · intro _
      simp only [ZZ, YY, Ze, ite_true, ite_false, forall_const, reduceCtorEq, Nat.reduceAdd, Nat.reduceMul, Nat.reduceLeDiff, Nat.reduceLT, Nat.reduceEqDiff]
      refine useS (Prose_ok l (k2 + 1) 12 (by omega) hl (by omega) (by omega)) rfl rfl rfl (by simp only [ZZ, YY, Ze, ite_true, ite_false, forall_const, reduceCtorEq, Nat.reduceAdd, Nat.reduceMul, Nat.reduceLeDiff, Nat.reduceLT, Nat.reduceEqDiff]) ?_
      rintro x cs' ⟨u, k3, rfl, hu, rfl, hk3⟩
      simp only [ZZ, YY, Ze, ite_true, ite_false, forall_const, reduceCtorEq, Nat.reduceAdd, Nat.reduceMul, Nat.reduceLeDiff, Nat.reduceLT, Nat.reduceEqDiff]
      ((repeat' (with_reducible apply And.intro)) <;> try ((first | first | assumption | trivial | exact (fun hq => by rw [hq]; rfl) | exact i64_of (by omega) (by omega) | omega | (simp; done) | (simp; omega) | (intro hsc; have hs0 := hsc; (try have hsd := of_decide_eq_true hsc); (try simp only [Bool.not_eq_true', Bool.or_eq_false_iff, Bool.and_eq_true, Bool.or_eq_true, decide_eq_true_eq, decide_eq_false_iff_not] at hsc); (repeat' (with_reducible apply And.intro)) <;> (first | assumption | trivial | exact (fun hq => by rw [hq]; rfl) | exact i64_of (by omega) (by omega) | omega | (simp; done) | (simp; omega) | (intro hse; simp [hse, hs0]; done) | (intro hse; simp only [hse, hs0, Bool.true_and, Bool.and_true, Bool.not_false, Bool.not_true, Bool.and_self]; done))))))
      exact to_mid [.adr (.b 0) 0, .any, .any, .any, .any, .row (.l 5), .p (.str base), .any, .adr (.l 8) 0, .any, .any, .any, .any, .any, .any, .any, .p (int (m : Nat)), .p (int (i : Nat)), .any, .any, .any, .any, .any, .any, .any, .any, .any, .any, .any, .any, .any, .any, .any, .any, .any, .any, .any, .any, .any, .any, .any, .any, .any, .any, .any, .any, .any, .any, .any, .any, .any, .any, .any, .any, .any, .any, .any, .any, .any, .any, .any, .any, .any, .any, .any, .any, .any, .any, .any, .any, .any, .any, .any, .any, .any, .any, .any, .any, .any, .any, .any, .any, .any, .any, .any, .any, .any, .any, .any, .any, .any, .any, .any] [(.b 0, .box ((stm l (k3)).map .p) T), (.l 5, .row (boE bl) tBody 2 true), (.l 8, .box [.p (.str id), .p (.str (u))] tBody)] (by (simp only [ZZ, YY, Ze, ite_true, ite_false, forall_const, reduceCtorEq, Nat.reduceAdd, Nat.reduceMul, Nat.reduceLeDiff, Nat.reduceLT, Nat.reduceEqDiff]; try trivial)) (by simp only [ZZ, YY, Ze, ite_true, ite_false, forall_const, reduceCtorEq, Nat.reduceAdd, Nat.reduceMul, Nat.reduceLeDiff, Nat.reduceLT, Nat.reduceEqDiff]) ⟨_, _, by omega, by omega, rfl, rfl⟩
    · intro _
      simp only [ZZ, YY, Ze, ite_true, ite_false, forall_const, reduceCtorEq, Nat.reduceAdd, Nat.reduceMul, Nat.reduceLeDiff, Nat.reduceLT, Nat.reduceEqDiff]
      exact to_mid [.adr (.b 0) 0, .any, .any, .any, .any, .row (.l 5), .p (.str base), .any, .adr (.l 8) 0, .any, .any, .any, .any, .any, .any, .any, .p (int (m : Nat)), .p (int (i : Nat)), .any, .any, .any, .any, .any, .any, .any, .any, .any, .any, .any, .any, .any, .any, .any, .any, .any, .any, .any, .any, .any, .any, .any, .any, .any, .any, .any, .any, .any, .any, .any, .any, .any, .any, .any, .any, .any, .any, .any, .any, .any, .any, .any, .any, .any, .any, .any, .any, .any, .any, .any, .any, .any, .any, .any, .any, .any, .any, .any, .any, .any, .any, .any, .any, .any, .any, .any, .any, .any, .any, .any, .any, .any, .any, .any] [(.b 0, .box ((stm l (k2 + 1)).map .p) T), (.l 5, .row (boE bl) tBody 2 true), (.l 8, .box [.p (.str id), .p (.str (t))] tBody)] (by (simp only [ZZ, YY, Ze, ite_true, ite_false, forall_const, reduceCtorEq, Nat.reduceAdd, Nat.reduceMul, Nat.reduceLeDiff, Nat.reduceLT, Nat.reduceEqDiff]; try trivial)) (by simp only [ZZ, YY, Ze, ite_true, ite_false, forall_const, reduceCtorEq, Nat.reduceAdd, Nat.reduceMul, Nat.reduceLeDiff, Nat.reduceLT, Nat.reduceEqDiff]) ⟨_, _, by omega, by omega, rfl, rfl⟩
    rintro fr L ⟨t, k2, ht, hk2, rfl, rfl⟩
    have hbl2 : (bl ++ [(id, t)]).length = i + 1 := by rw [List.length_append, hbl]; rfl
    have hbt2 := hbt.app hidl ht
    simp only [ZZ, YY, Ze, ite_true, ite_false, forall_const, reduceCtorEq, Nat.reduceAdd, Nat.reduceMul, Nat.reduceLeDiff, Nat.reduceLT, Nat.reduceEqDiff, boE_len, boE_app]
    ((repeat' (with_reducible apply And.intro)) <;> try ((first | first | assumption | trivial | exact (fun hq => by rw [hq]; rfl) | exact i64_of (by omega) (by omega) | omega | (simp; done) | (simp; omega) | (intro hsc; have hs0 := hsc; (try have hsd := of_decide_eq_true hsc); (try simp only [Bool.not_eq_true', Bool.or_eq_false_iff, Bool.and_eq_true, Bool.or_eq_true, decide_eq_true_eq, decide_eq_false_iff_not] at hsc); (repeat' (with_reducible apply And.intro)) <;> (first | assumption | trivial | exact (fun hq => by rw [hq]; rfl) | exact i64_of (by omega) (by omega) | omega | (simp; done) | (simp; omega) | (intro hse; simp [hse, hs0]; done) | (intro hse; simp only [hse, hs0, Bool.true_and, Bool.and_true, Bool.not_false, Bool.not_true, Bool.and_self]; done))))))
    refine end_round (m - (i + 1)) [.adr (.b 0) 0, .any, .any, .any, .any, .row (.l 5), .p (.str base), .any, .any, .any, .any, .any, .any, .any, .any, .any, .p (int (m : Nat)), .p (int ((i + 1) : Nat)), .any, .any, .any, .any, .any, .any, .any, .any, .any, .any, .any, .any, .any, .any, .any, .any, .any, .any, .any, .any, .any, .any, .any, .any, .any, .any, .any, .any, .any, .any, .any, .any, .any, .any, .any, .any, .any, .any, .any, .any, .any, .any, .any, .any, .any, .any, .any, .any, .any, .any, .any, .any, .any, .any, .any, .any, .any, .any, .any, .any, .any, .any, .any, .any, .any, .any, .any, .any, .any, .any, .any, .any, .any, .any, .any] [(.b 0, .box ((stm l (k2)).map .p) T), (.l 5, .row (boE (bl ++ [(id, t)])) tBody 2 true)] (by omega) (by (simp only [ZZ, YY, Ze, ite_true, ite_false, forall_const, reduceCtorEq, Nat.reduceAdd, Nat.reduceMul, Nat.reduceLeDiff, Nat.reduceLT, Nat.reduceEqDiff]; try trivial)) (by (simp only [ZZ, YY, Ze, ite_true, ite_false, forall_const, reduceCtorEq, Nat.reduceAdd, Nat.reduceMul, Nat.reduceLeDiff, Nat.reduceLT, Nat.reduceEqDiff]; try trivial)) ⟨i + 1, k2, bl ++ [(id, t)], by omega, rfl, by omega, hbl2, hbt2, rfl, rfl⟩
  intro h
  clear h
  simp only [ZZ, YY, Ze, ite_true, ite_false, forall_const, reduceCtorEq, Nat.reduceAdd, Nat.reduceMul, Nat.reduceLeDiff, Nat.reduceLT, Nat.reduceEqDiff, boE_len]
  refine useS (Flip_ok l k' 12 (by omega) hl (by omega)) rfl rfl rfl (by simp only [ZZ, YY, Ze, ite_true, ite_false, forall_const, reduceCtorEq, Nat.reduceAdd, Nat.reduceMul, Nat.reduceLeDiff, Nat.reduceLT, Nat.reduceEqDiff]) ?_
  rintro x cs' ⟨f, rfl, rfl⟩
  simp only [ZZ, YY, Ze, ite_true, ite_false, forall_const, reduceCtorEq, Nat.reduceAdd, Nat.reduceMul, Nat.reduceLeDiff, Nat.reduceLT, Nat.reduceEqDiff, boE_len]
  ((repeat' (with_reducible apply And.intro)) <;> try ((first | first | assumption | trivial | exact (fun hq => by rw [hq]; rfl) | exact i64_of (by omega) (by omega) | omega | (simp; done) | (simp; omega) | (intro hsc; have hs0 := hsc; (try have hsd := of_decide_eq_true hsc); (try simp only [Bool.not_eq_true', Bool.or_eq_false_iff, Bool.and_eq_true, Bool.or_eq_true, decide_eq_true_eq, decide_eq_false_iff_not] at hsc); (repeat' (with_reducible apply And.intro)) <;> (first | assumption | trivial | exact (fun hq => by rw [hq]; rfl) | exact i64_of (by omega) (by omega) | omega | (simp; done) | (simp; omega) | (intro hse; simp [hse, hs0]; done) | (intro hse; simp only [hse, hs0, Bool.true_and, Bool.and_true, Bool.not_false, Bool.not_true, Bool.and_self]; done))))))
  refine br ?_ ?_
  · intro hf
    have hc0 : 0 < bl.length := by
      simp only [Bool.and_eq_true, decide_eq_true_eq] at hf
      omega
    simp only [ZZ, YY, Ze, ite_true, ite_false, forall_const, reduceCtorEq, Nat.reduceAdd, Nat.reduceMul, Nat.reduceLeDiff, Nat.reduceLT, Nat.reduceEqDiff, boE_len]
    ((repeat' (with_reducible apply And.intro)) <;> try ((first | first | assumption | trivial | exact (fun hq => by rw [hq]; rfl) | exact i64_of (by omega) (by omega) | omega | (simp; done) | (simp; omega) | (intro hsc; have hs0 := hsc; (try have hsd := of_decide_eq_true hsc); (try simp only [Bool.not_eq_true', Bool.or_eq_false_iff, Bool.and_eq_true, Bool.or_eq_true, decide_eq_true_eq, decide_eq_false_iff_not] at hsc); (repeat' (with_reducible apply And.intro)) <;> (first | assumption | trivial | exact (fun hq => by rw [hq]; rfl) | exact i64_of (by omega) (by omega) | omega | (simp; done) | (simp; omega) | (intro hse; simp [hse, hs0]; done) | (intro hse; simp only [hse, hs0, Bool.true_and, Bool.and_true, Bool.not_false, Bool.not_true, Bool.and_self]; done))))))
    refine useS (Next_ok l (k' + 1) bl.length (by omega) hl (by omega)) rfl rfl rfl (by simp only [ZZ, YY, Ze, ite_true, ite_false, forall_const, reduceCtorEq, Nat.reduceAdd, Nat.reduceMul, Nat.reduceLeDiff, Nat.reduceLT, Nat.reduceEqDiff]) ?_
    rintro x cs' ⟨y, rfl, rfl⟩
    obtain ⟨q, hq, hy⟩ := below_idx y bl.length hc0
    rw [hy]
    obtain ⟨b, hb⟩ : ∃ b, bl[q]? = some b := ⟨_, List.getElem?_eq_getElem hq⟩
    have hg := boE_get hb
    obtain ⟨c1, c2⟩ := hbt b (List.mem_of_getElem? hb)
    obtain ⟨bi, bt⟩ := b
    simp only at hg c1 c2
    simp only [ZZ, YY, Ze, ite_true, ite_false, forall_const, reduceCtorEq, Nat.reduceAdd, Nat.reduceMul, Nat.reduceLeDiff, Nat.reduceLT, Nat.reduceEqDiff, boE_len, hg]
    ((repeat' (with_reducible apply And.intro)) <;> try ((first | first | assumption | trivial | exact (fun hq => by rw [hq]; rfl) | exact i64_of (by omega) (by omega) | omega | (simp; done) | (simp; omega) | (intro hsc; have hs0 := hsc; (try have hsd := of_decide_eq_true hsc); (try simp only [Bool.not_eq_true', Bool.or_eq_false_iff, Bool.and_eq_true, Bool.or_eq_true, decide_eq_true_eq, decide_eq_false_iff_not] at hsc); (repeat' (with_reducible apply And.intro)) <;> (first | assumption | trivial | exact (fun hq => by rw [hq]; rfl) | exact i64_of (by omega) (by omega) | omega | (simp; done) | (simp; omega) | (intro hse; simp [hse, hs0]; done) | (intro hse; simp only [hse, hs0, Bool.true_and, Bool.and_true, Bool.not_false, Bool.not_true, Bool.and_self]; done))))))
    refine useS (Next_ok l (k' + 1 + 1) 3 (by omega) hl (by omega)) rfl rfl rfl (by simp only [ZZ, YY, Ze, ite_true, ite_false, forall_const, reduceCtorEq, Nat.reduceAdd, Nat.reduceMul, Nat.reduceLeDiff, Nat.reduceLT, Nat.reduceEqDiff]) ?_
    rintro x cs' ⟨y, rfl, rfl⟩
    generalize below y 3 = sw at *
    simp only [ZZ, YY, Ze, ite_true, ite_false, forall_const, reduceCtorEq, Nat.reduceAdd, Nat.reduceMul, Nat.reduceLeDiff, Nat.reduceLT, Nat.reduceEqDiff]
    refine br ?_ ?_
    · intro _
      simp only [ZZ, YY, Ze, ite_true, ite_false, forall_const, reduceCtorEq, Nat.reduceAdd, Nat.reduceMul, Nat.reduceLeDiff, Nat.reduceLT, Nat.reduceEqDiff]
      refine useS (one_ok l (k' + 1 + 1 + 1) [[], [98, 97], [66]] (by omega) hl (by simp) (by simp)) rfl rfl rfl (by simp only [ZZ, YY, Ze, ite_true, ite_false, forall_const, reduceCtorEq, Nat.reduceAdd, Nat.reduceMul, Nat.reduceLeDiff, Nat.reduceLT, Nat.reduceEqDiff]) ?_
      rintro x cs' ⟨v, rfl, hv, rfl⟩
      have hvl : v.length ≤ 4 := (show ∀ s ∈ ([[], [98, 97], [66]] : List (List UInt8)), s.length ≤ 4 by decide) v hv
      have hset := boE_set bl q (v, bt)
      simp only at hset
      simp only [ZZ, YY, Ze, ite_true, ite_false, forall_const, reduceCtorEq, Nat.reduceAdd, Nat.reduceMul, Nat.reduceLeDiff, Nat.reduceLT, Nat.reduceEqDiff, hg, boE_len, hset]
      ((repeat' (with_reducible apply And.intro)) <;> try ((first | first | assumption | trivial | exact (fun hq => by rw [hq]; rfl) | exact i64_of (by omega) (by omega) | omega | (simp; done) | (simp; omega) | (intro hsc; have hs0 := hsc; (try have hsd := of_decide_eq_true hsc); (try simp only [Bool.not_eq_true', Bool.or_eq_false_iff, Bool.and_eq_true, Bool.or_eq_true, decide_eq_true_eq, decide_eq_false_iff_not] at hsc); (repeat' (with_reducible apply And.intro)) <;> (first | assumption | trivial | exact (fun hq => by rw [hq]; rfl) | exact i64_of (by omega) (by omega) | omega | (simp; done) | (simp; omega) | (intro hse; simp [hse, hs0]; done) | (intro hse; simp only [hse, hs0, Bool.true_and, Bool.and_true, Bool.not_false, Bool.not_true, Bool.and_self]; done))))))
      refine cut_same (by simp only [ZZ, YY, Ze, ite_true, ite_false, forall_const, reduceCtorEq, Nat.reduceAdd, Nat.reduceMul, Nat.reduceLeDiff, Nat.reduceLT, Nat.reduceEqDiff]) ?_
      simp only [ZZ, YY, Ze, ite_true, ite_false, forall_const, reduceCtorEq, Nat.reduceAdd, Nat.reduceMul, Nat.reduceLeDiff, Nat.reduceLT, Nat.reduceEqDiff]
      exact fin_S (stm l (k' + 1 + 1 + 1 + 1)) rfl ⟨_, _, rfl, by rw [List.length_set]; omega, hbt.set q (by omega) c2, rfl, by omega⟩
    intro _
    simp only [ZZ, YY, Ze, ite_true, ite_false, forall_const, reduceCtorEq, Nat.reduceAdd, Nat.reduceMul, Nat.reduceLeDiff, Nat.reduceLT, Nat.reduceEqDiff]
    refine br ?_ ?_
    · intro _
      simp only [ZZ, YY, Ze, ite_true, ite_false, forall_const, reduceCtorEq, Nat.reduceAdd, Nat.reduceMul, Nat.reduceLeDiff, Nat.reduceLT, Nat.reduceEqDiff]
      refine useS (Pick_ok l (k' + 1 + 1 + 1) [20000, 20001] (by omega) hl (by simp) (by simp)) rfl rfl rfl (by simp only [ZZ, YY, Ze, ite_true, ite_false, forall_const, reduceCtorEq, Nat.reduceAdd, Nat.reduceMul, Nat.reduceLeDiff, Nat.reduceLT, Nat.reduceEqDiff]) ?_
      rintro x cs' ⟨v, rfl, hv, rfl⟩
      obtain ⟨vn, rfl, hvn⟩ : ∃ vn : Nat, v = (vn : Nat) ∧ vn ≤ 20001 := by
        simp at hv
        rcases hv with rfl | rfl
        · exact ⟨20000, rfl, by omega⟩
        · exact ⟨20001, rfl, by omega⟩
      simp only [ZZ, YY, Ze, ite_true, ite_false, forall_const, reduceCtorEq, Nat.reduceAdd, Nat.reduceMul, Nat.reduceLeDiff, Nat.reduceLT, Nat.reduceEqDiff]
      refine use1 (Repeat_ok [116] vn (by omega) (by simp)) rfl (.inl rfl) ?_
      have hrl : (Lib.repeatL [116] vn).length ≤ 20001 := by rw [Lib.repeatL_length]; simp; omega
      generalize Lib.repeatL [116] vn = rp at *
      have hset := boE_set bl q (bi, rp)
      simp only at hset
      simp only [ZZ, YY, Ze, ite_true, ite_false, forall_const, reduceCtorEq, Nat.reduceAdd, Nat.reduceMul, Nat.reduceLeDiff, Nat.reduceLT, Nat.reduceEqDiff, hg, boE_len, hset]
      ((repeat' (with_reducible apply And.intro)) <;> try ((first | first | assumption | trivial | exact (fun hq => by rw [hq]; rfl) | exact i64_of (by omega) (by omega) | omega | (simp; done) | (simp; omega) | (intro hsc; have hs0 := hsc; (try have hsd := of_decide_eq_true hsc); (try simp only [Bool.not_eq_true', Bool.or_eq_false_iff, Bool.and_eq_true, Bool.or_eq_true, decide_eq_true_eq, decide_eq_false_iff_not] at hsc); (repeat' (with_reducible apply And.intro)) <;> (first | assumption | trivial | exact (fun hq => by rw [hq]; rfl) | exact i64_of (by omega) (by omega) | omega | (simp; done) | (simp; omega) | (intro hse; simp [hse, hs0]; done) | (intro hse; simp only [hse, hs0, Bool.true_and, Bool.and_true, Bool.not_false, Bool.not_true, Bool.and_self]; done))))))
      refine cut_same (by simp only [ZZ, YY, Ze, ite_true, ite_false, forall_const, reduceCtorEq, Nat.reduceAdd, Nat.reduceMul, Nat.reduceLeDiff, Nat.reduceLT, Nat.reduceEqDiff]) ?_
      simp only [ZZ, YY, Ze, ite_true, ite_false, forall_const, reduceCtorEq, Nat.reduceAdd, Nat.reduceMul, Nat.reduceLeDiff, Nat.reduceLT, Nat.reduceEqDiff]
      exact fin_S (stm l (k' + 1 + 1 + 1 + 1)) rfl ⟨_, _, rfl, by rw [List.length_set]; omega, hbt.set q c1 (by omega), rfl, by omega⟩
    intro _
    simp only [ZZ, YY, Ze, ite_true, ite_false, forall_const, reduceCtorEq, Nat.reduceAdd, Nat.reduceMul, Nat.reduceLeDiff, Nat.reduceLT, Nat.reduceEqDiff]
    refine loop_intro (fun n fr L => ∃ (j : Nat) (b2 : List Bod), j ≤ 26 ∧ n = 26 - j ∧ (b2.length = bl.length + j) ∧ (BodT b2) ∧ fr = [.adr (.b 0) 0, .any, .any, .any, .any, .row (.l 5), .any, .any, .any, .any, .any, .any, .any, .any, .any, .any, .any, .any, .any, .any, .any, .any, .any, .any, .any, .any, .any, .any, .any, .any, .any, .any, .any, .any, .any, .any, .any, .any, .any, .any, .any, .any, .any, .any, .any, .any, .any, .any, .any, .any, .any, .any, .any, .any, .any, .any, .any, .any, .any, .any, .any, .p (int (j : Nat)), .any, .any, .any, .any, .any, .any, .any, .any, .any, .any, .any, .any, .any, .any, .any, .any, .any, .any, .any, .any, .any, .any, .any, .any, .any, .any, .any, .any, .any, .any, .any] ∧ L = [(.b 0, .box ((stm l (k' + 1 + 1 + 1)).map .p) T), (.l 5, .row (boE b2) tBody 2 true)]) (26) [.adr (.b 0) 0, .any, .any, .any, .any, .row (.l 5), .any, .any, .any, .any, .any, .any, .any, .any, .any, .any, .any, .any, .any, .any, .any, .any, .any, .any, .any, .any, .any, .any, .any, .any, .any, .any, .any, .any, .any, .any, .any, .any, .any, .any, .any, .any, .any, .any, .any, .any, .any, .any, .any, .any, .any, .any, .any, .any, .any, .any, .any, .any, .any, .any, .any, .p (int (0 : Nat)), .any, .any, .any, .any, .any, .any, .any, .any, .any, .any, .any, .any, .any, .any, .any, .any, .any, .any, .any, .any, .any, .any, .any, .any, .any, .any, .any, .any, .any, .any, .any] [(.b 0, .box ((stm l (k' + 1 + 1 + 1)).map .p) T), (.l 5, .row (boE bl) tBody 2 true)] (by (simp only [ZZ, YY, Ze, ite_true, ite_false, forall_const, reduceCtorEq, Nat.reduceAdd, Nat.reduceMul, Nat.reduceLeDiff, Nat.reduceLT, Nat.reduceEqDiff]; try trivial)) (by (simp only [ZZ, YY, Ze, ite_true, ite_false, forall_const, reduceCtorEq, Nat.reduceAdd, Nat.reduceMul, Nat.reduceLeDiff, Nat.reduceLT, Nat.reduceEqDiff]; try trivial)) ⟨0, bl, by omega, by omega, rfl, hbt, rfl, rfl⟩ ?_
    rintro n fr L ⟨j, b2, hj, rfl, h1, h2, rfl, rfl⟩
    simp only [ir_chasemake_Stream_Bodies_L1, ZZ, YY, Ze, ite_true, ite_false, forall_const, reduceCtorEq, Nat.reduceAdd, Nat.reduceMul, Nat.reduceLeDiff, Nat.reduceLT, Nat.reduceEqDiff]
    refine br ?_ ?_
    · intro h
      have hlt : j < 26 := by have := of_decide_eq_true h; omega
      have hE4 := encR_le (IntKind.i32.wrap (97 + ((j : Nat) : Int)))
      obtain ⟨id, hid, hidl⟩ : ∃ id, id = 122 :: (Utf8.encode (IntKind.i32.wrap (97 + ((j : Nat) : Int)))).data.toList ∧ id.length ≤ 100 := ⟨_, rfl, by simp only [List.length_cons]; omega⟩
      simp only [ZZ, YY, Ze, ite_true, ite_false, forall_const, reduceCtorEq, Nat.reduceAdd, Nat.reduceMul, Nat.reduceLeDiff, Nat.reduceLT, Nat.reduceEqDiff]
      ((repeat' (with_reducible apply And.intro)) <;> try ((first | first | assumption | trivial | exact (fun hq => by rw [hq]; rfl) | exact i64_of (by omega) (by omega) | omega | (simp; done) | (simp; omega) | (intro hsc; have hs0 := hsc; (try have hsd := of_decide_eq_true hsc); (try simp only [Bool.not_eq_true', Bool.or_eq_false_iff, Bool.and_eq_true, Bool.or_eq_true, decide_eq_true_eq, decide_eq_false_iff_not] at hsc); (repeat' (with_reducible apply And.intro)) <;> (first | assumption | trivial | exact (fun hq => by rw [hq]; rfl) | exact i64_of (by omega) (by omega) | omega | (simp; done) | (simp; omega) | (intro hse; simp [hse, hs0]; done) | (intro hse; simp only [hse, hs0, Bool.true_and, Bool.and_true, Bool.not_false, Bool.not_true, Bool.and_self]; done))))))
      refine use1 (Repeat_ok [119] 20000 (by omega) (by simp)) rfl (.inl rfl) ?_
      have hrl : (Lib.repeatL [119] 20000).length ≤ 20000 := by rw [Lib.repeatL_length]; exact Nat.le_refl _
      generalize Lib.repeatL [119] 20000 = rp at *
      rw [← hid]
      clear hid hE4
      have hb3 : (b2 ++ [(id, rp)]).length = bl.length + (j + 1) := by rw [List.length_append, h1]; rfl
      have hb4 := h2.app hidl (show rp.length ≤ 100000 by omega)
      simp only [ZZ, YY, Ze, ite_true, ite_false, forall_const, reduceCtorEq, Nat.reduceAdd, Nat.reduceMul, Nat.reduceLeDiff, Nat.reduceLT, Nat.reduceEqDiff, boE_len, boE_app]
      ((repeat' (with_reducible apply And.intro)) <;> try ((first | first | assumption | trivial | exact (fun hq => by rw [hq]; rfl) | exact i64_of (by omega) (by omega) | omega | (simp; done) | (simp; omega) | (intro hsc; have hs0 := hsc; (try have hsd := of_decide_eq_true hsc); (try simp only [Bool.not_eq_true', Bool.or_eq_false_iff, Bool.and_eq_true, Bool.or_eq_true, decide_eq_true_eq, decide_eq_false_iff_not] at hsc); (repeat' (with_reducible apply And.intro)) <;> (first | assumption | trivial | exact (fun hq => by rw [hq]; rfl) | exact i64_of (by omega) (by omega) | omega | (simp; done) | (simp; omega) | (intro hse; simp [hse, hs0]; done) | (intro hse; simp only [hse, hs0, Bool.true_and, Bool.and_true, Bool.not_false, Bool.not_true, Bool.and_self]; done))))))
      refine end_round (26 - (j + 1)) [.adr (.b 0) 0, .any, .any, .any, .any, .row (.l 5), .any, .any, .any, .any, .any, .any, .any, .any, .any, .any, .any, .any, .any, .any, .any, .any, .any, .any, .any, .any, .any, .any, .any, .any, .any, .any, .any, .any, .any, .any, .any, .any, .any, .any, .any, .any, .any, .any, .any, .any, .any, .any, .any, .any, .any, .any, .any, .any, .any, .any, .any, .any, .any, .any, .any, .p (int ((j + 1) : Nat)), .any, .any, .any, .any, .any, .any, .any, .any, .any, .any, .any, .any, .any, .any, .any, .any, .any, .any, .any, .any, .any, .any, .any, .any, .any, .any, .any, .any, .any, .any, .any] [(.b 0, .box ((stm l (k' + 1 + 1 + 1)).map .p) T), (.l 5, .row (boE (b2 ++ [(id, rp)])) tBody 2 true)] (by omega) (by (simp only [ZZ, YY, Ze, ite_true, ite_false, forall_const, reduceCtorEq, Nat.reduceAdd, Nat.reduceMul, Nat.reduceLeDiff, Nat.reduceLT, Nat.reduceEqDiff]; try trivial)) (by (simp only [ZZ, YY, Ze, ite_true, ite_false, forall_const, reduceCtorEq, Nat.reduceAdd, Nat.reduceMul, Nat.reduceLeDiff, Nat.reduceLT, Nat.reduceEqDiff]; try trivial)) ⟨j + 1, b2 ++ [(id, rp)], by omega, rfl, hb3, hb4, rfl, rfl⟩
    · intro h
      simp only [ZZ, YY, Ze, ite_true, ite_false, forall_const, reduceCtorEq, Nat.reduceAdd, Nat.reduceMul, Nat.reduceLeDiff, Nat.reduceLT, Nat.reduceEqDiff]
      refine cut_same (by simp only [ZZ, YY, Ze, ite_true, ite_false, forall_const, reduceCtorEq, Nat.reduceAdd, Nat.reduceMul, Nat.reduceLeDiff, Nat.reduceLT, Nat.reduceEqDiff]) ?_
      simp only [ZZ, YY, Ze, ite_true, ite_false, forall_const, reduceCtorEq, Nat.reduceAdd, Nat.reduceMul, Nat.reduceLeDiff, Nat.reduceLT, Nat.reduceEqDiff]
      exact fin_S (stm l (k' + 1 + 1 + 1)) rfl ⟨_, _, rfl, by omega, h2, rfl, by omega⟩
  · intro _
    simp only [ZZ, YY, Ze, ite_true, ite_false, forall_const, reduceCtorEq, Nat.reduceAdd, Nat.reduceMul, Nat.reduceLeDiff, Nat.reduceLT, Nat.reduceEqDiff]
    refine cut_same (by simp only [ZZ, YY, Ze, ite_true, ite_false, forall_const, reduceCtorEq, Nat.reduceAdd, Nat.reduceMul, Nat.reduceLeDiff, Nat.reduceLT, Nat.reduceEqDiff]) ?_
    simp only [ZZ, YY, Ze, ite_true, ite_false, forall_const, reduceCtorEq, Nat.reduceAdd, Nat.reduceMul, Nat.reduceLeDiff, Nat.reduceLT, Nat.reduceEqDiff]
    exact fin_S (stm l (k' + 1)) rfl ⟨_, _, rfl, by omega, hbt, rfl, by omega⟩
def fmsL : List (List UInt8) := [[97, 32, 98], [97, 32, 98, 32, 99], [98], [105, 116, 32, 115, 32, 97], [120]]
set_option maxHeartbeats 8000000 in
set_option maxRecDepth 100000 in
theorem Forms_ok (l : List Int) (k : Nat) (hk : k ≤ 900000) (hl : l.length ≤ 9223372036854775807) :
    SCall Tryz.prog E0 27 T (stm l k) [] (fun x cs' => ∃ fl k', x = .sl 1 (strE fl) ∧ fl.length ≤ 10 ∧ (∀ s ∈ fl, s.length ≤ 10) ∧ cs' = stm l k' ∧ k' ≤ k + 10) := by
  unfold SCall
  refine gcallP mixed Tryz.func27 ck_chasemake_Stream_Forms ?_
  simp only [a0, l0, OS.ao, List.map_cons, List.map_nil, List.length_cons, List.length_nil, List.cons_append, List.nil_append, Nat.reduceSub, Nat.reduceAdd, List.replicate_succ, List.replicate_zero, ir_chasemake_Stream_Forms, rs_chasemake_Stream_Forms, ZZ, YY, Ze, ite_true, ite_false, forall_const, reduceCtorEq, Nat.reduceAdd, Nat.reduceMul, Nat.reduceLeDiff, Nat.reduceLT, Nat.reduceEqDiff]
  have hq : ([[PV.str [97, 32, 98]], [PV.str [97, 32, 98, 32, 99]], [PV.str [98]], [PV.str [105, 116, 32, 115, 32, 97]], [PV.str [120]]] : List (List PV)) = strE fmsL := rfl
  have hql : fmsL.length = 5 := rfl
  rw [hq]
  have hR0 : ([] : List (List PV)) = strE [] := rfl
  rw [hR0]
  refine loop_intro (fun n fr L => ∃ (i : Nat) (fl : List (List UInt8)), i ≤ 5 ∧ n = 5 - i ∧ (fl.length ≤ i) ∧ (∀ s ∈ fl, s.length ≤ 10) ∧ fr = [.adr (.b 0) 0, .any, .any, .row (.l 3), .any, .any, .p (.sl 1 (strE fmsL)), .p (int (5 : Nat)), .p (int (i : Nat)), .any, .any, .any, .any, .any, .any, .any, .any, .any, .any, .any, .any, .any, .any, .any, .any, .any, .any, .any] ∧ L = [(.b 0, .box ((stm l (k + i)).map .p) T), (.l 3, .row (strE fl) tStr 1 true)]) (5) [.adr (.b 0) 0, .any, .any, .row (.l 3), .any, .any, .p (.sl 1 (strE fmsL)), .p (int (5 : Nat)), .p (int (0 : Nat)), .any, .any, .any, .any, .any, .any, .any, .any, .any, .any, .any, .any, .any, .any, .any, .any, .any, .any, .any] [(.b 0, .box ((stm l (k + 0)).map .p) T), (.l 3, .row (strE []) tStr 1 true)] (by (simp only [ZZ, YY, Ze, ite_true, ite_false, forall_const, reduceCtorEq, Nat.reduceAdd, Nat.reduceMul, Nat.reduceLeDiff, Nat.reduceLT, Nat.reduceEqDiff]; try trivial)) (by (simp only [ZZ, YY, Ze, ite_true, ite_false, forall_const, reduceCtorEq, Nat.reduceAdd, Nat.reduceMul, Nat.reduceLeDiff, Nat.reduceLT, Nat.reduceEqDiff]; try trivial)) ⟨0, [], by omega, by omega, by simp, by simp, rfl, rfl⟩ ?_
  rintro n fr L ⟨i, fl, hi, rfl, h1, h2, rfl, rfl⟩
  simp only [ir_chasemake_Stream_Forms_L0, ZZ, YY, Ze, ite_true, ite_false, forall_const, reduceCtorEq, Nat.reduceAdd, Nat.reduceMul, Nat.reduceLeDiff, Nat.reduceLT, Nat.reduceEqDiff]
  refine br ?_ ?_
  · intro h
    have hlt : i < fmsL.length := by have := of_decide_eq_true h; omega
    obtain ⟨f, hf⟩ : ∃ f, fmsL[i]? = some f := ⟨_, List.getElem?_eq_getElem hlt⟩
    have hg := strE_get hf
    have hfl : f.length ≤ 10 := (show ∀ s ∈ fmsL, s.length ≤ 10 by decide) f (List.mem_of_getElem? hf)
    simp only [ZZ, YY, Ze, ite_true, ite_false, forall_const, reduceCtorEq, Nat.reduceAdd, Nat.reduceMul, Nat.reduceLeDiff, Nat.reduceLT, Nat.reduceEqDiff, hg, strE_len, hql]
    ((repeat' (with_reducible apply And.intro)) <;> try ((first | first | assumption | trivial | exact (fun hq => by rw [hq]; rfl) | exact i64_of (by omega) (by omega) | omega | (simp; done) | (simp; omega) | (intro hsc; have hs0 := hsc; (try have hsd := of_decide_eq_true hsc); (try simp only [Bool.not_eq_true', Bool.or_eq_false_iff, Bool.and_eq_true, Bool.or_eq_true, decide_eq_true_eq, decide_eq_false_iff_not] at hsc); (repeat' (with_reducible apply And.intro)) <;> (first | assumption | trivial | exact (fun hq => by rw [hq]; rfl) | exact i64_of (by omega) (by omega) | omega | (simp; done) | (simp; omega) | (intro hse; simp [hse, hs0]; done) | (intro hse; simp only [hse, hs0, Bool.true_and, Bool.and_true, Bool.not_false, Bool.not_true, Bool.and_self]; done))))))
    refine useS (Flip_ok l (k + i) 2 (by omega) hl (by omega)) rfl rfl rfl (by simp only [ZZ, YY, Ze, ite_true, ite_false, forall_const, reduceCtorEq, Nat.reduceAdd, Nat.reduceMul, Nat.reduceLeDiff, Nat.reduceLT, Nat.reduceEqDiff]) ?_
    rintro x cs' ⟨g, rfl, rfl⟩
    have e3 : ∀ (l : List (List UInt8)) (s : List UInt8), strE l ++ [[PV.str s]] = strE (l ++ [s]) := by intro l s; simp [strE]
    simp only [ZZ, YY, Ze, ite_true, ite_false, forall_const, reduceCtorEq, Nat.reduceAdd, Nat.reduceMul, Nat.reduceLeDiff, Nat.reduceLT, Nat.reduceEqDiff]
    refine br ?_ ?_
    · intro _
      simp only [ZZ, YY, Ze, ite_true, ite_false, forall_const, reduceCtorEq, Nat.reduceAdd, Nat.reduceMul, Nat.reduceLeDiff, Nat.reduceLT, Nat.reduceEqDiff, strE_len, e3]
      ((repeat' (with_reducible apply And.intro)) <;> try ((first | first | assumption | trivial | exact (fun hq => by rw [hq]; rfl) | exact i64_of (by omega) (by omega) | omega | (simp; done) | (simp; omega) | (intro hsc; have hs0 := hsc; (try have hsd := of_decide_eq_true hsc); (try simp only [Bool.not_eq_true', Bool.or_eq_false_iff, Bool.and_eq_true, Bool.or_eq_true, decide_eq_true_eq, decide_eq_false_iff_not] at hsc); (repeat' (with_reducible apply And.intro)) <;> (first | assumption | trivial | exact (fun hq => by rw [hq]; rfl) | exact i64_of (by omega) (by omega) | omega | (simp; done) | (simp; omega) | (intro hse; simp [hse, hs0]; done) | (intro hse; simp only [hse, hs0, Bool.true_and, Bool.and_true, Bool.not_false, Bool.not_true, Bool.and_self]; done))))))
      refine cut_same (by simp only [ZZ, YY, Ze, ite_true, ite_false, forall_const, reduceCtorEq, Nat.reduceAdd, Nat.reduceMul, Nat.reduceLeDiff, Nat.reduceLT, Nat.reduceEqDiff]) ?_
      simp only [ZZ, YY, Ze, ite_true, ite_false, forall_const, reduceCtorEq, Nat.reduceAdd, Nat.reduceMul, Nat.reduceLeDiff, Nat.reduceLT, Nat.reduceEqDiff]
      ((repeat' (with_reducible apply And.intro)) <;> try ((first | first | assumption | trivial | exact (fun hq => by rw [hq]; rfl) | exact i64_of (by omega) (by omega) | omega | (simp; done) | (simp; omega) | (intro hsc; have hs0 := hsc; (try have hsd := of_decide_eq_true hsc); (try simp only [Bool.not_eq_true', Bool.or_eq_false_iff, Bool.and_eq_true, Bool.or_eq_true, decide_eq_true_eq, decide_eq_false_iff_not] at hsc); (repeat' (with_reducible apply And.intro)) <;> (first | assumption | trivial | exact (fun hq => by rw [hq]; rfl) | exact i64_of (by omega) (by omega) | omega | (simp; done) | (simp; omega) | (intro hse; simp [hse, hs0]; done) | (intro hse; simp only [hse, hs0, Bool.true_and, Bool.and_true, Bool.not_false, Bool.not_true, Bool.and_self]; done))))))
      refine end_round (5 - (i + 1)) [.adr (.b 0) 0, .any, .any, .row (.l 3), .any, .any, .p (.sl 1 (strE fmsL)), .p (int (5 : Nat)), .p (int ((i + 1) : Nat)), .any, .any, .any, .any, .any, .any, .any, .any, .any, .any, .any, .any, .any, .any, .any, .any, .any, .any, .any] [(.b 0, .box ((stm l (k + (i + 1))).map .p) T), (.l 3, .row (strE (fl ++ [f])) tStr 1 true)] (by omega) (by (simp only [ZZ, YY, Ze, ite_true, ite_false, forall_const, reduceCtorEq, Nat.reduceAdd, Nat.reduceMul, Nat.reduceLeDiff, Nat.reduceLT, Nat.reduceEqDiff]; try trivial)) (by (simp only [ZZ, YY, Ze, ite_true, ite_false, forall_const, reduceCtorEq, Nat.reduceAdd, Nat.reduceMul, Nat.reduceLeDiff, Nat.reduceLT, Nat.reduceEqDiff]; try trivial)) ⟨i + 1, fl ++ [f], by omega, rfl, by rw [List.length_append]; simp; omega, by intro s hs; rcases List.mem_append.1 hs with hs | hs; exact h2 s hs; rw [List.mem_singleton] at hs; subst hs; exact hfl, rfl, rfl⟩
    · intro _
      simp only [ZZ, YY, Ze, ite_true, ite_false, forall_const, reduceCtorEq, Nat.reduceAdd, Nat.reduceMul, Nat.reduceLeDiff, Nat.reduceLT, Nat.reduceEqDiff]
      refine cut_same (by simp only [ZZ, YY, Ze, ite_true, ite_false, forall_const, reduceCtorEq, Nat.reduceAdd, Nat.reduceMul, Nat.reduceLeDiff, Nat.reduceLT, Nat.reduceEqDiff]) ?_
      simp only [ZZ, YY, Ze, ite_true, ite_false, forall_const, reduceCtorEq, Nat.reduceAdd, Nat.reduceMul, Nat.reduceLeDiff, Nat.reduceLT, Nat.reduceEqDiff]
      ((repeat' (with_reducible apply And.intro)) <;> try ((first | first | assumption | trivial | exact (fun hq => by rw [hq]; rfl) | exact i64_of (by omega) (by omega) | omega | (simp; done) | (simp; omega) | (intro hsc; have hs0 := hsc; (try have hsd := of_decide_eq_true hsc); (try simp only [Bool.not_eq_true', Bool.or_eq_false_iff, Bool.and_eq_true, Bool.or_eq_true, decide_eq_true_eq, decide_eq_false_iff_not] at hsc); (repeat' (with_reducible apply And.intro)) <;> (first | assumption | trivial | exact (fun hq => by rw [hq]; rfl) | exact i64_of (by omega) (by omega) | omega | (simp; done) | (simp; omega) | (intro hse; simp [hse, hs0]; done) | (intro hse; simp only [hse, hs0, Bool.true_and, Bool.and_true, Bool.not_false, Bool.not_true, Bool.and_self]; done))))))
      refine end_round (5 - (i + 1)) [.adr (.b 0) 0, .any, .any, .row (.l 3), .any, .any, .p (.sl 1 (strE fmsL)), .p (int (5 : Nat)), .p (int ((i + 1) : Nat)), .any, .any, .any, .any, .any, .any, .any, .any, .any, .any, .any, .any, .any, .any, .any, .any, .any, .any, .any] [(.b 0, .box ((stm l (k + (i + 1))).map .p) T), (.l 3, .row (strE (fl)) tStr 1 true)] (by omega) (by (simp only [ZZ, YY, Ze, ite_true, ite_false, forall_const, reduceCtorEq, Nat.reduceAdd, Nat.reduceMul, Nat.reduceLeDiff, Nat.reduceLT, Nat.reduceEqDiff]; try trivial)) (by (simp only [ZZ, YY, Ze, ite_true, ite_false, forall_const, reduceCtorEq, Nat.reduceAdd, Nat.reduceMul, Nat.reduceLeDiff, Nat.reduceLT, Nat.reduceEqDiff]; try trivial)) ⟨i + 1, fl, by omega, rfl, by omega, h2, rfl, rfl⟩
  intro h
  have hi5 : i = 5 := by have := of_decide_eq_false h; omega
  clear h
  subst hi5
  simp only [ZZ, YY, Ze, ite_true, ite_false, forall_const, reduceCtorEq, Nat.reduceAdd, Nat.reduceMul, Nat.reduceLeDiff, Nat.reduceLT, Nat.reduceEqDiff]
  refine useS (Flip_ok l (k + 5) 12 (by omega) hl (by omega)) rfl rfl rfl (by simp only [ZZ, YY, Ze, ite_true, ite_false, forall_const, reduceCtorEq, Nat.reduceAdd, Nat.reduceMul, Nat.reduceLeDiff, Nat.reduceLT, Nat.reduceEqDiff]) ?_
  rintro x cs' ⟨g, rfl, rfl⟩
  simp only [ZZ, YY, Ze, ite_true, ite_false, forall_const, reduceCtorEq, Nat.reduceAdd, Nat.reduceMul, Nat.reduceLeDiff, Nat.reduceLT, Nat.reduceEqDiff]
  refine br ?_ ?_
  · intro _
    have e3 : ∀ (l : List (List UInt8)) (s : List UInt8), strE l ++ [[PV.str s]] = strE (l ++ [s]) := by intro l s; simp [strE]
    simp only [ZZ, YY, Ze, ite_true, ite_false, forall_const, reduceCtorEq, Nat.reduceAdd, Nat.reduceMul, Nat.reduceLeDiff, Nat.reduceLT, Nat.reduceEqDiff]
    refine useS (one_ok l (k + 5 + 1) [[], [65], [120], [122, 32, 32, 122], [122, 45, 122]] (by omega) hl (by simp) (by simp)) rfl rfl rfl (by simp only [ZZ, YY, Ze, ite_true, ite_false, forall_const, reduceCtorEq, Nat.reduceAdd, Nat.reduceMul, Nat.reduceLeDiff, Nat.reduceLT, Nat.reduceEqDiff]) ?_
    rintro x cs' ⟨v, rfl, hv, rfl⟩
    have hvl : v.length ≤ 10 := (show ∀ s ∈ ([[], [65], [120], [122, 32, 32, 122], [122, 45, 122]] : List (List UInt8)), s.length ≤ 10 by decide) v hv
    simp only [ZZ, YY, Ze, ite_true, ite_false, forall_const, reduceCtorEq, Nat.reduceAdd, Nat.reduceMul, Nat.reduceLeDiff, Nat.reduceLT, Nat.reduceEqDiff, strE_len, e3]
    ((repeat' (with_reducible apply And.intro)) <;> try ((first | first | assumption | trivial | exact (fun hq => by rw [hq]; rfl) | exact i64_of (by omega) (by omega) | omega | (simp; done) | (simp; omega) | (intro hsc; have hs0 := hsc; (try have hsd := of_decide_eq_true hsc); (try simp only [Bool.not_eq_true', Bool.or_eq_false_iff, Bool.and_eq_true, Bool.or_eq_true, decide_eq_true_eq, decide_eq_false_iff_not] at hsc); (repeat' (with_reducible apply And.intro)) <;> (first | assumption | trivial | exact (fun hq => by rw [hq]; rfl) | exact i64_of (by omega) (by omega) | omega | (simp; done) | (simp; omega) | (intro hse; simp [hse, hs0]; done) | (intro hse; simp only [hse, hs0, Bool.true_and, Bool.and_true, Bool.not_false, Bool.not_true, Bool.and_self]; done))))))
    refine cut_same (by simp only [ZZ, YY, Ze, ite_true, ite_false, forall_const, reduceCtorEq, Nat.reduceAdd, Nat.reduceMul, Nat.reduceLeDiff, Nat.reduceLT, Nat.reduceEqDiff]) ?_
    simp only [ZZ, YY, Ze, ite_true, ite_false, forall_const, reduceCtorEq, Nat.reduceAdd, Nat.reduceMul, Nat.reduceLeDiff, Nat.reduceLT, Nat.reduceEqDiff]
    exact fin_S (stm l (k + 5 + 1 + 1)) rfl ⟨fl ++ [v], _, rfl, by rw [List.length_append]; simp; omega, fun s hs => (List.mem_append.1 hs).elim (h2 s) (fun h => by rw [List.mem_singleton] at h; subst h; exact hvl), rfl, by omega⟩
  · intro _
    simp only [ZZ, YY, Ze, ite_true, ite_false, forall_const, reduceCtorEq, Nat.reduceAdd, Nat.reduceMul, Nat.reduceLeDiff, Nat.reduceLT, Nat.reduceEqDiff]
    refine cut_same (by simp only [ZZ, YY, Ze, ite_true, ite_false, forall_const, reduceCtorEq, Nat.reduceAdd, Nat.reduceMul, Nat.reduceLeDiff, Nat.reduceLT, Nat.reduceEqDiff]) ?_
    simp only [ZZ, YY, Ze, ite_true, ite_false, forall_const, reduceCtorEq, Nat.reduceAdd, Nat.reduceMul, Nat.reduceLeDiff, Nat.reduceLT, Nat.reduceEqDiff]
    exact fin_S (stm l (k + 5 + 1)) rfl ⟨fl, _, rfl, by omega, h2, rfl, by omega⟩
end Go.Proofs.YthfpehmbellmcaaGreatDoor

/- The cells of strings; slices.Sort and slices.Compact of the strings that a call owns. -/
namespace Go.Proofs.YthfpehmbellmcaaGreatDoor
open Go.Shelf Go.RowKit Go.Lib Go.Sort
set_option linter.unusedVariables false
set_option linter.unusedSimpArgs false
set_option linter.defProp false

def sE (l : List UInt8) : Value := .string ⟨l.toArray⟩
theorem strE_vals {w : World} {U : Nat → Prop} : ∀ {l : List (List UInt8)} {vs : List Value}, PRepL w U (strE l).flatten vs ↔ vs = l.map sE
  | [], vs => by simp [strE, PRepL]
  | c :: r, vs => by
    have ih : ∀ vs, PRepL w U (strE r).flatten vs ↔ vs = r.map sE := fun vs => strE_vals
    simp only [strE, List.map_cons, List.flatten_cons, List.cons_append, List.nil_append, PRepL, PRep] at ih ⊢
    constructor
    · rintro ⟨v, r', rfl, rfl, h⟩
      rw [(ih r').1 h]
      rfl
    · rintro rfl
      exact ⟨_, _, rfl, rfl, (ih _).2 rfl⟩
theorem repE_sE {w : World} {U : Nat → Prop} {b : Nat} : ∀ (l : List (List UInt8)) (off : Nat), (∀ i u, (l.map sE)[i]? = some u → w.cell? ⟨b, off + i, none⟩ = some u) → PRepE w U b 1 off (strE l)
  | [], off, h => trivial
  | x :: r, off, h => by
    refine ⟨rfl, ⟨⟨.string ⟨x.toArray⟩, by simpa [sE] using h 0 _ rfl, rfl, rfl⟩, trivial⟩, repE_sE r (off + 1) fun i u hu => ?_⟩
    have := h (i + 1) u (by simpa using hu)
    rwa [show off + (i + 1) = off + 1 + i from by omega] at this
/-- The strings of an owned row are sorted in place. -/
theorem sortS_row {E : Envt} (et : Nat) (l : List (List UInt8)) (hl : l.length ≤ 1000000000000) : RCall Tryz.prog E 113 et 1 (strE l) [] (fun x es' => x = .tup [] ∧ es' = strE (l.mergeSort fun x y => decide (x ≤ y))) := by
  intro w U vs v0 hU hE hEb hA hB
  obtain ⟨hB1, us, hrow, h1, hrep, hz⟩ := hB
  simp only [PRepL] at hA
  subst hA
  rw [strE_vals] at hrep
  subst hrep
  rw [strE_len] at hrow
  have hml : (l.mergeSort fun x y => decide (x ≤ y)).length = l.length := List.length_mergeSort _
  rcases hrow.2 with ⟨rfl, hn⟩ | ⟨b, cap, cur, fz, rfl, hg, hn, hcap, hcs, htk, hfz⟩
  · have hl0 : l = [] := List.eq_nil_of_length_eq_zero hn
    subst hl0
    refine (AnyM.slices_Sort_string_none Tryz.laySort none 0 w).mono ?_
    rintro e w' ⟨rfl, rfl⟩
    exact ⟨_, .p (.tup []), .row et 1 [], rfl, ⟨_, _, rfl, rfl, rfl, by simp [strE]⟩, ⟨[], rfl, by simp [PRepL]⟩, Grow.refl _ _, ⟨[], ⟨by simp, .inl ⟨rfl, rfl⟩⟩, by simp, by simp [PRepL], by simp⟩⟩
  · have hf0 : fz = (0, 0) := by rcases hfz with h | h; exact h; exact absurd h.1 (by simp)
    subst hf0
    have hb : b < w.heap.size := by
      rcases Nat.lt_or_ge b w.heap.size with h | h
      · exact h
      · rw [Array.getElem?_eq_none h] at hg; cases hg
    simp only [Nat.mul_one] at htk hcs
    have hH : Holds encStr w b 0 l.toArray := by
      intro j hj
      have hj' : j < l.length := by simpa using hj
      have e1 : cur[j]? = some (encStr l.toArray[j]!) := by
        rw [← Array.getElem?_toList, ← List.getElem?_take_of_lt hj', htk, List.getElem?_map, List.getElem?_eq_getElem hj', getElem!_pos l.toArray j hj]
        rfl
      refine ⟨?_, ?_⟩
      · simp only [World.cell?, hg]
        simpa using e1
      · simp [World.frozen?, hg]
    refine (AnyM.slices_Sort_string Tryz.laySort b 0 cap l w hH hb (by omega)).mono ?_
    rintro e w' ⟨rfl, n, os, rfl⟩
    generalize (l.mergeSort fun x y => decide (x ≤ y)) = m at *
    have hblk : ∀ c, c ≠ b → c < w.heap.size → (grow (putRow encStr (Sort.ahead w n) b 0 m.toArray) os).heap[c]? = w.heap[c]? := by
      intro c hc hlt
      simp only [grow, putRow, mapBlock]
      rw [Array.getElem?_append_left (by simpa using hlt), Array.getElem?_modify, if_neg (fun e => hc e.symm)]
      rfl
    have hnew : (grow (putRow encStr (Sort.ahead w n) b 0 m.toArray) os).heap[b]? = some (.cells (putCells encStr 0 m.toArray cur) et (0, 0)) := by
      simp only [grow, putRow, mapBlock]
      rw [Array.getElem?_append_left (by simpa using hb), Array.getElem?_modify, if_pos rfl]
      show Option.map _ w.heap[b]? = _
      rw [hg]
      rfl
    have hGr : Grow w (grow (putRow encStr (Sort.ahead w n) b 0 m.toArray) os) (fun c => blk (.slice (some ⟨b, 0, none⟩) l.length cap) = some c) := by
      refine ⟨rfl, rfl, rfl, ?_, fun c hc hne => hblk c (fun e => hne (by rw [e]; rfl)) hc⟩
      simp [grow, putRow, mapBlock, Sort.ahead]
    refine ⟨_, .p (.tup []), .row et 1 (strE m), rfl, ⟨_, _, rfl, rfl, rfl, rfl⟩, ⟨[], rfl, by simp [PRepL]⟩, hGr, ?_⟩
    refine ⟨m.map sE, ⟨by rw [strE_len]; simp, .inr ⟨b, cap, _, (0, 0), by rw [strE_len, hml], hnew, by rw [strE_len, hml]; exact hn, hcap, by simp [putCells, hcs], ?_, .inl rfl⟩⟩, ?_, strE_vals.2 rfl, ?_⟩
    · rw [strE_len]
      apply List.ext_getElem?
      intro j
      by_cases hj : j < m.length
      · rw [List.getElem?_take_of_lt (by simpa using hj), Array.getElem?_toList]
        simp only [putCells, Array.getElem?_mapIdx]
        rw [Array.getElem?_eq_getElem (by omega), Option.map_some, if_pos ⟨Nat.zero_le _, by simpa using hj⟩, Nat.sub_zero, getElem!_pos _ j (by simpa using hj)]
        simp [hj, sE]
      · rw [List.getElem?_eq_none (by rw [List.length_take]; omega), List.getElem?_eq_none (by simp; omega)]
    · intro u hu
      obtain ⟨x, _, rfl⟩ := List.mem_map.1 hu
      rfl
    · intro x hx
      simp only [strE, List.mem_map] at hx
      obtain ⟨y, _, rfl⟩ := hx
      rfl
theorem compact_le (l : List (List UInt8)) : (Lib.compact l).length ≤ l.length := by
  unfold Lib.compact Lib.compactUpTo
  rw [List.length_map]
  exact Nat.le_trans (List.length_filter_le _ _) (by simp)
section
variable {E : Envt} {L : Objs} {k : Key} {fr : List AV} {d : Option Nat} {is : List IOper} {Y : List PV} {K : List AV → Objs → Prop}
/-- Runs of equal strings of an owned row are made one: what is left is plain, the row is gone. -/
theorem useComp (i : Nat) (l : List (List UInt8)) (hlen : l.length ≤ 1000000000) (hlk : Zas L k = some (.row (strE l) 9 1 true))
    (hk : awpOps Tryz.prog E Y is (Zg (fr.map (·.kill (.l i))) d (.p (.sl 1 (strE (Lib.compact l))))) (delO L k) K) : CallOp Tryz.prog E 119 [.row k] L d fr (contO Tryz.prog E Y is K) := by
  refine .inr (.inr ⟨i, ?_⟩)
  intro w X ι vs hs hX hE hEb hA
  simp only [ARepL, ARep] at hA
  obtain ⟨v1, r1, rfl, ⟨rfl, A, n, c, hv⟩, rfl⟩ := hA
  obtain ⟨us, u1, u2, u3, u4⟩ := hs.obj k _ hlk
  rw [strE_vals] at u3
  subst u3
  have hown := u1.owns
  rw [strE_len] at hown
  by_cases hne : ι k = .slice none 0 0
  · have hl0 : l = [] := by
      rcases hown.2 with ⟨_, h0⟩ | ⟨q, cap, cur, h1, _⟩
      · exact List.eq_nil_of_length_eq_zero h0
      · rw [hne] at h1; cases h1
    subst hl0
    rw [hne]
    refine (Any.slices_Compact_string_empty Tryz.layCompact none 0 w).mono ?_
    rintro e w' ⟨rfl, rfl⟩
    have hsub : ∀ j a, Zas (delO L k) j = some a → Zas L j = some a := by
      intro j a hj
      rw [look_delO] at hj
      by_cases e : j = k
      · rw [if_pos e] at hj; cases hj
      · rwa [if_neg e] at hj
    have hown3 : ∀ x, Own (delO L k) ι x → Own L ι x := fun x ⟨j, a, h1, h2⟩ => ⟨j, a, hsub j a h1, h2⟩
    have hkp : Keeps w' w' (fun x => Own L ι x ∨ X x) (fun x => Own (delO L k) ι x ∨ X x) := fun x hx hu => ⟨rfl, fun h => hu (h.imp (hown3 x) id)⟩
    refine ⟨_, .p (.sl 1 (strE (Lib.compact []))), delO L k, ι, rfl, hk, ?_, ⟨⟨?_, fun j j' a a' x h1 h2 h3 h4 => hs.inj j j' a a' x (hsub j a h1) (hsub j' a' h2) h3 h4⟩, Grow.refl _ _, fun x h => .inl (hown3 x h), fun j _ => rfl, fun j hj => ?_⟩⟩
    · show PRep w' _ (.sl 1 (strE (Lib.compact []))) _
      exact ⟨none, 0, rfl, by simp [strE, Lib.compact, Lib.compactUpTo], fun h => absurd rfl h⟩
    · intro j a h1
      exact ObjOk.mono hkp (fun x hx => rfl) (hs.obj j a (hsub j a h1))
    · obtain ⟨a, ha⟩ := Option.isSome_iff_exists.1 hj
      exact .inl (by rw [hsub j a ha]; rfl)
  obtain ⟨b, cap, hvb, _, hlt, hnc, hcm, _, hH⟩ := Lib.holds_of_ownsRow (enc := encStr) hown hne
  rw [hvb] at hown
  have hOb : Own L ι b := ⟨k, _, hlk, by rw [hvb]; rfl⟩
  have hcall := Any.slices_Compact_string Tryz.layCompact b 0 cap l w hH (by omega) (by simpa using hnc)
  rw [hvb]
  refine hcall.mono ?_
  rintro e w' ⟨rfl, q, rfl⟩
  have hle : (Lib.compact l).length ≤ l.length := compact_le l
  have hown2 := Lib.ownsRow_putRow (enc := encStr) (q := q) (k := (Lib.compact l).length) (ys := (Lib.compact l) ++ List.replicate (l.length - (Lib.compact l).length) []) hown (by simp; omega) hle
  rw [List.take_left' rfl] at hown2
  generalize hW : putRow encStr (Sort.ahead w q) b 0 ((Lib.compact l) ++ List.replicate (l.length - (Lib.compact l).length) []).toArray = w1 at hown2 ⊢
  have hG : Grow w w1 (fun x => x = b) := by
    rw [← hW]
    refine ⟨rfl, rfl, rfl, by simp [putRow, mapBlock, Sort.ahead], fun x hx hn => ?_⟩
    simp [putRow, mapBlock, Sort.ahead, Array.getElem?_modify, show b ≠ x from fun e => hn e.symm]
  have hsub : ∀ j a, Zas (delO L k) j = some a → j ≠ k ∧ Zas L j = some a := by
    intro j a hj
    rw [look_delO] at hj
    by_cases e : j = k
    · rw [if_pos e] at hj; cases hj
    · rw [if_neg e] at hj; exact ⟨e, hj⟩
  have hown3 : ∀ x, Own (delO L k) ι x → Own L ι x := fun x ⟨j, a, h1, h2⟩ => ⟨j, a, (hsub j a h1).2, h2⟩
  have hnb : ¬ (Own (delO L k) ι b ∨ X b) := by
    rintro (⟨j, a, h1, h2⟩ | h)
    · obtain ⟨e, h3⟩ := hsub j a h1
      exact e (hs.inj j k a _ b h3 hlk h2 (by rw [hvb]; rfl))
    · exact (hX b h).2 hOb
  have hgrow : Grow w w1 (Own L ι) := ⟨hG.os, hG.tape, hG.output, hG.size, fun x hx hn => hG.block x hx (fun e => hn (by rw [e]; exact hOb))⟩
  have hkp : Keeps w w1 (fun x => Own L ι x ∨ X x) (fun x => Own (delO L k) ι x ∨ X x) := fun x hx hu => ⟨hgrow.block x hx (fun h => hu (.inl h)), fun h => hu (h.imp (hown3 x) id)⟩
  refine ⟨_, .p (.sl 1 (strE (Lib.compact l))), delO L k, ι, rfl, hk, ?_, ⟨⟨?_, fun j j' a a' x h1 h2 h3 h4 => hs.inj j j' a a' x (hsub j a h1).2 (hsub j' a' h2).2 h3 h4⟩, hgrow, fun x h => .inl (hown3 x h), fun j _ => rfl, fun j hj => ?_⟩⟩
  · show PRep w1 _ (.sl 1 (strE _)) _
    refine ⟨some ⟨b, 0, none⟩, cap, by rw [strE_len], by rw [strE_len]; omega, fun _ => ⟨b, 0, rfl, Nat.lt_of_lt_of_le hlt hG.size, hnb, repE_sE _ 0 fun j u hu => ?_⟩⟩
    rw [Nat.zero_add]
    have := hown2.cells (g := b) rfl j u hu
    rw [show ({ block := b, off := 0 } : Addr).add j = ⟨b, j, none⟩ from by cases j <;> simp [Addr.add]] at this
    exact this
  · intro j a h1
    obtain ⟨e, h2⟩ := hsub j a h1
    refine ObjOk.mono hkp (fun x hx => hG.block x ((hs.obj j a h2).blk_lt hx) (fun ex => ?_)) (hs.obj j a h2)
    subst ex
    exact e (hs.inj j k a _ x h2 hlk hx (by rw [hvb]; rfl))
  · obtain ⟨a, ha⟩ := Option.isSome_iff_exists.1 hj
    exact .inl (by rw [(hsub j a ha).2]; rfl)
end
end Go.Proofs.YthfpehmbellmcaaGreatDoor

/- Tables of strings: their checks, on both sides. -/
namespace Go.Proofs.YthfpehmbellmcaaGreatDoor
open Go.RowKit
set_option linter.unusedVariables false
set_option linter.unusedSimpArgs false
set_option linter.defProp false


abbrev SRow := List (List UInt8)
abbrev Tab := List SRow
def tbE (t : Tab) : List (List PV) := t.map fun r => [PV.sl 1 (strE r)]
end Go.Proofs.YthfpehmbellmcaaGreatDoor

/- The circle of a text: what the maker makes. -/
namespace Go.Proofs.YthfpehmbellmcaaGreatDoor
set_option linter.unusedVariables false
set_option linter.unusedSimpArgs false
set_option linter.defProp false



section
variable {E : Envt}
abbrev Par := List UInt8 × Int × Int
def p0 : List Par := [([97, 105, 100, 64, 111, 117, 114, 115, 46, 100, 101], 1, 3), ([97, 110, 110, 64, 102, 105, 114, 109, 46, 100, 101], 1, 2), ([108, 97, 119, 64, 111, 117, 114, 115, 46, 100, 101], 1, 1)]
def d0 (y : Int) : List Par := [([102, 105, 114, 109, 46, 100, 101], 1, 4), ([120, 46, 102, 105, 114, 109, 46, 100, 101], y, 2), ([111, 117, 114, 115, 46, 100, 101], 1, 4)]
end
end Go.Proofs.YthfpehmbellmcaaGreatDoor

/- The terms of a circle. -/
namespace Go.Proofs.YthfpehmbellmcaaGreatDoor
set_option linter.unusedVariables false
set_option linter.unusedSimpArgs false
set_option linter.defProp false



section
variable {E : Envt}
end
end Go.Proofs.YthfpehmbellmcaaGreatDoor

/- The body of a mail: what the maker makes. -/
namespace Go.Proofs.YthfpehmbellmcaaGreatDoor
set_option linter.unusedVariables false
set_option linter.unusedSimpArgs false
set_option linter.defProp false



section
variable {E : Envt}
end
end Go.Proofs.YthfpehmbellmcaaGreatDoor

/- The body of a mail, as it may be cut or made large. -/
namespace Go.Proofs.YthfpehmbellmcaaGreatDoor
set_option linter.unusedVariables false
set_option linter.unusedSimpArgs false
set_option linter.defProp false



section
variable {E : Envt}
end
end Go.Proofs.YthfpehmbellmcaaGreatDoor

/- Terms: their checks, on both sides. -/
namespace Go.Proofs.YthfpehmbellmcaaGreatDoor
set_option linter.unusedVariables false
set_option linter.unusedSimpArgs false
set_option linter.defProp false



section
end
end Go.Proofs.YthfpehmbellmcaaGreatDoor

/- Memos, Find and the reference's FindOf. -/
namespace Go.Proofs.YthfpehmbellmcaaGreatDoor
open Go.RowKit
set_option linter.unusedVariables false
set_option linter.unusedSimpArgs false
set_option linter.defProp false




section
variable {E : Envt}
end
end Go.Proofs.YthfpehmbellmcaaGreatDoor

/- Code points: what is covered as a whole (plain). -/
namespace Go.Proofs.YthfpehmbellmcaaGreatDoor
set_option linter.unusedVariables false
set_option linter.unusedSimpArgs false
set_option linter.defProp false

end Go.Proofs.YthfpehmbellmcaaGreatDoor

/- Sets as maps; the ends of words; what is seen and what leaks (plain). -/
namespace Go.Proofs.YthfpehmbellmcaaGreatDoor
set_option linter.unusedVariables false
set_option linter.unusedSimpArgs false
set_option linter.defProp false

end Go.Proofs.YthfpehmbellmcaaGreatDoor

/- Widen and what is covered: the walks. -/
namespace Go.Proofs.YthfpehmbellmcaaGreatDoor
open Go.RowKit
set_option linter.unusedVariables false
set_option linter.unusedSimpArgs false
set_option linter.defProp false

section
variable {P : Program} {E : Envt} {w : World} {U : Nat → Prop}
end



section
variable {E : Envt}
end
end Go.Proofs.YthfpehmbellmcaaGreatDoor

/- slices.Equal of strings. -/
namespace Go.Proofs.YthfpehmbellmcaaGreatDoor
set_option linter.unusedVariables false
set_option linter.unusedSimpArgs false
set_option linter.defProp false
/- slices.Equal[[]string,string] -/
def ir_slices_Equal_string_string_L0 : IC :=
  (.seq (.reg [⟨some 14, .bin .lss (.t 13) (.t 12), none⟩])
    (.seq (.cond (.t 14) .skip (.exit 0))
    (.seq (.block 1 (.seq (.reg [⟨some 15, .mov (.t 13), none⟩,
      ⟨some 5, .mov (.t 15), none⟩])
    (.seq (.drg [⟨some 16, .mov (.t 0), none⟩,
      ⟨some 17, .mov (.t 5), none⟩,
      ⟨some 18, .ixa 1 (.t 16) (.t 17), none⟩,
      ⟨some 19, .ld 1 false (.t 18), none⟩,
      ⟨some 20, .mov (.t 1), none⟩,
      ⟨some 21, .mov (.t 5), none⟩,
      ⟨some 22, .ixa 1 (.t 20) (.t 21), none⟩,
      ⟨some 23, .ld 1 false (.t 22), none⟩,
      ⟨some 24, .bin .neq (.t 19) (.t 23), none⟩])
    (.cond (.t 24) (.seq (.reg [⟨some 4, .mov (.c (.bool false)), none⟩])
    .ret) .skip))))
    (.reg [⟨some 25, .bin .add (.t 13) (.c (.int .i64 1)), none⟩,
      ⟨some 13, .mov (.t 25), none⟩]))))
def ir_slices_Equal_string_string : IC :=
  (.seq (.reg [⟨some 4, .mov (.c (.bool false)), none⟩])
    (.seq (.seq (.reg [⟨some 6, .mov (.t 0), none⟩,
      ⟨some 7, .len (.t 6), none⟩,
      ⟨some 8, .mov (.t 1), none⟩,
      ⟨some 9, .len (.t 8), none⟩,
      ⟨some 10, .bin .neq (.t 7) (.t 9), none⟩])
    (.cond (.t 10) (.seq (.reg [⟨some 4, .mov (.c (.bool false)), none⟩])
    .ret) .skip))
    (.seq (.seq (.reg [⟨some 11, .mov (.t 0), none⟩,
      ⟨some 12, .len (.t 11), none⟩,
      ⟨some 13, .mov (.c (.int .i64 0)), none⟩])
    (.block 0 (.loop ir_slices_Equal_string_string_L0)))
    (.seq (.reg [⟨some 4, .mov (.c (.bool true)), none⟩])
    .ret))))
def rs_slices_Equal_string_string : List IRes := [.t 4]
theorem ck_slices_Equal_string_string : chkF Tryz.prog Tryz.f11 ir_slices_Equal_string_string rs_slices_Equal_string_string 26 = true := by kernel_rfl

section
variable {E : Envt}
theorem EqualT_ok (l m : List (List UInt8)) (hl : l.length ≤ 1000000000) : PCall Tryz.prog E 11 [strs l, strs m] (· = .bool (decide (l = m))) := by
  refine pcallF mixed Tryz.func11 ck_slices_Equal_string_string ?_
  simp only [a0, l0, OS.ao, List.map_cons, List.map_nil, List.length_cons, List.length_nil, List.cons_append, List.nil_append, Nat.reduceSub, Nat.reduceAdd, List.replicate_succ, List.replicate_zero, ir_slices_Equal_string_string, rs_slices_Equal_string_string, ZZ, YY, Ze, ite_true, ite_false, forall_const, reduceCtorEq, Nat.reduceAdd, Nat.reduceMul, Nat.reduceLeDiff, Nat.reduceLT, Nat.reduceEqDiff]
  simp only [strs, ZZ, YY, Ze, ite_true, ite_false, forall_const, reduceCtorEq, Nat.reduceAdd, Nat.reduceMul, Nat.reduceLeDiff, Nat.reduceLT, Nat.reduceEqDiff]
  have hln : (l.map fun x => [PV.str x]).length = l.length := by simp
  have hlm : (m.map fun x => [PV.str x]).length = m.length := by simp
  have hget : ∀ k x, l[k]? = some x → (l.map fun x => [PV.str x]).getD k [] = [.str x] := fun k p hp => getD_map hp
  have hgem : ∀ k x, m[k]? = some x → (m.map fun x => [PV.str x]).getD k [] = [.str x] := fun k p hp => getD_map hp
  generalize (l.map fun x => [PV.str x]) = es at *
  generalize (m.map fun x => [PV.str x]) = fs at *
  simp only [ZZ, YY, Ze, ite_true, ite_false, forall_const, reduceCtorEq, Nat.reduceAdd, Nat.reduceMul, Nat.reduceLeDiff, Nat.reduceLT, Nat.reduceEqDiff, hln, hlm]
  refine br ?_ ?_
  · intro h
    have : ¬ l = m := by rintro rfl; simp at h
    simp only [ZZ, YY, Ze, ite_true, ite_false, forall_const, reduceCtorEq, Nat.reduceAdd, Nat.reduceMul, Nat.reduceLeDiff, Nat.reduceLT, Nat.reduceEqDiff]
    simp [this]
  intro h
  have hlen : l.length = m.length := by have : (l.length : Int) = m.length := by simpa using h
                                        omega
  simp only [ZZ, YY, Ze, ite_true, ite_false, forall_const, reduceCtorEq, Nat.reduceAdd, Nat.reduceMul, Nat.reduceLeDiff, Nat.reduceLT, Nat.reduceEqDiff]
  refine loop_intro (fun n fr L => ∃ (k : Nat), k ≤ l.length ∧ n = l.length - k ∧ (l.take k = m.take k) ∧ fr = [.p (.sl 1 es), .p (.sl 1 fs), .any, .any, .any, .any, .any, .any, .any, .any, .any, .any, .p (int (l.length : Nat)), .p (int (k : Nat)), .any, .any, .any, .any, .any, .any, .any, .any, .any, .any, .any, .any] ∧ L = []) (l.length) [.p (.sl 1 es), .p (.sl 1 fs), .any, .any, .any, .any, .any, .any, .any, .any, .any, .any, .p (int (l.length : Nat)), .p (int (0 : Nat)), .any, .any, .any, .any, .any, .any, .any, .any, .any, .any, .any, .any] [] (by simp only [hln, ZZ, YY, Ze, ite_true, ite_false, forall_const, reduceCtorEq, Nat.reduceAdd, Nat.reduceMul, Nat.reduceLeDiff, Nat.reduceLT, Nat.reduceEqDiff]; try trivial) (by (simp only [ZZ, YY, Ze, ite_true, ite_false, forall_const, reduceCtorEq, Nat.reduceAdd, Nat.reduceMul, Nat.reduceLeDiff, Nat.reduceLT, Nat.reduceEqDiff]; try trivial)) ⟨0, by omega, by omega, by simp, rfl, rfl⟩ ?_
  rintro n fr L ⟨k, hk, rfl, hf, rfl, rfl⟩
  simp only [ir_slices_Equal_string_string_L0, ZZ, YY, Ze, ite_true, ite_false, forall_const, reduceCtorEq, Nat.reduceAdd, Nat.reduceMul, Nat.reduceLeDiff, Nat.reduceLT, Nat.reduceEqDiff]
  refine br ?_ ?_
  · intro h
    have hlt : k < l.length := by have := of_decide_eq_true h; omega
    obtain ⟨x, hx⟩ : ∃ x, l[k]? = some x := ⟨_, List.getElem?_eq_getElem hlt⟩
    obtain ⟨y, hy⟩ : ∃ y, m[k]? = some y := ⟨_, List.getElem?_eq_getElem (by omega)⟩
    have hg := hget k x hx
    have hg2 := hgem k y hy
    simp only [ZZ, YY, Ze, ite_true, ite_false, forall_const, reduceCtorEq, Nat.reduceAdd, Nat.reduceMul, Nat.reduceLeDiff, Nat.reduceLT, Nat.reduceEqDiff]
    refine drg0 ?_
    simp only [ZZ, YY, Ze, ite_true, ite_false, forall_const, reduceCtorEq, Nat.reduceAdd, Nat.reduceMul, Nat.reduceLeDiff, Nat.reduceLT, Nat.reduceEqDiff, hg, hg2, hln, hlm]
    ((repeat' (with_reducible apply And.intro)) <;> try ((first | first | assumption | trivial | exact (fun hq => by rw [hq]; rfl) | exact i64_of (by omega) (by omega) | omega | (simp; done) | (simp; omega) | (intro hsc; have hs0 := hsc; (try have hsd := of_decide_eq_true hsc); (try simp only [Bool.not_eq_true', Bool.or_eq_false_iff, Bool.and_eq_true, Bool.or_eq_true, decide_eq_true_eq, decide_eq_false_iff_not] at hsc); (repeat' (with_reducible apply And.intro)) <;> (first | assumption | trivial | exact (fun hq => by rw [hq]; rfl) | exact i64_of (by omega) (by omega) | omega | (simp; done) | (simp; omega) | (intro hse; simp [hse, hs0]; done) | (intro hse; simp only [hse, hs0, Bool.true_and, Bool.and_true, Bool.not_false, Bool.not_true, Bool.and_self]; done))))))
    refine br ?_ ?_
    · intro h2
      have : ¬ l = m := by
        rintro rfl
        rw [hx] at hy
        cases hy
        simp at h2
      simp only [ZZ, YY, Ze, ite_true, ite_false, forall_const, reduceCtorEq, Nat.reduceAdd, Nat.reduceMul, Nat.reduceLeDiff, Nat.reduceLT, Nat.reduceEqDiff]
      simp [this]
    · intro h2
      have hxy : x = y := by simpa using h2
      simp only [ZZ, YY, Ze, ite_true, ite_false, forall_const, reduceCtorEq, Nat.reduceAdd, Nat.reduceMul, Nat.reduceLeDiff, Nat.reduceLT, Nat.reduceEqDiff]
      ((repeat' (with_reducible apply And.intro)) <;> try ((first | first | assumption | trivial | exact (fun hq => by rw [hq]; rfl) | exact i64_of (by omega) (by omega) | omega | (simp; done) | (simp; omega) | (intro hsc; have hs0 := hsc; (try have hsd := of_decide_eq_true hsc); (try simp only [Bool.not_eq_true', Bool.or_eq_false_iff, Bool.and_eq_true, Bool.or_eq_true, decide_eq_true_eq, decide_eq_false_iff_not] at hsc); (repeat' (with_reducible apply And.intro)) <;> (first | assumption | trivial | exact (fun hq => by rw [hq]; rfl) | exact i64_of (by omega) (by omega) | omega | (simp; done) | (simp; omega) | (intro hse; simp [hse, hs0]; done) | (intro hse; simp only [hse, hs0, Bool.true_and, Bool.and_true, Bool.not_false, Bool.not_true, Bool.and_self]; done))))))
      refine end_round (l.length - (k + 1)) [.p (.sl 1 es), .p (.sl 1 fs), .any, .any, .any, .any, .any, .any, .any, .any, .any, .any, .p (int (l.length : Nat)), .p (int ((k + 1) : Nat)), .any, .any, .any, .any, .any, .any, .any, .any, .any, .any, .any, .any] [] (by omega) (by (simp only [ZZ, YY, Ze, ite_true, ite_false, forall_const, reduceCtorEq, Nat.reduceAdd, Nat.reduceMul, Nat.reduceLeDiff, Nat.reduceLT, Nat.reduceEqDiff]; try trivial)) (by (simp only [ZZ, YY, Ze, ite_true, ite_false, forall_const, reduceCtorEq, Nat.reduceAdd, Nat.reduceMul, Nat.reduceLeDiff, Nat.reduceLT, Nat.reduceEqDiff]; try trivial)) ⟨k + 1, by omega, rfl, by rw [List.take_add_one, List.take_add_one, hf, hx, hy, hxy], rfl, rfl⟩
  · intro h
    have hge : l.length ≤ k := by have := of_decide_eq_false h; omega
    simp only [ZZ, YY, Ze, ite_true, ite_false, forall_const, reduceCtorEq, Nat.reduceAdd, Nat.reduceMul, Nat.reduceLeDiff, Nat.reduceLT, Nat.reduceEqDiff]
    rw [List.take_of_length_le hge, List.take_of_length_le (by omega)] at hf
    simp [hf]
end
end Go.Proofs.YthfpehmbellmcaaGreatDoor

/- Terms: their checks, on both sides; the terms of a string. -/
namespace Go.Proofs.YthfpehmbellmcaaGreatDoor
open Go.RowKit
set_option linter.unusedVariables false
set_option linter.unusedSimpArgs false
set_option linter.defProp false



def joinF (l : List (List UInt8)) : List UInt8 := Lib.join l [32]
theorem JoinF_ok {E : Envt} (l : List (List UInt8)) (hl : l.length ≤ 1000000000) (hlen : (joinF l).length ≤ 1000000000) : PCall Tryz.prog E 69 [.sl 1 (strE l), .str [32]] (· = .str (joinF l)) := Join_ok l [32] hl hlen
section
end
end Go.Proofs.YthfpehmbellmcaaGreatDoor

/- Pieces of strings between bytes, in plain Lean. -/
namespace Go.Proofs.YthfpehmbellmcaaGreatDoor
open Go.RowKit
set_option linter.unusedVariables false
set_option linter.unusedSimpArgs false
set_option linter.defProp false

theorem joinF_cons (x y : List UInt8) (r : List (List UInt8)) : joinF (x :: y :: r) = x ++ 32 :: joinF (y :: r) := by
  unfold joinF
  rw [Lib.join_cons, Lib.join_cons]
  simp [Lib.joinTail]
theorem joinF_wgt : ∀ (l : List (List UInt8)), (joinF l).length ≤ wgt l - 1
  | [] => by simp [joinF, Lib.join_nil]
  | [x] => by simp [joinF, Lib.join_one, wgt]
  | x :: y :: r => by
    have := joinF_wgt (y :: r)
    rw [joinF_cons]
    simp only [wgt, List.length_append, List.length_cons] at this ⊢
    omega
end Go.Proofs.YthfpehmbellmcaaGreatDoor

/- slices.DeleteFunc of the strings that a call owns; strings without more blanks than one. -/
namespace Go.Proofs.YthfpehmbellmcaaGreatDoor
open Go.Shelf Go.RowKit Go.Lib Go.Sort
set_option linter.unusedVariables false
set_option linter.unusedSimpArgs false
set_option linter.defProp false

theorem sE_one : OneCell sE := fun _ => rfl
/-- A split as a row of one's own. -/
theorem SplitR_ok (s : List UInt8) (c : UInt8) (hs : s.length ≤ 1000000000) : FCall Tryz.prog E0 87 [.str s, .str [c]] tStr 1 (· = strE (splF s c)) := by
  intro w U vs v0 hU hE hEb hA _
  obtain ⟨_, m, hm⟩ := hE
  simp only [PRepL, PRep] at hA
  obtain ⟨v, r, rfl, rfl, v2, r2, rfl, rfl, rfl⟩ := hA
  refine (Any.strings_Split Tryz.laySplit splInfo ⟨s.toArray⟩ ⟨#[c]⟩ m w (by rw [ba_size]; omega) hm (Nat.le_refl 1)).mono ?_
  rintro e w' ⟨rfl, rfl⟩
  have hl := Lib.splitB_all ⟨#[c]⟩ (Nat.le_refl 1) 0 _ (⟨s.toArray⟩ : ByteArray) rfl
  have hle := Lib.countB_le ⟨#[c]⟩ (Nat.le_refl 1) (⟨s.toArray⟩ : ByteArray).size ⟨s.toArray⟩ (Nat.le_refl _)
  rw [ba_size] at hle
  have hln : (strE (splF s c)).length = Lib.countB ⟨s.toArray⟩ ⟨#[c]⟩ + 1 := by simp [splF, hl, strE]
  have hv : ((Lib.splitB ⟨#[c]⟩ 0 (Lib.countB ⟨s.toArray⟩ ⟨#[c]⟩) ⟨s.toArray⟩).map Value.string) = (splF s c).map sE := by simp [splF, sE, Function.comp_def]
  refine ⟨_, .fr (strE (splF s c)) tStr 1, noOS, rfl, ⟨_, rfl, rfl⟩, ⟨(splF s c).map sE, ⟨by rw [hln]; simp [splF, hl], .inr ⟨w.heap.size, Lib.countB ⟨s.toArray⟩ ⟨#[c]⟩ + 1, _, (0, 0), by rw [hln], heap_alloc_new w _, by omega, ?_, ?_, ?_, .inl rfl⟩⟩, ?_, strE_vals.2 rfl, ?_, ?_⟩, ⟨rfl, rfl, rfl, by simp, fun k hk _ => Lib.alloc_old w _ k hk⟩⟩
  · unfold maxLen; omega
  · simp [hl]
  · rw [hv]
    simp only [Nat.mul_one]
    exact List.take_of_length_le (by simp [strE])
  · intro u hu
    simp only [List.mem_map] at hu
    obtain ⟨x, _, rfl⟩ := hu
    rfl
  · intro x hx
    simp only [strE, List.mem_map] at hx
    obtain ⟨y, _, rfl⟩ := hx
    rfl
  · intro b hb
    simp [blk] at hb
    omega

theorem sq1_any (x : List UInt8) (w : World) : Calls Tryz.prog 157 #[sE x] w fun e w' => e = .returned (.bool x.isEmpty) ∧ w' = w := by
  unfold sE
  go_enter Tryz.func157, Tryz.ntmps157
  go_wp2
  go_ret
  exact ⟨rfl, rfl⟩
theorem str_zero : (Tryz.prog.info? 9).map (fun i => (i.zero, i.size)) = some (some (.string ByteArray.empty), 1) := by kernel_rfl
section
variable {E : Envt} {L : Objs} {k : Key} {fr : List AV} {d : Option Nat} {is : List IOper} {Y : List PV} {K : List AV → Objs → Prop}
/-- Some elements of an owned row are struck out: what is left is plain, the row is gone. -/
theorem useDel (i : Nat) (l : List (List UInt8)) (g : FuncId) (p : List UInt8 → Bool) (hl : l ≠ []) (hlen : l.length ≤ 1000000000) (hlk : Zas L k = some (.row (strE l) tStr 1 true)) (hfn : fnB Tryz.prog g = true) (hg : ∀ x w, Calls Tryz.prog g #[sE x] w fun e w' => e = .returned (.bool (p x)) ∧ w' = w)
    (hk : awpOps Tryz.prog E Y is (Zg (fr.map (·.kill (.l i))) d (.p (strs (l.filter fun x => !p x)))) (delO L k) K) : CallOp Tryz.prog E 156 [.row k, .fn g []] L d fr (contO Tryz.prog E Y is K) := by
  refine .inr (.inr ⟨i, ?_⟩)
  intro w X ι vs hs hX hE hEb hA
  simp only [ARepL, ARep] at hA
  obtain ⟨v1, r1, rfl, ⟨rfl, A, n, c, hv⟩, v2, r2, rfl, rfl, rfl⟩ := hA
  obtain ⟨us, u1, u2, u3, u4⟩ := hs.obj k _ hlk
  rw [strE_vals] at u3
  subst u3
  have hown := u1.owns
  rw [strE_len] at hown
  have hne : ι k ≠ .slice none 0 0 := by
    intro e
    rcases hown.2 with ⟨_, h0⟩ | ⟨q, cap, cur, h1, _⟩
    · exact hl (List.eq_nil_of_length_eq_zero h0)
    · rw [e] at h1; cases h1
  obtain ⟨b, cap, hvb, _, hlt, hnc, hcm, _, hH⟩ := Lib.holds_of_ownsRow (enc := sE) hown hne
  rw [hvb] at hown
  have hOb : Own L ι b := ⟨k, _, hlk, by rw [hvb]; rfl⟩
  have hgv : ∀ (W : World) (x : List UInt8), FnGives Tryz.prog g #[] #[sE x] (.bool (p x)) W := fun W x => (hg x W).mono fun e w' ⟨h1, h2⟩ => ⟨h1, 0, by rw [h2]; rfl⟩
  have hcall := AnyE.slices_DeleteFunc Tryz.layDelStr sE sE_one p g #[] (fun args w => run_enter hfn args w) [] (zero_of_info str_zero).1 b 0 cap l.toArray w (fun W x _ => hgv W x) (fun _ _ _ x _ => hgv _ x) hH (by simp; omega) (by simpa using hnc)
  simp only [List.size_toArray, List.toList_toArray] at hcall
  rw [hvb]
  refine hcall.mono ?_
  rintro e w' ⟨rfl, q, rfl⟩
  have hle : (l.filter fun x => !p x).length ≤ l.length := List.length_filter_le _ _
  have hown2 := Lib.ownsRow_putRow (q := q) (k := (l.filter fun x => !p x).length) (ys := (l.filter fun x => !p x) ++ List.replicate (l.length - (l.filter fun x => !p x).length) []) hown (by simp; omega) hle
  rw [List.take_left' rfl] at hown2
  generalize hW : putRow sE (Sort.ahead w q) b 0 ((l.filter fun x => !p x) ++ List.replicate (l.length - (l.filter fun x => !p x).length) []).toArray = w1 at hown2 ⊢
  have hG : Grow w w1 (fun x => x = b) := by
    rw [← hW]
    refine ⟨rfl, rfl, rfl, by simp [putRow, mapBlock, Sort.ahead], fun x hx hn => ?_⟩
    simp [putRow, mapBlock, Sort.ahead, Array.getElem?_modify, show b ≠ x from fun e => hn e.symm]
  have hsub : ∀ j a, Zas (delO L k) j = some a → j ≠ k ∧ Zas L j = some a := by
    intro j a hj
    rw [look_delO] at hj
    by_cases e : j = k
    · rw [if_pos e] at hj; cases hj
    · rw [if_neg e] at hj; exact ⟨e, hj⟩
  have hown3 : ∀ x, Own (delO L k) ι x → Own L ι x := fun x ⟨j, a, h1, h2⟩ => ⟨j, a, (hsub j a h1).2, h2⟩
  have hnb : ¬ (Own (delO L k) ι b ∨ X b) := by
    rintro (⟨j, a, h1, h2⟩ | h)
    · obtain ⟨e, h3⟩ := hsub j a h1
      exact e (hs.inj j k a _ b h3 hlk h2 (by rw [hvb]; rfl))
    · exact (hX b h).2 hOb
  have hgrow : Grow w w1 (Own L ι) := ⟨hG.os, hG.tape, hG.output, hG.size, fun x hx hn => hG.block x hx (fun e => hn (by rw [e]; exact hOb))⟩
  have hkp : Keeps w w1 (fun x => Own L ι x ∨ X x) (fun x => Own (delO L k) ι x ∨ X x) := fun x hx hu => ⟨hgrow.block x hx (fun h => hu (.inl h)), fun h => hu (h.imp (hown3 x) id)⟩
  refine ⟨_, .p (strs (l.filter fun x => !p x)), delO L k, ι, rfl, hk, ?_, ⟨⟨?_, fun j j' a a' x h1 h2 h3 h4 => hs.inj j j' a a' x (hsub j a h1).2 (hsub j' a' h2).2 h3 h4⟩, hgrow, fun x h => .inl (hown3 x h), fun j _ => rfl, fun j hj => ?_⟩⟩
  · rw [strs_eq]
    show PRep w1 _ (.sl 1 (strE _)) _
    refine ⟨some ⟨b, 0, none⟩, cap, by rw [strE_len], by rw [strE_len]; omega, fun _ => ⟨b, 0, rfl, Nat.lt_of_lt_of_le hlt hG.size, hnb, repE_sE _ 0 fun j u hu => ?_⟩⟩
    rw [Nat.zero_add]
    have := hown2.cells (g := b) rfl j u hu
    rw [show ({ block := b, off := 0 } : Addr).add j = ⟨b, j, none⟩ from by cases j <;> simp [Addr.add]] at this
    exact this
  · intro j a h1
    obtain ⟨e, h2⟩ := hsub j a h1
    refine ObjOk.mono hkp (fun x hx => hG.block x ((hs.obj j a h2).blk_lt hx) (fun ex => ?_)) (hs.obj j a h2)
    subst ex
    exact e (hs.inj j k a _ x h2 hlk hx (by rw [hvb]; rfl))
  · obtain ⟨a, ha⟩ := Option.isSome_iff_exists.1 hj
    exact .inl (by rw [(hsub j a ha).2]; rfl)
end
/- paperchase/chaseref1.squeezed -/
def ir_chaseref1_squeezed : IC :=
  (.seq (.reg [⟨some 2, .mov (.c (.str [])), none⟩])
    (.seq (.reg [⟨some 3, .mov (.t 0), none⟩,
      ⟨some 4, .call 87 [.t 3, .c (.str [32])], none⟩,
      ⟨some 5, .call 156 [.t 4, .f 157], none⟩,
      ⟨some 6, .call 69 [.t 5, .c (.str [32])], none⟩,
      ⟨some 2, .mov (.t 6), none⟩])
    .ret))
def rs_chaseref1_squeezed : List IRes := [.t 2]
theorem ck_chaseref1_squeezed : chkF Tryz.prog Tryz.f118 ir_chaseref1_squeezed rs_chaseref1_squeezed 7 = true := by kernel_rfl

/-- The words of a string between blanks. -/
def bits (s : List UInt8) : List (List UInt8) := (splF s 32).filter fun x => !x.isEmpty
def sqF (s : List UInt8) : List UInt8 := joinF (bits s)
theorem splF_ne (s : List UInt8) (c : UInt8) : splF s c ≠ [] := by
  have hl := Lib.splitB_all ⟨#[c]⟩ (Nat.le_refl 1) 0 _ (⟨s.toArray⟩ : ByteArray) rfl
  intro h
  have := congrArg List.length h
  simp [splF, hl] at this
theorem bits_bd (s : List UInt8) (hs : s.length ≤ 100000000) : (bits s).length ≤ 100000001 ∧ (joinF (bits s)).length ≤ 900000000 := by
  have h1 : wgt (bits s) ≤ s.length + 1 := by rw [← sp_wgt 32 s, ← splF_sp]; exact wgt_filter _ _
  have h2 := joinF_wgt (bits s)
  have h3 := wgt_len (bits s)
  omega
theorem squeezed_ok (s : List UInt8) (hs : s.length ≤ 100000000) : PCall Tryz.prog E0 118 [.str s] (· = .str (sqF s)) := by
  refine pcallF mixed Tryz.func118 ck_chaseref1_squeezed ?_
  simp only [a0, l0, OS.ao, List.map_cons, List.map_nil, List.length_cons, List.length_nil, List.cons_append, List.nil_append, Nat.reduceSub, Nat.reduceAdd, List.replicate_succ, List.replicate_zero, ir_chaseref1_squeezed, rs_chaseref1_squeezed, ZZ, YY, Ze, ite_true, ite_false, forall_const, reduceCtorEq, Nat.reduceAdd, Nat.reduceMul, Nat.reduceLeDiff, Nat.reduceLT, Nat.reduceEqDiff]
  refine useF (SplitR_ok s 32 (by omega)) rfl rfl ?_
  rintro es rfl
  simp only [ZZ, YY, Ze, ite_true, ite_false, forall_const, reduceCtorEq, Nat.reduceAdd, Nat.reduceMul, Nat.reduceLeDiff, Nat.reduceLT, Nat.reduceEqDiff]
  refine useDel 1000 (splF s 32) 157 List.isEmpty (splF_ne s 32) (by have := splF_len s 32; omega) rfl (by kernel_rfl) sq1_any ?_
  rw [strs_eq]
  simp only [ZZ, YY, Ze, ite_true, ite_false, forall_const, reduceCtorEq, Nat.reduceAdd, Nat.reduceMul, Nat.reduceLeDiff, Nat.reduceLT, Nat.reduceEqDiff]
  refine use1 (JoinF_ok (bits s) (by have := bits_bd s hs; omega) (by have := bits_bd s hs; omega)) rfl (.inl rfl) ?_
  simp only [ZZ, YY, Ze, ite_true, ite_false, forall_const, reduceCtorEq, Nat.reduceAdd, Nat.reduceMul, Nat.reduceLeDiff, Nat.reduceLT, Nat.reduceEqDiff]
  rfl
end Go.Proofs.YthfpehmbellmcaaGreatDoor

/- Paragraphs, on both sides: the last one is live while lines are put to it. -/
namespace Go.Proofs.YthfpehmbellmcaaGreatDoor
open Go.RowKit
set_option linter.unusedVariables false
set_option linter.unusedSimpArgs false
set_option linter.defProp false

/- paperchase/near.paragraphs -/
def ir_near_paragraphs_L0 : IC :=
  (.seq (.reg [⟨some 11, .bin .lss (.t 10) (.t 9), none⟩])
    (.seq (.cond (.t 11) .skip (.exit 0))
    (.seq (.block 1 (.seq (.reg [⟨some 12, .ixa 1 (.t 8) (.t 10), none⟩,
      ⟨some 13, .ld 1 false (.t 12), none⟩,
      ⟨some 6, .mov (.t 13), none⟩])
    (.seq (.seq (.reg [⟨some 14, .mov (.t 6), none⟩,
      ⟨some 15, .call 42 [.t 14, .c (.str [32])], none⟩,
      ⟨some 16, .bin .eql (.t 15) (.c (.str [])), none⟩])
    (.cond (.t 16) (.seq (.reg [⟨some 4, .mov (.c (.bool false)), none⟩])
    (.exit 1)) .skip))
    (.seq (.seq (.reg [⟨some 17, .mov (.t 4), none⟩,
      ⟨some 18, .not (.t 17), none⟩])
    (.cond (.t 18) (.seq (.reg [⟨some 19, .mov (.t 3), none⟩,
      ⟨some 20, .bsr 27 1 [.c (.nl 1)], none⟩,
      ⟨some 21, .app 27 1 24 (.t 19) (.t 20), none⟩,
      ⟨some 3, .mov (.t 21), none⟩])
    (.reg [⟨some 4, .mov (.c (.bool true)), none⟩])) .skip))
    (.cut (.reg [⟨some 22, .mov (.t 3), none⟩,
      ⟨some 23, .mov (.t 3), none⟩,
      ⟨some 24, .len (.t 23), none⟩,
      ⟨some 25, .bin .sub (.t 24) (.c (.int .i64 1)), none⟩,
      ⟨some 26, .mov (.t 3), none⟩,
      ⟨some 27, .mov (.t 3), none⟩,
      ⟨some 28, .len (.t 27), none⟩,
      ⟨some 29, .bin .sub (.t 28) (.c (.int .i64 1)), none⟩,
      ⟨some 30, .ixa 1 (.t 26) (.t 29), none⟩,
      ⟨some 31, .ld 1 false (.t 30), none⟩,
      ⟨some 32, .mov (.t 6), none⟩,
      ⟨some 33, .bsl 1 [.t 32], none⟩,
      ⟨some 34, .app 9 1 16 (.t 31) (.t 33), none⟩,
      ⟨some 35, .ixa 1 (.t 22) (.t 25), none⟩,
      ⟨none, .st 1 (.t 35) (.t 34), none⟩]))))))
    (.cut (.reg [⟨some 36, .bin .add (.t 10) (.c (.int .i64 1)), none⟩,
      ⟨some 10, .mov (.t 36), none⟩])))))
def ir_near_paragraphs : IC :=
  (.seq (.reg [⟨some 2, .mov (.c (.nl 1)), none⟩])
    (.seq (.reg [⟨some 3, .nilr 27 1, none⟩])
    (.seq (.reg [⟨some 4, .mov (.c (.bool false)), none⟩])
    (.seq (.seq (.reg [⟨some 7, .mov (.t 0), none⟩,
      ⟨some 8, .call 87 [.t 7, .c (.str [10])], none⟩,
      ⟨some 9, .len (.t 8), none⟩,
      ⟨some 10, .mov (.c (.int .i64 0)), none⟩])
    (.block 0 (.loop ir_near_paragraphs_L0)))
    (.seq (.reg [⟨some 37, .mov (.t 3), none⟩,
      ⟨some 2, .mov (.t 37), none⟩])
    .ret)))))
def rs_near_paragraphs : List IRes := [.t 2]
theorem ck_near_paragraphs : chkF Tryz.prog Tryz.f59 ir_near_paragraphs rs_near_paragraphs 38 = true := by kernel_rfl
/- paperchase/chaseref1.blocks -/
def ir_chaseref1_blocks_L0 : IC :=
  (.seq (.reg [⟨some 11, .bin .lss (.t 10) (.t 9), none⟩])
    (.seq (.cond (.t 11) .skip (.exit 0))
    (.seq (.block 1 (.seq (.reg [⟨some 12, .ixa 1 (.t 8) (.t 10), none⟩,
      ⟨some 13, .ld 1 false (.t 12), none⟩,
      ⟨some 6, .mov (.t 13), none⟩])
    (.seq (.seq (.reg [⟨some 14, .mov (.t 6), none⟩,
      ⟨some 15, .call 118 [.t 14], none⟩,
      ⟨some 16, .bin .eql (.t 15) (.c (.str [])), none⟩])
    (.cond (.t 16) (.seq (.reg [⟨some 4, .mov (.c (.bool false)), none⟩])
    (.exit 1)) .skip))
    (.seq (.seq (.reg [⟨some 17, .mov (.t 4), none⟩,
      ⟨some 18, .not (.t 17), none⟩])
    (.cond (.t 18) (.reg [⟨some 19, .mov (.t 3), none⟩,
      ⟨some 20, .bsr 27 1 [.c (.nl 1)], none⟩,
      ⟨some 21, .app 27 1 24 (.t 19) (.t 20), none⟩,
      ⟨some 3, .mov (.t 21), none⟩]) .skip))
    (.cut (.seq (.reg [⟨some 4, .mov (.c (.bool true)), none⟩])
    (.reg [⟨some 22, .mov (.t 3), none⟩,
      ⟨some 23, .mov (.t 3), none⟩,
      ⟨some 24, .len (.t 23), none⟩,
      ⟨some 25, .bin .sub (.t 24) (.c (.int .i64 1)), none⟩,
      ⟨some 26, .mov (.t 3), none⟩,
      ⟨some 27, .mov (.t 3), none⟩,
      ⟨some 28, .len (.t 27), none⟩,
      ⟨some 29, .bin .sub (.t 28) (.c (.int .i64 1)), none⟩,
      ⟨some 30, .ixa 1 (.t 26) (.t 29), none⟩,
      ⟨some 31, .ld 1 false (.t 30), none⟩,
      ⟨some 32, .mov (.t 6), none⟩,
      ⟨some 33, .bsl 1 [.t 32], none⟩,
      ⟨some 34, .app 9 1 16 (.t 31) (.t 33), none⟩,
      ⟨some 35, .ixa 1 (.t 22) (.t 25), none⟩,
      ⟨none, .st 1 (.t 35) (.t 34), none⟩])))))))
    (.cut (.reg [⟨some 36, .bin .add (.t 10) (.c (.int .i64 1)), none⟩,
      ⟨some 10, .mov (.t 36), none⟩])))))
def ir_chaseref1_blocks : IC :=
  (.seq (.reg [⟨some 2, .mov (.c (.nl 1)), none⟩])
    (.seq (.reg [⟨some 3, .nilr 27 1, none⟩])
    (.seq (.reg [⟨some 4, .mov (.c (.bool false)), none⟩])
    (.seq (.seq (.reg [⟨some 7, .mov (.t 0), none⟩,
      ⟨some 8, .call 87 [.t 7, .c (.str [10])], none⟩,
      ⟨some 9, .len (.t 8), none⟩,
      ⟨some 10, .mov (.c (.int .i64 0)), none⟩])
    (.block 0 (.loop ir_chaseref1_blocks_L0)))
    (.seq (.reg [⟨some 37, .mov (.t 3), none⟩,
      ⟨some 2, .mov (.t 37), none⟩])
    .ret)))))
def rs_chaseref1_blocks : List IRes := [.t 2]
theorem ck_chaseref1_blocks : chkF Tryz.prog Tryz.f64 ir_chaseref1_blocks rs_chaseref1_blocks 38 = true := by kernel_rfl

/-- Whether a line has nothing but blanks. -/
def blankF (s : List UInt8) : Bool := s.all fun c => ([32] : List UInt8).contains c
theorem blank_trim (s : List UInt8) : decide (Lib.trimS s [32] = []) = blankF s := madeF_all s [32]
theorem sp_blank : ∀ s : List UInt8, (sp 32 s).all (fun x => x.isEmpty) = blankF s
  | [] => rfl
  | x :: s => by
    have ih := sp_blank s
    rw [sp]
    unfold blankF at ih ⊢
    rw [List.all_cons]
    by_cases h : x = 32
    · subst h
      rw [if_pos rfl, List.all_cons, ih]
      rfl
    · rw [if_neg h, List.all_cons]
      have : ([32] : List UInt8).contains x = false := by simp [h]
      rw [this]
      rfl
theorem join_nil {l : List (List UInt8)} (h : ∀ x ∈ l, x ≠ []) : Lib.join l [32] = [] ↔ l = [] := by
  cases l with
  | nil => simp [Lib.join]
  | cons x r =>
    have hx := h x (by simp)
    constructor
    · intro e
      exfalso
      cases r with
      | nil => simp [Lib.join] at e; exact hx e
      | cons y r => simp [Lib.join] at e
    · intro e; cases e
theorem blank_sq (s : List UInt8) : decide (sqF s = []) = blankF s := by
  rw [← sp_blank, Bool.eq_iff_iff, decide_eq_true_iff, sqF, joinF, join_nil]
  · unfold bits
    rw [splF_sp, List.filter_eq_nil_iff]
    simp
  · intro x hx e
    subst e
    unfold bits at hx
    simp at hx
/-- The paragraphs, and whether the last one goes on. -/
def paS (st : Tab × Bool) (s : List UInt8) : Tab × Bool := if blankF s then (st.1, false) else if st.2 then (st.1.dropLast ++ [st.1.getLastD [] ++ [s]], true) else (st.1 ++ [[s]], true)
def paK (ls : SRow) : Nat → Tab × Bool
  | 0 => ([], false)
  | k + 1 => paS (paK ls k) (ls.getD k [])
def parF (t : List UInt8) : Tab := (paK (splF t 10) (splF t 10).length).1
theorem paK_len (ls : SRow) : ∀ k, (paK ls k).1.length ≤ k ∧ ((paK ls k).2 = true → (paK ls k).1 ≠ [])
  | 0 => by simp [paK]
  | k + 1 => by
    have ih := paK_len ls k
    rw [paK, paS]
    split
    · exact ⟨by simp only; omega, by simp⟩
    · split
      · rename_i h
        have := ih.2 h
        have hl : (paK ls k).1.length ≠ 0 := by simpa using this
        refine ⟨by simp; omega, by simp⟩
      · exact ⟨by simp; omega, by simp⟩
theorem tbA_plain (T : Tab) : Zbb ((tbE T).map (·.map AV.p)) = some (tbE T) := by
  induction T with
  | nil => rfl
  | cons r T ih =>
    simp only [tbE, List.map_cons] at ih ⊢
    rw [Zbb, ih]
    rfl
abbrev tStrsR : Nat := 27
/-- The objects: the table with its last paragraph live, or all of it plain. -/
def ParI (L : Objs) (T : Tab) (op : Bool) : Prop :=
  if op = true then ∃ I cur, T = I ++ [cur] ∧ Zas L (.l 3) = some (.rowv ((tbE I).map (·.map AV.p) ++ [[.row (.l 1000)]]) tStrsR 1) ∧ Zas L (.l 1000) = some (.row (strE cur) tStr 1 true)
  else Zas L (.l 3) = some (.rowv ((tbE T).map (·.map AV.p)) tStrsR 1)
theorem par_close {E : Envt} {fr : List AV} {L : Objs} {T : Tab} {op : Bool} (hfr : ∀ y, fr.map (·.thaw (.l 1000) y) = fr) (h : ParI L T op) : ∃ L', ReOk E fr L fr L' ∧ ParI L' T false := by
  cases op
  · exact ⟨L, ReOk.refl, h⟩
  · unfold ParI at h
    rw [if_pos rfl] at h
    obtain ⟨I, cur, rfl, h1, h2⟩ := h
    have hr := re_row (E := E) (fr := fr) h2
    rw [hfr] at hr
    refine ⟨_, hr, ?_⟩
    unfold ParI
    rw [if_neg (by simp), look_thawO, if_neg (by simp), h1, Option.map_some, AO.thaw]
    congr 2
    simp [tbE, AV.thaw]
theorem par_end {E : Envt} {fr : List AV} {L : Objs} {T : Tab} {op : Bool} (hfr : ∀ y, fr.map (·.thaw (.l 1000) y) = fr) (h : ParI L T op) : ∃ L', ReOk E fr L fr L' ∧ Zas L' (.l 3) = some (.row (tbE T) tStrsR 1 true) := by
  obtain ⟨L1, r1, h1⟩ := par_close (E := E) hfr h
  unfold ParI at h1
  rw [if_neg (by simp)] at h1
  exact ⟨_, ReOk.trans r1 (re_plain h1 (tbA_plain T)), by rw [look_putO, if_pos rfl]⟩
end Go.Proofs.YthfpehmbellmcaaGreatDoor
