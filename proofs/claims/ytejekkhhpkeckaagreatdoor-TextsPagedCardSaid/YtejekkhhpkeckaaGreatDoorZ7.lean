
/- Own texts, put together: G1 T8 B2 B3 B4 B5 B6 B7 B8 B9 B10 B12 B13 C1 C2 C3 C6 N5 N4 P1. -/
import Derived.Test.YtejekkhhpkeckaaGreatDoorZ5
import Derived.Test.YtejekkhhpkeckaaGreatDoorZ3
import Derived.Test.YtejekkhhpkeckaaGreatDoorRep
import Derived.Test.YtejekkhhpkeckaaGreatDoorZ4
import Derived.Laws.Cover4
import Derived.Test.YtejekkhhpkeckaaGreatDoorLayValid
import Derived.Test.YtejekkhhpkeckaaGreatDoorLayIndex
import Derived.Test.YtejekkhhpkeckaaGreatDoorLayIndexByte
import Derived.Lib.IndexMore
import Derived.Test.YtejekkhhpkeckaaGreatDoorSpec
import Derived.Lib.OwnBridge
import Derived.WalkKit
/- slices.Clone, slices.Reverse at the circle's parts. -/
namespace Go.Proofs.YtejekkhhpkeckaaGreatDoor
open Go.RowKit
set_option linter.unusedVariables false
set_option linter.unusedSimpArgs false
set_option linter.defProp false

/- slices.Clone[[]string,string] -/
def ir_slices_Clone_string_string : IC :=
  (.seq (.reg [⟨some 2, .nilr 9 1, none⟩])
    (.seq (.seq (.reg [⟨some 3, .mov (.t 0), none⟩,
      ⟨some 4, .isn (.t 3), none⟩])
    (.cond (.t 4) (.seq (.reg [⟨some 2, .nilr 9 1, none⟩])
    .ret) .skip))
    (.seq (.reg [⟨some 5, .bsr 9 1 [], none⟩,
      ⟨some 6, .mov (.t 0), none⟩,
      ⟨some 7, .app 9 1 16 (.t 5) (.t 6), none⟩,
      ⟨some 2, .mov (.t 7), none⟩])
    .ret)))
def rs_slices_Clone_string_string : List IRes := [.t 2]
theorem ck_slices_Clone_string_string : chkF Tryz.prog Tryz.f29 ir_slices_Clone_string_string rs_slices_Clone_string_string 8 = true := by kernel_rfl


section
variable {E : Envt}
abbrev tStrG : Nat := 9
theorem RepeatG_ok (s : List UInt8) (n : Nat) (hn : n ≤ 1000000) (hs : s.length ≤ 1000000) : PCall Tryz.prog E 25 [.str s, int n] (· = .str (Lib.repeatL s n)) :=
  pcall_flat rfl rfl fun w _ => (r_Repeat ⟨s.toArray⟩ n w (by omega) (by rw [show (⟨s.toArray⟩ : ByteArray).size = s.length from by simp [ByteArray.size]]; exact Nat.le_trans (Nat.mul_le_mul hs hn) (by decide))).mono fun e w' h => ⟨h.1, grow_below h.2⟩
theorem CloneS_ok (es : List (List PV)) (hn : es.length ≤ 1000000) : FCall Tryz.prog E 29 [.sl 1 es] tStrG 1 (· = es) := by
  unfold FCall
  refine gcallR mixed Tryz.func29 ck_slices_Clone_string_string ?_
  simp only [a0, l0, OS.ao, List.map_cons, List.map_nil, List.length_cons, List.length_nil, List.cons_append, List.nil_append, Nat.reduceSub, Nat.reduceAdd, List.replicate_succ, List.replicate_zero, ir_slices_Clone_string_string, rs_slices_Clone_string_string, ZZ, YY, Ze, ite_true, ite_false, forall_const, reduceCtorEq, Nat.reduceAdd, Nat.reduceMul, Nat.reduceLeDiff, Nat.reduceLT, Nat.reduceEqDiff]
  intro b hb
  refine br ?_ ?_
  · intro h
    have := hb h
    simp only [ZZ, YY, Ze, ite_true, ite_false, forall_const, reduceCtorEq, Nat.reduceAdd, Nat.reduceMul, Nat.reduceLeDiff, Nat.reduceLT, Nat.reduceEqDiff]
    exact fin_F 2 [] rfl rfl this.symm
  · intro h
    simp only [ZZ, YY, Ze, ite_true, ite_false, forall_const, reduceCtorEq, Nat.reduceAdd, Nat.reduceMul, Nat.reduceLeDiff, Nat.reduceLT, Nat.reduceEqDiff]
    exact ⟨by omega, fin_F 5 es rfl rfl rfl⟩
end
end Go.Proofs.YtejekkhhpkeckaaGreatDoor

/- The makers of items and of texts of papers: only bounds are told. -/
namespace Go.Proofs.YtejekkhhpkeckaaGreatDoor
open Go.RowKit
set_option linter.unusedVariables false
set_option linter.unusedSimpArgs false
set_option linter.defProp false

/- (*paperchase/chasemake.Stream).Papers -/
def ir_chasemake_Stream_Papers_L1 : IC :=
  (.seq (.reg [⟨some 37, .bin .lss (.t 36) (.t 35), none⟩])
    (.seq (.cond (.t 37) .skip (.exit 2))
    (.seq (.block 3 (.drg [⟨some 38, .fla 6 (.t 7), none⟩,
      ⟨some 39, .ldl 1 false (.t 38), none⟩,
      ⟨some 40, .mov (.t 0), none⟩,
      ⟨some 41, .mov (.t 0), none⟩,
      ⟨some 42, .bsl 1 [.c (.int .i64 79), .c (.int .i64 80), .c (.int .i64 81)], none⟩,
      ⟨some 43, .dcall true 37 [.t 41, .t 42], none⟩,
      ⟨some 44, .pcall 0 25 [.c (.str [119]), .t 43], none⟩,
      ⟨some 45, .pcall 1 25 [.c (.str [97, 98, 32]), .c (.int .i64 30)], none⟩,
      ⟨some 46, .bsl 1 [.c (.str [111, 110, 101]), .c (.str [115, 101, 99, 114, 101, 116, 32, 119, 111, 114, 100, 115]), .c (.str []), .c (.str [195, 169, 116, 195, 169, 32, 120]), .t 44, .t 45], none⟩,
      ⟨some 47, .dcall true 24 [.t 40, .t 46], none⟩,
      ⟨some 48, .bin .add (.t 47) (.c (.str [10])), none⟩,
      ⟨some 49, .bin .add (.t 39) (.t 48), none⟩,
      ⟨some 50, .fla 6 (.t 7), none⟩,
      ⟨none, .st 1 (.t 50) (.t 49), none⟩]))
    (.reg [⟨some 51, .bin .add (.t 36) (.c (.int .i64 1)), none⟩,
      ⟨some 36, .mov (.t 51), none⟩]))))
def ir_chasemake_Stream_Papers_L0 : IC :=
  (.seq (.reg [⟨some 14, .bin .lss (.t 13) (.t 12), none⟩])
    (.seq (.cond (.t 14) .skip (.exit 0))
    (.seq (.block 1 (.seq (.reg [⟨some 15, .mov (.t 13), none⟩,
      ⟨some 6, .mov (.t 15), none⟩])
    (.seq (.reg [⟨some 16, .mov (.t 6), none⟩,
      ⟨some 17, .bin .add (.c (.int .i64 97)) (.t 16), none⟩,
      ⟨some 18, .cvi .i32 (.t 17), none⟩,
      ⟨some 19, .cvs (.t 18), none⟩,
      ⟨some 20, .bin .add (.c (.str [105])) (.t 19), none⟩,
      ⟨some 21, .mov (.t 0), none⟩,
      ⟨some 22, .bsl 1 [.c (.str [97, 110, 110]), .c (.str [98, 111])], none⟩,
      ⟨some 23, .call 24 [.t 21, .t 22], none⟩,
      ⟨some 24, .mov (.t 0), none⟩,
      ⟨some 25, .bsl 1 [.c (.int .i64 1), .c (.int .i64 3), .c (.int .i64 2), .c (.int .i64 4)], none⟩,
      ⟨some 26, .call 37 [.t 24, .t 25], none⟩,
      ⟨some 27, .mov (.t 0), none⟩,
      ⟨some 28, .bsl 1 [.c (.int .i64 0), .c (.int .i64 5), .c (.int .i64 5), .c (.int .i64 40), .c (.int .i64 1440)], none⟩,
      ⟨some 29, .call 37 [.t 27, .t 28], none⟩,
      ⟨some 30, .mov (.t 0), none⟩,
      ⟨some 31, .bsl 1 [.c (.str []), .c (.str [120])], none⟩,
      ⟨some 32, .call 24 [.t 30, .t 31], none⟩,
      ⟨none, .fz (.t 23), none⟩,
      ⟨none, .fz (.t 26), none⟩,
      ⟨none, .fz (.t 29), none⟩,
      ⟨none, .fz (.t 32), none⟩,
      ⟨some 33, .bld [.str [], .str [], .int .i64 0, .str [], .int .i64 0, .str [], .str []] [(0, 1, .t 20), (1, 1, .t 23), (2, 1, .t 26), (4, 1, .t 29), (3, 1, .t 32)], none⟩,
      ⟨some 7, .alc 54 [.str [], .str [], .int .i64 0, .str [], .int .i64 0, .str [], .str []], none⟩,
      ⟨none, .st 7 (.t 7) (.t 33), none⟩])
    (.seq (.seq (.reg [⟨some 34, .mov (.t 0), none⟩,
      ⟨some 35, .call 38 [.t 34, .c (.int .i64 6)], none⟩,
      ⟨some 36, .mov (.c (.int .i64 0)), none⟩])
    (.block 2 (.loop ir_chasemake_Stream_Papers_L1)))
    (.seq (.seq (.reg [⟨some 52, .mov (.t 0), none⟩,
      ⟨some 53, .call 23 [.t 52, .c (.int .i64 8)], none⟩])
    (.cond (.t 53) (.reg [⟨some 54, .mov (.t 0), none⟩,
      ⟨some 55, .bsl 1 [.c (.int .i64 49), .c (.int .i64 50), .c (.int .i64 51), .c (.int .i64 101)], none⟩,
      ⟨some 56, .call 37 [.t 54, .t 55], none⟩,
      ⟨some 57, .call 25 [.c (.str [108, 105, 110, 101, 10]), .t 56], none⟩,
      ⟨some 58, .fla 6 (.t 7), none⟩,
      ⟨none, .st 1 (.t 58) (.t 57), none⟩]) .skip))
    (.cut (.seq (.seq (.reg [⟨some 59, .mov (.t 6), none⟩,
      ⟨some 60, .bin .gtr (.t 59) (.c (.int .i64 0)), none⟩,
      ⟨some 61, .mov (.t 60), none⟩,
      ⟨some 62, .mov (.t 0), (some (61, true))⟩,
      ⟨some 63, .call 23 [.t 62, .c (.int .i64 3)], (some (61, true))⟩,
      ⟨some 64, .pick (.t 61) (.t 63) (.c (.bool false)), none⟩])
    (.cond (.t 64) (.seq (.reg [⟨some 65, .mov (.t 5), none⟩,
      ⟨some 66, .mov (.t 0), none⟩,
      ⟨some 67, .mov (.t 5), none⟩,
      ⟨some 68, .len (.t 67), none⟩,
      ⟨some 69, .call 38 [.t 66, .t 68], none⟩,
      ⟨some 70, .ixa 7 (.t 65) (.t 69), none⟩,
      ⟨some 71, .ld 7 true (.t 70), none⟩,
      ⟨some 8, .alc 54 [.str [], .str [], .int .i64 0, .str [], .int .i64 0, .str [], .str []], none⟩,
      ⟨none, .st 7 (.t 8) (.t 71), none⟩])
    (.seq (.reg [⟨some 72, .fla 5 (.t 8), none⟩,
      ⟨some 73, .ld 1 false (.t 72), none⟩,
      ⟨some 74, .bin .eql (.t 73) (.c (.str [])), none⟩,
      ⟨some 75, .mov (.t 74), none⟩,
      ⟨some 76, .fla 2 (.t 8), (some (75, true))⟩,
      ⟨some 77, .ld 1 false (.t 76), (some (75, true))⟩,
      ⟨some 78, .bin .eql (.t 77) (.c (.int .i64 1)), (some (75, true))⟩,
      ⟨some 79, .mov (.t 78), (some (75, true))⟩,
      ⟨some 80, .fla 2 (.t 8), (some (79, false))⟩,
      ⟨some 81, .ld 1 false (.t 80), (some (79, false))⟩,
      ⟨some 82, .bin .eql (.t 81) (.c (.int .i64 3)), (some (79, false))⟩,
      ⟨some 83, .pick (.t 79) (.c (.bool true)) (.t 82), (some (75, true))⟩,
      ⟨some 84, .pick (.t 75) (.t 83) (.c (.bool false)), none⟩])
    (.cond (.t 84) (.reg [⟨some 85, .fla 0 (.t 8), none⟩,
      ⟨some 86, .ld 1 false (.t 85), none⟩,
      ⟨some 87, .fla 5 (.t 7), none⟩,
      ⟨none, .st 1 (.t 87) (.t 86), none⟩]) .skip))) .skip))
    (.cut (.reg [⟨some 88, .mov (.t 5), none⟩,
      ⟨some 89, .ld 7 true (.t 7), none⟩,
      ⟨some 90, .bsl 7 [.t 89], none⟩,
      ⟨some 91, .app 54 7 96 (.t 88) (.t 90), none⟩,
      ⟨some 5, .mov (.t 91), none⟩])))))))))
    (.reg [⟨some 92, .bin .add (.t 13) (.c (.int .i64 1)), none⟩,
      ⟨some 13, .mov (.t 92), none⟩]))))
def ir_chasemake_Stream_Papers : IC :=
  (.seq (.reg [⟨some 4, .mov (.c (.nl 7)), none⟩])
    (.seq (.reg [⟨some 5, .nilr 54 7, none⟩])
    (.seq (.seq (.reg [⟨some 9, .mov (.t 0), none⟩,
      ⟨some 10, .mov (.t 1), none⟩,
      ⟨some 11, .bin .add (.t 10) (.c (.int .i64 1)), none⟩,
      ⟨some 12, .call 38 [.t 9, .t 11], none⟩,
      ⟨some 13, .mov (.c (.int .i64 0)), none⟩])
    (.block 0 (.loop ir_chasemake_Stream_Papers_L0)))
    (.seq (.reg [⟨some 93, .mov (.t 5), none⟩,
      ⟨some 4, .mov (.t 93), none⟩])
    .ret))))
def rs_chasemake_Stream_Papers : List IRes := [.t 4]
theorem ck_chasemake_Stream_Papers : chkF Tryz.prog Tryz.f22 ir_chasemake_Stream_Papers rs_chasemake_Stream_Papers 94 = true := by kernel_rfl
/- (*paperchase/chasemake.Stream).PaperText -/
def ir_chasemake_Stream_PaperText : IC :=
  (.seq (.reg [⟨some 2, .mov (.c (.str [])), none⟩])
    (.seq (.reg [⟨some 4, .mov (.t 0), none⟩,
      ⟨some 5, .call 22 [.t 4, .c (.int .i64 1)], none⟩,
      ⟨some 3, .mov (.t 5), none⟩])
    (.seq (.seq (.reg [⟨some 6, .mov (.t 3), none⟩,
      ⟨some 7, .len (.t 6), none⟩,
      ⟨some 8, .bin .eql (.t 7) (.c (.int .i64 0)), none⟩,
      ⟨some 9, .mov (.t 8), none⟩,
      ⟨some 10, .mov (.t 0), (some (9, false))⟩,
      ⟨some 11, .call 23 [.t 10, .c (.int .i64 12)], (some (9, false))⟩,
      ⟨some 12, .pick (.t 9) (.c (.bool true)) (.t 11), none⟩])
    (.cond (.t 12) (.seq (.reg [⟨some 13, .mov (.t 0), none⟩,
      ⟨some 14, .call 25 [.c (.str [112]), .c (.int .i64 20000)], none⟩,
      ⟨some 15, .bin .add (.t 14) (.c (.str [10])), none⟩,
      ⟨some 16, .call 25 [.c (.str [32]), .c (.int .i64 90)], none⟩,
      ⟨some 17, .bin .add (.t 16) (.c (.str [10])), none⟩,
      ⟨some 18, .call 25 [.c (.str [32]), .c (.int .i64 81)], none⟩,
      ⟨some 19, .bin .add (.t 18) (.c (.str [120, 10])), none⟩,
      ⟨some 20, .call 25 [.c (.str [195, 169]), .c (.int .i64 41)], none⟩,
      ⟨some 21, .bin .add (.t 20) (.c (.str [10])), none⟩,
      ⟨some 22, .call 25 [.c (.str [195, 169]), .c (.int .i64 41)], none⟩,
      ⟨some 23, .bin .add (.c (.str [120])) (.t 22), none⟩,
      ⟨some 24, .bin .add (.t 23) (.c (.str [32, 121, 10])), none⟩,
      ⟨some 25, .call 25 [.c (.str [98]), .c (.int .i64 90)], none⟩,
      ⟨some 26, .bin .add (.c (.str [97, 32])) (.t 25), none⟩,
      ⟨some 27, .bin .add (.t 26) (.c (.str [10])), none⟩,
      ⟨some 28, .bsl 1 [.c (.str []), .c (.str [120]), .c (.str [97, 9, 98, 10]), .t 15, .t 17, .t 19, .t 21, .t 24, .t 27], none⟩,
      ⟨some 29, .call 24 [.t 13, .t 28], none⟩,
      ⟨some 2, .mov (.t 29), none⟩])
    .ret) .skip))
    (.seq (.reg [⟨some 30, .mov (.t 3), none⟩,
      ⟨some 31, .ixa 7 (.t 30) (.c (.int .i64 0)), none⟩,
      ⟨some 32, .fla 6 (.t 31), none⟩,
      ⟨some 33, .ld 1 false (.t 32), none⟩,
      ⟨some 2, .mov (.t 33), none⟩])
    .ret))))
def rs_chasemake_Stream_PaperText : List IRes := [.t 2]
theorem ck_chasemake_Stream_PaperText : chkF Tryz.prog Tryz.f5 ir_chasemake_Stream_PaperText rs_chasemake_Stream_PaperText 34 = true := by kernel_rfl

/-- What the stream gives next. -/
def nxV (l : List Int) (k : Nat) : Int := if l = [] then ((k : Int) + 1) * 7919 else below (l.getD (k % l.length) 0) 1073741824 + ((k / l.length : Nat) : Int) * (7919 + ((k % l.length : Nat) : Int))
section
variable {E : Envt}
theorem Next_det (l : List Int) (k : Nat) (n : Int) (hk : k ≤ 1000000) (hl : l.length ≤ 9223372036854775807) (h2 : n ≤ 9223372036854775807) :
    SCall Tryz.prog E 38 T (stm l k) [int n] (fun x cs' => x = int (below (nxV l k) n) ∧ cs' = stm l (k + 1)) := by
  unfold SCall
  refine gcallP mixed Tryz.func38 ck_chasemake_Stream_Next ?_
  simp only [a0, l0, OS.ao, List.map_cons, List.map_nil, List.length_cons, List.length_nil, List.cons_append, List.nil_append, Nat.reduceSub, Nat.reduceAdd, List.replicate_succ, List.replicate_zero, stm, ir_chasemake_Stream_Next, rs_chasemake_Stream_Next, ZZ, YY, Ze, ite_true, ite_false, forall_const, reduceCtorEq, Nat.reduceAdd, Nat.reduceMul, Nat.reduceLeDiff, Nat.reduceLT, Nat.reduceEqDiff]
  refine ⟨i64_of (by omega) (by omega), ?_⟩
  simp only [ints, ZZ, YY, Ze, ite_true, ite_false, forall_const, reduceCtorEq, Nat.reduceAdd, Nat.reduceMul, Nat.reduceLeDiff, Nat.reduceLT, Nat.reduceEqDiff]
  generalize hes : l.map (fun x => [PV.int IntKind.i64 x]) = es
  have hln : es.length = l.length := by rw [← hes]; simp
  have hc : [PV.sl 1 es, int ((k : Int) + 1)] = [PV.sl 1 es, int ((k + 1 : Nat) : Int)] := by simp
  refine br ?_ ?_
  · intro h
    have h0 : ((es.length : Int) = 0) := of_decide_eq_true h
    have hnil : l = [] := by
      apply List.eq_nil_of_length_eq_zero
      omega
    simp only [ZZ, YY, Ze, ite_true, ite_false, forall_const, reduceCtorEq, Nat.reduceAdd, Nat.reduceMul, Nat.reduceLeDiff, Nat.reduceLT, Nat.reduceEqDiff]
    refine ⟨i64_of (by omega) (by omega), ?_⟩
    refine use1 (Below_ok _ _ h2) rfl (.inl rfl) ?_
    simp only [ZZ, YY, Ze, ite_true, ite_false, forall_const, reduceCtorEq, Nat.reduceAdd, Nat.reduceMul, Nat.reduceLeDiff, Nat.reduceLT, Nat.reduceEqDiff]
    exact fin_S [PV.sl 1 es, int ((k : Int) + 1)] rfl ⟨by rw [nxV, if_pos hnil], hc⟩
  · intro h
    have hne : ¬ ((es.length : Int) = 0) := of_decide_eq_false h
    have hnn : l ≠ [] := by
      intro e
      rw [e] at hln
      simp only [List.length_nil] at hln
      omega
    simp only [ZZ, YY, Ze, ite_true, ite_false, forall_const, reduceCtorEq, Nat.reduceAdd, Nat.reduceMul, Nat.reduceLeDiff, Nat.reduceLT, Nat.reduceEqDiff]
    refine drg0 ?_
    simp only [ZZ, YY, Ze, ite_true, ite_false, forall_const, reduceCtorEq, Nat.reduceAdd, Nat.reduceMul, Nat.reduceLeDiff, Nat.reduceLT, Nat.reduceEqDiff]
    refine ⟨i64_of (by omega) (by omega), ⟨by omega, ?_⟩⟩
    refine drg0 ?_
    have hkk : (k : Int) + 1 - 1 = k := by omega
    have hrem : (k : Int).tmod (es.length : Int) = ((k % es.length : Nat) : Int) := by rw [Int.tmod_eq_emod_of_nonneg (by omega)]; rfl
    have hquo : (k : Int).tdiv (es.length : Int) = ((k / es.length : Nat) : Int) := by rw [Int.tdiv_eq_ediv_of_nonneg (by omega)]; rfl
    have hq1 : k / es.length ≤ k := Nat.div_le_self _ _
    have hr1 : k % es.length ≤ k := Nat.mod_le _ _
    have hr2 : k % es.length < es.length := Nat.mod_lt _ (by omega)
    obtain ⟨x, hx⟩ : ∃ x, l[k % es.length]? = some x := ⟨_, List.getElem?_eq_getElem (by omega)⟩
    have hg : es.getD (k % es.length) [] = [PV.int .i64 x] := by rw [← hes]; exact getD_map (by rw [hes]; exact hx)
    have hnx : nxV l k = below x 1073741824 + ((k / es.length : Nat) : Int) * (7919 + ((k % es.length : Nat) : Int)) := by
      rw [nxV, if_neg hnn, ← hln, List.getD_eq_getElem?_getD, hx]
      rfl
    rw [hnx]
    simp only [ZZ, YY, Ze, ite_true, ite_false, forall_const, reduceCtorEq, Nat.reduceAdd, Nat.reduceMul, Nat.reduceLeDiff, Nat.reduceLT, Nat.reduceEqDiff, hkk, hrem, hquo, hg]
    generalize k / es.length = q at *
    generalize k % es.length = r at *
    refine ⟨i64_of (by omega) (by omega), ⟨hne, i64_of (by omega) (by omega)⟩, ⟨by omega, by omega⟩, by omega, ?_⟩
    refine use1 (Below_ok _ _ (by decide)) rfl (.inl rfl) ?_
    have hb1 := below_lo x 1073741824
    have hb2 := below_hi x 1073741824 (by omega)
    have hm : (q : Int) * (7919 + (r : Int)) ≤ 1000000 * 1007919 := Int.mul_le_mul (by omega) (by omega) (by omega) (by omega)
    have hm0 : 0 ≤ (q : Int) * (7919 + (r : Int)) := Int.mul_nonneg (by omega) (by omega)
    simp only [ZZ, YY, Ze, ite_true, ite_false, forall_const, reduceCtorEq, Nat.reduceAdd, Nat.reduceMul, Nat.reduceLeDiff, Nat.reduceLT, Nat.reduceEqDiff]
    refine ⟨i64_of (by omega) (by omega), i64_of (by omega) (by omega), i64_of (by omega) (by omega), ?_⟩
    refine use1 (Below_ok _ _ h2) rfl (.inl rfl) ?_
    simp only [ZZ, YY, Ze, ite_true, ite_false, forall_const, reduceCtorEq, Nat.reduceAdd, Nat.reduceMul, Nat.reduceLeDiff, Nat.reduceLT, Nat.reduceEqDiff]
    exact fin_S [PV.sl 1 es, int ((k : Int) + 1)] rfl ⟨rfl, hc⟩
/-- One of some numbers: always the same at the same place of the stream. -/
theorem Pick_det (l : List Int) (k : Nat) (c : List Int) (hk : k ≤ 1000000) (hl : l.length ≤ 9223372036854775807) (h0 : 0 < c.length) (h1 : c.length ≤ 1000000) :
    ∃ y, y ∈ c ∧ SCall Tryz.prog E 37 T (stm l k) [ints c] (fun x cs' => x = int y ∧ cs' = stm l (k + 1)) := by
  obtain ⟨i, hi, hy⟩ := below_idx (nxV l k) c.length h0
  obtain ⟨z, hz⟩ : ∃ z, c[i]? = some z := ⟨_, List.getElem?_eq_getElem hi⟩
  refine ⟨z, List.mem_of_getElem? hz, ?_⟩
  unfold SCall
  refine gcallP mixed Tryz.func37 ck_chasemake_Stream_Pick ?_
  simp only [a0, l0, OS.ao, List.map_cons, List.map_nil, List.length_cons, List.length_nil, List.cons_append, List.nil_append, Nat.reduceSub, Nat.reduceAdd, List.replicate_succ, List.replicate_zero, ir_chasemake_Stream_Pick, rs_chasemake_Stream_Pick, ZZ, YY, Ze, ite_true, ite_false, forall_const, reduceCtorEq, Nat.reduceAdd, Nat.reduceMul, Nat.reduceLeDiff, Nat.reduceLT, Nat.reduceEqDiff]
  simp only [ints, ZZ, YY, Ze, ite_true, ite_false, forall_const, reduceCtorEq, Nat.reduceAdd, Nat.reduceMul, Nat.reduceLeDiff, Nat.reduceLT, Nat.reduceEqDiff]
  generalize hes : c.map (fun x => [PV.int IntKind.i64 x]) = es
  have hln : es.length = c.length := by rw [← hes]; simp
  refine useS (Next_det l k _ hk hl (by omega)) rfl rfl rfl (by simp only [ZZ, YY, Ze, ite_true, ite_false, forall_const, reduceCtorEq, Nat.reduceAdd, Nat.reduceMul, Nat.reduceLeDiff, Nat.reduceLT, Nat.reduceEqDiff]) ?_
  rintro x cs' ⟨rfl, rfl⟩
  rw [hln, hy]
  have hg : es.getD i [] = [PV.int .i64 z] := by rw [← hes]; exact getD_map hz
  simp only [ZZ, YY, Ze, ite_true, ite_false, forall_const, reduceCtorEq, Nat.reduceAdd, Nat.reduceMul, Nat.reduceLeDiff, Nat.reduceLT, Nat.reduceEqDiff, hg]
  exact ⟨⟨by omega, by omega⟩, by omega, fin_S (stm l (k + 1)) rfl ⟨rfl, rfl⟩⟩
theorem encT_le (c : Int) : (Utf8.encode c).data.toList.length ≤ 4 := by
  rw [Array.length_toList]
  exact encode_size_le c
/-- An item: Id, Custodian, Kind, Name, At, Parent, Text. -/
abbrev Itm : Type := List UInt8 × List UInt8 × Int × List UInt8 × Int × List UInt8 × List UInt8
def itC (x : Itm) : List PV := [.str x.1, .str x.2.1, int x.2.2.1, .str x.2.2.2.1, int x.2.2.2.2.1, .str x.2.2.2.2.2.1, .str x.2.2.2.2.2.2]
def itE (l : List Itm) : List (List PV) := l.map itC
theorem itE_len (l : List Itm) : (itE l).length = l.length := by simp [itE]
theorem itE_get {l : List Itm} {k : Nat} {x : Itm} (h : l[k]? = some x) : (itE l).getD k [] = itC x := getD_map h
theorem itE_app (l : List Itm) (a b : List UInt8) (c : Int) (d : List UInt8) (e : Int) (f g : List UInt8) : itE l ++ [[.str a, .str b, int c, .str d, int e, .str f, .str g]] = itE (l ++ [(a, b, c, d, e, f, g)]) := by simp [itE, itC]
def itB1 (x : Itm) : Prop := x.1.length ≤ 100 ∧ x.2.1.length ≤ 3 ∧ (1 ≤ x.2.2.1 ∧ x.2.2.1 ≤ 4) ∧ x.2.2.2.1.length ≤ 1 ∧ (0 ≤ x.2.2.2.2.1 ∧ x.2.2.2.2.1 ≤ 1440) ∧ x.2.2.2.2.2.1.length ≤ 100 ∧ x.2.2.2.2.2.2.length ≤ 600
def ItB (l : List Itm) : Prop := ∀ x ∈ l, itB1 x
theorem ItB.nil : ItB [] := fun x hx => by cases hx
theorem ItB.app {l : List Itm} (h : ItB l) {x : Itm} (hx : itB1 x) : ItB (l ++ [x]) := by
  intro y hy
  rcases List.mem_append.1 hy with hy | hy
  · exact h y hy
  · rw [List.mem_singleton] at hy; subst hy; exact hx
abbrev tItem : Nat := 54
set_option maxHeartbeats 8000000 in
set_option maxRecDepth 100000 in
theorem Papers_ok (l : List Int) (k : Nat) (n : Nat) (hk : k ≤ 900000) (hl : l.length ≤ 9223372036854775807) (hn : n ≤ 20) :
    SCall Tryz.prog E 22 T (stm l k) [int (n : Nat)] (fun x cs' => ∃ il k', x = .sl 7 (itE il) ∧ il.length ≤ n ∧ ItB il ∧ cs' = stm l k' ∧ k' ≤ k + 1 + 20 * n) := by
  unfold SCall
  refine gcallP mixed Tryz.func22 ck_chasemake_Stream_Papers ?_
  simp only [a0, l0, OS.ao, List.map_cons, List.map_nil, List.length_cons, List.length_nil, List.cons_append, List.nil_append, Nat.reduceSub, Nat.reduceAdd, List.replicate_succ, List.replicate_zero, ir_chasemake_Stream_Papers, rs_chasemake_Stream_Papers, ZZ, YY, Ze, ite_true, ite_false, forall_const, reduceCtorEq, Nat.reduceAdd, Nat.reduceMul, Nat.reduceLeDiff, Nat.reduceLT, Nat.reduceEqDiff]
  ((repeat' (with_reducible apply And.intro)) <;> try ((first | first | assumption | trivial | exact (fun hq => by rw [hq]; rfl) | exact i64_of (by omega) (by omega) | omega | (simp; done) | (simp; omega) | (intro hsc; have hs0 := hsc; (try have hsd := of_decide_eq_true hsc); (try simp only [Bool.not_eq_true', Bool.or_eq_false_iff, Bool.and_eq_true, Bool.or_eq_true, decide_eq_true_eq, decide_eq_false_iff_not] at hsc); (repeat' (with_reducible apply And.intro)) <;> (first | assumption | trivial | exact (fun hq => by rw [hq]; rfl) | exact i64_of (by omega) (by omega) | omega | (simp; done) | (simp; omega) | (intro hse; simp [hse, hs0]; done) | (intro hse; simp only [hse, hs0, Bool.true_and, Bool.and_true, Bool.not_false, Bool.not_true, Bool.and_self]; done))))))
  refine useS (Next_ok l k _ (by omega) hl (by omega)) rfl rfl rfl (by simp only [ZZ, YY, Ze, ite_true, ite_false, forall_const, reduceCtorEq, Nat.reduceAdd, Nat.reduceMul, Nat.reduceLeDiff, Nat.reduceLT, Nat.reduceEqDiff]) ?_
  rintro x cs' ⟨y, rfl, rfl⟩
  have b1 := below_lo y ((n : Nat) + 1)
  have b2 := below_hi y ((n : Nat) + 1) (by omega)
  obtain ⟨m, hm⟩ : ∃ m : Nat, below y ((n : Nat) + 1) = (m : Nat) := ⟨(below y ((n : Nat) + 1)).toNat, by omega⟩
  rw [hm] at b1 b2 ⊢
  clear hm
  simp only [ZZ, YY, Ze, ite_true, ite_false, forall_const, reduceCtorEq, Nat.reduceAdd, Nat.reduceMul, Nat.reduceLeDiff, Nat.reduceLT, Nat.reduceEqDiff]
  have hR0 : ([] : List (List PV)) = itE [] := rfl
  rw [hR0]
  refine loop_intro (fun n fr L => ∃ (i : Nat) (k' : Nat) (il : List Itm), i ≤ m ∧ n = m - i ∧ (k' ≤ k + 1 + 20 * i) ∧ (il.length = i) ∧ (ItB il) ∧ fr = [.adr (.b 0) 0, .any, .any, .any, .any, .row (.l 5), .any, .any, .any, .any, .any, .any, .p (int (m : Nat)), .p (int (i : Nat)), .any, .any, .any, .any, .any, .any, .any, .any, .any, .any, .any, .any, .any, .any, .any, .any, .any, .any, .any, .any, .any, .any, .any, .any, .any, .any, .any, .any, .any, .any, .any, .any, .any, .any, .any, .any, .any, .any, .any, .any, .any, .any, .any, .any, .any, .any, .any, .any, .any, .any, .any, .any, .any, .any, .any, .any, .any, .any, .any, .any, .any, .any, .any, .any, .any, .any, .any, .any, .any, .any, .any, .any, .any, .any, .any, .any, .any, .any, .any, .any] ∧ L = [(.b 0, .box ((stm l k').map .p) T), (.l 5, .row (itE il) tItem 7 true)]) (m) [.adr (.b 0) 0, .any, .any, .any, .any, .row (.l 5), .any, .any, .any, .any, .any, .any, .p (int (m : Nat)), .p (int (0 : Nat)), .any, .any, .any, .any, .any, .any, .any, .any, .any, .any, .any, .any, .any, .any, .any, .any, .any, .any, .any, .any, .any, .any, .any, .any, .any, .any, .any, .any, .any, .any, .any, .any, .any, .any, .any, .any, .any, .any, .any, .any, .any, .any, .any, .any, .any, .any, .any, .any, .any, .any, .any, .any, .any, .any, .any, .any, .any, .any, .any, .any, .any, .any, .any, .any, .any, .any, .any, .any, .any, .any, .any, .any, .any, .any, .any, .any, .any, .any, .any, .any] [(.b 0, .box ((stm l (k + 1)).map .p) T), (.l 5, .row (itE []) tItem 7 true)] (by (simp only [ZZ, YY, Ze, ite_true, ite_false, forall_const, reduceCtorEq, Nat.reduceAdd, Nat.reduceMul, Nat.reduceLeDiff, Nat.reduceLT, Nat.reduceEqDiff]; try trivial)) (by (simp only [ZZ, YY, Ze, ite_true, ite_false, forall_const, reduceCtorEq, Nat.reduceAdd, Nat.reduceMul, Nat.reduceLeDiff, Nat.reduceLT, Nat.reduceEqDiff]; try trivial)) ⟨0, k + 1, [], by omega, by omega, by omega, rfl, ItB.nil, rfl, rfl⟩ ?_
  rintro n fr L ⟨i, k', il, hi, rfl, hk', hil, hib, rfl, rfl⟩
  simp only [ir_chasemake_Stream_Papers_L0, ZZ, YY, Ze, ite_true, ite_false, forall_const, reduceCtorEq, Nat.reduceAdd, Nat.reduceMul, Nat.reduceLeDiff, Nat.reduceLT, Nat.reduceEqDiff]
  refine br ?_ ?_
  · intro h
    have hlt : i < m := by have := of_decide_eq_true h; omega
    have hE4 := encT_le (IntKind.i32.wrap (97 + ((i : Nat) : Int)))
    obtain ⟨id, hid, hidl⟩ : ∃ id, id = 105 :: (Utf8.encode (IntKind.i32.wrap (97 + ((i : Nat) : Int)))).data.toList ∧ id.length ≤ 100 := ⟨_, rfl, by simp only [List.length_cons]; omega⟩
    simp only [ZZ, YY, Ze, ite_true, ite_false, forall_const, reduceCtorEq, Nat.reduceAdd, Nat.reduceMul, Nat.reduceLeDiff, Nat.reduceLT, Nat.reduceEqDiff]
    ((repeat' (with_reducible apply And.intro)) <;> try ((first | first | assumption | trivial | exact (fun hq => by rw [hq]; rfl) | exact i64_of (by omega) (by omega) | omega | (simp; done) | (simp; omega) | (intro hsc; have hs0 := hsc; (try have hsd := of_decide_eq_true hsc); (try simp only [Bool.not_eq_true', Bool.or_eq_false_iff, Bool.and_eq_true, Bool.or_eq_true, decide_eq_true_eq, decide_eq_false_iff_not] at hsc); (repeat' (with_reducible apply And.intro)) <;> (first | assumption | trivial | exact (fun hq => by rw [hq]; rfl) | exact i64_of (by omega) (by omega) | omega | (simp; done) | (simp; omega) | (intro hse; simp [hse, hs0]; done) | (intro hse; simp only [hse, hs0, Bool.true_and, Bool.and_true, Bool.not_false, Bool.not_true, Bool.and_self]; done))))))
    rw [← hid]
    clear hid hE4
    refine useS (one_ok l k' [[97, 110, 110], [98, 111]] (by omega) hl (by simp) (by simp)) rfl rfl rfl (by simp only [ZZ, YY, Ze, ite_true, ite_false, forall_const, reduceCtorEq, Nat.reduceAdd, Nat.reduceMul, Nat.reduceLeDiff, Nat.reduceLT, Nat.reduceEqDiff]) ?_
    rintro x cs' ⟨cu, rfl, hcu, rfl⟩
    have hcu2 : cu.length ≤ 3 := by simp at hcu; rcases hcu with rfl | rfl <;> simp
    simp only [ZZ, YY, Ze, ite_true, ite_false, forall_const, reduceCtorEq, Nat.reduceAdd, Nat.reduceMul, Nat.reduceLeDiff, Nat.reduceLT, Nat.reduceEqDiff]
    refine useS (Pick_ok l (k' + 1) [1, 3, 2, 4] (by omega) hl (by simp) (by simp)) rfl rfl rfl (by simp only [ZZ, YY, Ze, ite_true, ite_false, forall_const, reduceCtorEq, Nat.reduceAdd, Nat.reduceMul, Nat.reduceLeDiff, Nat.reduceLT, Nat.reduceEqDiff]) ?_
    rintro x cs' ⟨kd, rfl, hkd, rfl⟩
    have hkd2 : 1 ≤ kd ∧ kd ≤ 4 := by simp at hkd; omega
    simp only [ZZ, YY, Ze, ite_true, ite_false, forall_const, reduceCtorEq, Nat.reduceAdd, Nat.reduceMul, Nat.reduceLeDiff, Nat.reduceLT, Nat.reduceEqDiff]
    refine useS (Pick_ok l (k' + 1 + 1) [0, 5, 5, 40, 1440] (by omega) hl (by simp) (by simp)) rfl rfl rfl (by simp only [ZZ, YY, Ze, ite_true, ite_false, forall_const, reduceCtorEq, Nat.reduceAdd, Nat.reduceMul, Nat.reduceLeDiff, Nat.reduceLT, Nat.reduceEqDiff]) ?_
    rintro x cs' ⟨at_, rfl, hat, rfl⟩
    have hat2 : 0 ≤ at_ ∧ at_ ≤ 1440 := by simp at hat; omega
    simp only [ZZ, YY, Ze, ite_true, ite_false, forall_const, reduceCtorEq, Nat.reduceAdd, Nat.reduceMul, Nat.reduceLeDiff, Nat.reduceLT, Nat.reduceEqDiff]
    refine useS (one_ok l (k' + 1 + 1 + 1) [[], [120]] (by omega) hl (by simp) (by simp)) rfl rfl rfl (by simp only [ZZ, YY, Ze, ite_true, ite_false, forall_const, reduceCtorEq, Nat.reduceAdd, Nat.reduceMul, Nat.reduceLeDiff, Nat.reduceLT, Nat.reduceEqDiff]) ?_
    rintro x cs' ⟨nm, rfl, hnm, rfl⟩
    have hnm2 : nm.length ≤ 1 := by simp at hnm; rcases hnm with rfl | rfl <;> simp
    clear hcu hkd hat hnm
    simp only [ZZ, YY, Ze, ite_true, ite_false, forall_const, reduceCtorEq, Nat.reduceAdd, Nat.reduceMul, Nat.reduceLeDiff, Nat.reduceLT, Nat.reduceEqDiff]
    refine useS (Next_ok l (k' + 1 + 1 + 1 + 1) 6 (by omega) hl (by omega)) rfl rfl rfl (by simp only [ZZ, YY, Ze, ite_true, ite_false, forall_const, reduceCtorEq, Nat.reduceAdd, Nat.reduceMul, Nat.reduceLeDiff, Nat.reduceLT, Nat.reduceEqDiff]) ?_
    rintro x cs' ⟨y, rfl, rfl⟩
    obtain ⟨c, hc, hcy⟩ := below_idx y 6 (by omega)
    have hcy : below y 6 = (c : Nat) := hcy
    rw [hcy]
    clear hcy
    simp only [ZZ, YY, Ze, ite_true, ite_false, forall_const, reduceCtorEq, Nat.reduceAdd, Nat.reduceMul, Nat.reduceLeDiff, Nat.reduceLT, Nat.reduceEqDiff]
    refine loop_intro (fun n fr L => ∃ (j : Nat) (k2 : Nat) (t : List UInt8), j ≤ c ∧ n = c - j ∧ (k2 ≤ k' + 5 + 2 * j) ∧ (t.length ≤ 100 * j) ∧ fr = [.adr (.b 0) 0, .any, .any, .any, .any, .row (.l 5), .p (int (i : Nat)), .adr (.l 7) 0, .any, .any, .any, .any, .p (int (m : Nat)), .p (int (i : Nat)), .any, .any, .any, .any, .any, .any, .any, .any, .any, .any, .any, .any, .any, .any, .any, .any, .any, .any, .any, .any, .any, .p (int (c : Nat)), .p (int (j : Nat)), .any, .any, .any, .any, .any, .any, .any, .any, .any, .any, .any, .any, .any, .any, .any, .any, .any, .any, .any, .any, .any, .any, .any, .any, .any, .any, .any, .any, .any, .any, .any, .any, .any, .any, .any, .any, .any, .any, .any, .any, .any, .any, .any, .any, .any, .any, .any, .any, .any, .any, .any, .any, .any, .any, .any, .any, .any] ∧ L = [(.b 0, .box ((stm l k2).map .p) T), (.l 5, .row (itE il) tItem 7 true), (.l 7, .box [.p (.str id), .p (.str cu), .p (int kd), .p (.str nm), .p (int at_), .p (.str []), .p (.str t)] tItem)]) (c) [.adr (.b 0) 0, .any, .any, .any, .any, .row (.l 5), .p (int (i : Nat)), .adr (.l 7) 0, .any, .any, .any, .any, .p (int (m : Nat)), .p (int (i : Nat)), .any, .any, .any, .any, .any, .any, .any, .any, .any, .any, .any, .any, .any, .any, .any, .any, .any, .any, .any, .any, .any, .p (int (c : Nat)), .p (int (0 : Nat)), .any, .any, .any, .any, .any, .any, .any, .any, .any, .any, .any, .any, .any, .any, .any, .any, .any, .any, .any, .any, .any, .any, .any, .any, .any, .any, .any, .any, .any, .any, .any, .any, .any, .any, .any, .any, .any, .any, .any, .any, .any, .any, .any, .any, .any, .any, .any, .any, .any, .any, .any, .any, .any, .any, .any, .any, .any] [(.b 0, .box ((stm l (k' + 1 + 1 + 1 + 1 + 1)).map .p) T), (.l 5, .row (itE il) tItem 7 true), (.l 7, .box [.p (.str id), .p (.str cu), .p (int kd), .p (.str nm), .p (int at_), .p (.str []), .p (.str [])] tItem)] (by (simp only [ZZ, YY, Ze, ite_true, ite_false, forall_const, reduceCtorEq, Nat.reduceAdd, Nat.reduceMul, Nat.reduceLeDiff, Nat.reduceLT, Nat.reduceEqDiff]; try trivial)) (by (simp only [ZZ, YY, Ze, ite_true, ite_false, forall_const, reduceCtorEq, Nat.reduceAdd, Nat.reduceMul, Nat.reduceLeDiff, Nat.reduceLT, Nat.reduceEqDiff]; try trivial)) ⟨0, k' + 1 + 1 + 1 + 1 + 1, [], by omega, by omega, by omega, by simp, rfl, rfl⟩ ?_
    rintro n fr L ⟨j, k2, t, hj, rfl, hk2, ht, rfl, rfl⟩
    simp only [ir_chasemake_Stream_Papers_L1, ZZ, YY, Ze, ite_true, ite_false, forall_const, reduceCtorEq, Nat.reduceAdd, Nat.reduceMul, Nat.reduceLeDiff, Nat.reduceLT, Nat.reduceEqDiff]
    refine br ?_ ?_
    · intro h
      have hjt : j < c := by have := of_decide_eq_true h; omega
      obtain ⟨p0, hp, hpick⟩ := Pick_det (E := E) l k2 [79, 80, 81] (by omega) hl (by simp) (by simp)
      obtain ⟨p, rfl, hp2⟩ : ∃ p : Nat, p0 = (p : Nat) ∧ p ≤ 81 := by
        simp at hp
        exact ⟨p0.toNat, by omega, by omega⟩
      simp only [ZZ, YY, Ze, ite_true, ite_false, forall_const, reduceCtorEq, Nat.reduceAdd, Nat.reduceMul, Nat.reduceLeDiff, Nat.reduceLT, Nat.reduceEqDiff]
      refine drg2 (x1 := .str (Lib.repeatL [119] p)) (x2 := .str (Lib.repeatL [97, 98, 32] 30)) ?_
      simp only [ZZ, YY, Ze, ite_true, ite_false, forall_const, reduceCtorEq, Nat.reduceAdd, Nat.reduceMul, Nat.reduceLeDiff, Nat.reduceLT, Nat.reduceEqDiff]
      refine useD hpick ⟨_, _, rfl, rfl⟩ rfl rfl rfl (by simp only [ZZ, YY, Ze, ite_true, ite_false, forall_const, reduceCtorEq, Nat.reduceAdd, Nat.reduceMul, Nat.reduceLeDiff, Nat.reduceLT, Nat.reduceEqDiff]) (fun _ => ⟨0, rfl⟩) ?_
      rintro x cs' ⟨rfl, rfl⟩
      simp only [ZZ, YY, Ze, ite_true, ite_false, forall_const, reduceCtorEq, Nat.reduceAdd, Nat.reduceMul, Nat.reduceLeDiff, Nat.reduceLT, Nat.reduceEqDiff]
      refine ⟨usep (RepeatG_ok [119] p (by omega) (by simp)) rfl (.inl rfl), usep (RepeatG_ok [97, 98, 32] 30 (by omega) (by simp)) rfl (.inl rfl), ?_⟩
      have h1 : (Lib.repeatL [119] p).length ≤ 90 := by rw [Lib.repeatL_length]; simp; omega
      have h2 : (Lib.repeatL [97, 98, 32] 30).length ≤ 90 := Nat.le_of_eq (Lib.repeatL_length _ _)
      generalize Lib.repeatL [119] p = w1 at *
      generalize Lib.repeatL [97, 98, 32] 30 = w2 at *
      refine useD (one_ok l (k2 + 1) [[111, 110, 101], [115, 101, 99, 114, 101, 116, 32, 119, 111, 114, 100, 115], [], [195, 169, 116, 195, 169, 32, 120], w1, w2] (by omega) hl (by simp) (by simp)) ⟨_, _, [], rfl, by simp, rfl⟩ rfl rfl rfl (by simp only [ZZ, YY, Ze, ite_true, ite_false, forall_const, reduceCtorEq, Nat.reduceAdd, Nat.reduceMul, Nat.reduceLeDiff, Nat.reduceLT, Nat.reduceEqDiff]) (fun _ => ⟨0, rfl⟩) ?_
      rintro x cs' ⟨u, rfl, hu, rfl⟩
      have hu2 : u.length ≤ 90 := by
        simp only [List.mem_cons, List.not_mem_nil, or_false] at hu
        rcases hu with rfl | rfl | rfl | rfl | rfl | rfl
        all_goals first | exact h1 | exact h2 | decide
      clear hu
      simp only [ZZ, YY, Ze, ite_true, ite_false, forall_const, reduceCtorEq, Nat.reduceAdd, Nat.reduceMul, Nat.reduceLeDiff, Nat.reduceLT, Nat.reduceEqDiff, List.length_append, List.length_cons, List.length_nil]
      refine ⟨by omega, by omega, i64_of (by omega) (by omega), ?_⟩
      refine end_round (c - (j + 1)) [.adr (.b 0) 0, .any, .any, .any, .any, .row (.l 5), .p (int (i : Nat)), .adr (.l 7) 0, .any, .any, .any, .any, .p (int (m : Nat)), .p (int (i : Nat)), .any, .any, .any, .any, .any, .any, .any, .any, .any, .any, .any, .any, .any, .any, .any, .any, .any, .any, .any, .any, .any, .p (int (c : Nat)), .p (int ((j + 1) : Nat)), .any, .any, .any, .any, .any, .any, .any, .any, .any, .any, .any, .any, .any, .any, .any, .any, .any, .any, .any, .any, .any, .any, .any, .any, .any, .any, .any, .any, .any, .any, .any, .any, .any, .any, .any, .any, .any, .any, .any, .any, .any, .any, .any, .any, .any, .any, .any, .any, .any, .any, .any, .any, .any, .any, .any, .any, .any] [(.b 0, .box ((stm l (k2 + 1 + 1)).map .p) T), (.l 5, .row (itE il) tItem 7 true), (.l 7, .box [.p (.str id), .p (.str cu), .p (int kd), .p (.str nm), .p (int at_), .p (.str []), .p (.str (t ++ (u ++ [10])))] tItem)] (by omega) (by (simp only [ZZ, YY, Ze, ite_true, ite_false, forall_const, reduceCtorEq, Nat.reduceAdd, Nat.reduceMul, Nat.reduceLeDiff, Nat.reduceLT, Nat.reduceEqDiff]; try trivial)) (by (simp only [ZZ, YY, Ze, ite_true, ite_false, forall_const, reduceCtorEq, Nat.reduceAdd, Nat.reduceMul, Nat.reduceLeDiff, Nat.reduceLT, Nat.reduceEqDiff]; try trivial)) ⟨j + 1, k2 + 1 + 1, t ++ (u ++ [10]), by omega, rfl, by omega, by simp only [List.length_append, List.length_cons, List.length_nil]; omega, rfl, rfl⟩
    intro h
    clear h
    simp only [ZZ, YY, Ze, ite_true, ite_false, forall_const, reduceCtorEq, Nat.reduceAdd, Nat.reduceMul, Nat.reduceLeDiff, Nat.reduceLT, Nat.reduceEqDiff]
    refine useS (Flip_ok l k2 8 (by omega) hl (by omega)) rfl rfl rfl (by simp only [ZZ, YY, Ze, ite_true, ite_false, forall_const, reduceCtorEq, Nat.reduceAdd, Nat.reduceMul, Nat.reduceLeDiff, Nat.reduceLT, Nat.reduceEqDiff]) ?_
    rintro x cs' ⟨f, rfl, rfl⟩
    simp only [ZZ, YY, Ze, ite_true, ite_false, forall_const, reduceCtorEq, Nat.reduceAdd, Nat.reduceMul, Nat.reduceLeDiff, Nat.reduceLT, Nat.reduceEqDiff]
    refine br_join (fun fr L => ∃ (t : List UInt8) (k3 : Nat), t.length ≤ 600 ∧ k3 ≤ k' + 17 ∧ fr = [.adr (.b 0) 0, .any, .any, .any, .any, .row (.l 5), .p (int (i : Nat)), .adr (.l 7) 0, .any, .any, .any, .any, .p (int (m : Nat)), .p (int (i : Nat)), .any, .any, .any, .any, .any, .any, .any, .any, .any, .any, .any, .any, .any, .any, .any, .any, .any, .any, .any, .any, .any, .any, .any, .any, .any, .any, .any, .any, .any, .any, .any, .any, .any, .any, .any, .any, .any, .any, .any, .any, .any, .any, .any, .any, .any, .any, .any, .any, .any, .any, .any, .any, .any, .any, .any, .any, .any, .any, .any, .any, .any, .any, .any, .any, .any, .any, .any, .any, .any, .any, .any, .any, .any, .any, .any, .any, .any, .any, .any, .any] ∧ L = [(.b 0, .box ((stm l (k3)).map .p) T), (.l 5, .row (itE il) tItem 7 true), (.l 7, .box [.p (.str id), .p (.str cu), .p (int kd), .p (.str nm), .p (int at_), .p (.str ([])), .p (.str (t))] tItem)]) ?_ ?_ ?_
    · intro _
      simp only [ZZ, YY, Ze, ite_true, ite_false, forall_const, reduceCtorEq, Nat.reduceAdd, Nat.reduceMul, Nat.reduceLeDiff, Nat.reduceLT, Nat.reduceEqDiff]
      refine useS (Pick_ok l (k2 + 1) [49, 50, 51, 101] (by omega) hl (by simp) (by simp)) rfl rfl rfl (by simp only [ZZ, YY, Ze, ite_true, ite_false, forall_const, reduceCtorEq, Nat.reduceAdd, Nat.reduceMul, Nat.reduceLeDiff, Nat.reduceLT, Nat.reduceEqDiff]) ?_
      rintro x cs' ⟨q0, rfl, hq0, rfl⟩
      obtain ⟨q, rfl, hq⟩ : ∃ q : Nat, q0 = (q : Nat) ∧ q ≤ 101 := by
        simp at hq0
        exact ⟨q0.toNat, by omega, by omega⟩
      simp only [ZZ, YY, Ze, ite_true, ite_false, forall_const, reduceCtorEq, Nat.reduceAdd, Nat.reduceMul, Nat.reduceLeDiff, Nat.reduceLT, Nat.reduceEqDiff]
      refine use1 (RepeatG_ok [108, 105, 110, 101, 10] q (by omega) (by simp)) rfl (.inl rfl) ?_
      have h1 : (Lib.repeatL [108, 105, 110, 101, 10] q).length ≤ 600 := by rw [Lib.repeatL_length]; simp; omega
      generalize Lib.repeatL [108, 105, 110, 101, 10] q = w1 at *
      simp only [ZZ, YY, Ze, ite_true, ite_false, forall_const, reduceCtorEq, Nat.reduceAdd, Nat.reduceMul, Nat.reduceLeDiff, Nat.reduceLT, Nat.reduceEqDiff]
      ((repeat' (with_reducible apply And.intro)) <;> try ((first | first | assumption | trivial | exact (fun hq => by rw [hq]; rfl) | exact i64_of (by omega) (by omega) | omega | (simp; done) | (simp; omega) | (intro hsc; have hs0 := hsc; (try have hsd := of_decide_eq_true hsc); (try simp only [Bool.not_eq_true', Bool.or_eq_false_iff, Bool.and_eq_true, Bool.or_eq_true, decide_eq_true_eq, decide_eq_false_iff_not] at hsc); (repeat' (with_reducible apply And.intro)) <;> (first | assumption | trivial | exact (fun hq => by rw [hq]; rfl) | exact i64_of (by omega) (by omega) | omega | (simp; done) | (simp; omega) | (intro hse; simp [hse, hs0]; done) | (intro hse; simp only [hse, hs0, Bool.true_and, Bool.and_true, Bool.not_false, Bool.not_true, Bool.and_self]; done))))))
      exact to_mid [.adr (.b 0) 0, .any, .any, .any, .any, .row (.l 5), .p (int (i : Nat)), .adr (.l 7) 0, .any, .any, .any, .any, .p (int (m : Nat)), .p (int (i : Nat)), .any, .any, .any, .any, .any, .any, .any, .any, .any, .any, .any, .any, .any, .any, .any, .any, .any, .any, .any, .any, .any, .any, .any, .any, .any, .any, .any, .any, .any, .any, .any, .any, .any, .any, .any, .any, .any, .any, .any, .any, .any, .any, .any, .any, .any, .any, .any, .any, .any, .any, .any, .any, .any, .any, .any, .any, .any, .any, .any, .any, .any, .any, .any, .any, .any, .any, .any, .any, .any, .any, .any, .any, .any, .any, .any, .any, .any, .any, .any, .any] [(.b 0, .box ((stm l (k2 + 1 + 1)).map .p) T), (.l 5, .row (itE il) tItem 7 true), (.l 7, .box [.p (.str id), .p (.str cu), .p (int kd), .p (.str nm), .p (int at_), .p (.str ([])), .p (.str (w1))] tItem)] (by (simp only [ZZ, YY, Ze, ite_true, ite_false, forall_const, reduceCtorEq, Nat.reduceAdd, Nat.reduceMul, Nat.reduceLeDiff, Nat.reduceLT, Nat.reduceEqDiff]; try trivial)) (by simp only [ZZ, YY, Ze, ite_true, ite_false, forall_const, reduceCtorEq, Nat.reduceAdd, Nat.reduceMul, Nat.reduceLeDiff, Nat.reduceLT, Nat.reduceEqDiff]) ⟨_, _, h1, by omega, rfl, rfl⟩
    · intro _
      simp only [ZZ, YY, Ze, ite_true, ite_false, forall_const, reduceCtorEq, Nat.reduceAdd, Nat.reduceMul, Nat.reduceLeDiff, Nat.reduceLT, Nat.reduceEqDiff]
      exact to_mid [.adr (.b 0) 0, .any, .any, .any, .any, .row (.l 5), .p (int (i : Nat)), .adr (.l 7) 0, .any, .any, .any, .any, .p (int (m : Nat)), .p (int (i : Nat)), .any, .any, .any, .any, .any, .any, .any, .any, .any, .any, .any, .any, .any, .any, .any, .any, .any, .any, .any, .any, .any, .any, .any, .any, .any, .any, .any, .any, .any, .any, .any, .any, .any, .any, .any, .any, .any, .any, .any, .any, .any, .any, .any, .any, .any, .any, .any, .any, .any, .any, .any, .any, .any, .any, .any, .any, .any, .any, .any, .any, .any, .any, .any, .any, .any, .any, .any, .any, .any, .any, .any, .any, .any, .any, .any, .any, .any, .any, .any, .any] [(.b 0, .box ((stm l (k2 + 1)).map .p) T), (.l 5, .row (itE il) tItem 7 true), (.l 7, .box [.p (.str id), .p (.str cu), .p (int kd), .p (.str nm), .p (int at_), .p (.str ([])), .p (.str (t))] tItem)] (by (simp only [ZZ, YY, Ze, ite_true, ite_false, forall_const, reduceCtorEq, Nat.reduceAdd, Nat.reduceMul, Nat.reduceLeDiff, Nat.reduceLT, Nat.reduceEqDiff]; try trivial)) (by simp only [ZZ, YY, Ze, ite_true, ite_false, forall_const, reduceCtorEq, Nat.reduceAdd, Nat.reduceMul, Nat.reduceLeDiff, Nat.reduceLT, Nat.reduceEqDiff]) ⟨_, _, by omega, by omega, rfl, rfl⟩
    clear ht hk2
    rintro fr L ⟨t, k3, ht, hk3, rfl, rfl⟩
    simp only [ZZ, YY, Ze, ite_true, ite_false, forall_const, reduceCtorEq, Nat.reduceAdd, Nat.reduceMul, Nat.reduceLeDiff, Nat.reduceLT, Nat.reduceEqDiff]
    refine useGC (fun hc => ?_) (fun hc => ?_)
    · have hi0 : 0 < i := by have := of_decide_eq_true hc; omega
      refine useS (Flip_ok l k3 3 (by omega) hl (by omega)) rfl rfl rfl (by simp only [ZZ, YY, Ze, ite_true, ite_false, forall_const, reduceCtorEq, Nat.reduceAdd, Nat.reduceMul, Nat.reduceLeDiff, Nat.reduceLT, Nat.reduceEqDiff]) ?_
      rintro x cs' ⟨f2, rfl, rfl⟩
      simp only [ZZ, YY, Ze, ite_true, ite_false, forall_const, reduceCtorEq, Nat.reduceAdd, Nat.reduceMul, Nat.reduceLeDiff, Nat.reduceLT, Nat.reduceEqDiff, hc]
      refine br_join (fun fr L => ∃ (p : List UInt8) (k4 : Nat), p.length ≤ 100 ∧ k4 ≤ k' + 19 ∧ fr = [.adr (.b 0) 0, .any, .any, .any, .any, .row (.l 5), .p (int (i : Nat)), .adr (.l 7) 0, .any, .any, .any, .any, .p (int (m : Nat)), .p (int (i : Nat)), .any, .any, .any, .any, .any, .any, .any, .any, .any, .any, .any, .any, .any, .any, .any, .any, .any, .any, .any, .any, .any, .any, .any, .any, .any, .any, .any, .any, .any, .any, .any, .any, .any, .any, .any, .any, .any, .any, .any, .any, .any, .any, .any, .any, .any, .any, .any, .any, .any, .any, .any, .any, .any, .any, .any, .any, .any, .any, .any, .any, .any, .any, .any, .any, .any, .any, .any, .any, .any, .any, .any, .any, .any, .any, .any, .any, .any, .any, .any, .any] ∧ L = [(.b 0, .box ((stm l (k4)).map .p) T), (.l 5, .row (itE il) tItem 7 true), (.l 7, .box [.p (.str id), .p (.str cu), .p (int kd), .p (.str nm), .p (int at_), .p (.str (p)), .p (.str (t))] tItem)]) ?_ ?_ ?_
      · intro _
        simp only [ZZ, YY, Ze, ite_true, ite_false, forall_const, reduceCtorEq, Nat.reduceAdd, Nat.reduceMul, Nat.reduceLeDiff, Nat.reduceLT, Nat.reduceEqDiff, itE_len]
        refine useS (Next_ok l (k3 + 1) il.length (by omega) hl (by omega)) rfl rfl rfl (by simp only [ZZ, YY, Ze, ite_true, ite_false, forall_const, reduceCtorEq, Nat.reduceAdd, Nat.reduceMul, Nat.reduceLeDiff, Nat.reduceLT, Nat.reduceEqDiff]) ?_
        rintro x cs' ⟨y, rfl, rfl⟩
        obtain ⟨q, hq, hy⟩ := below_idx y il.length (by omega)
        rw [hy]
        obtain ⟨b, hb⟩ : ∃ b, il[q]? = some b := ⟨_, List.getElem?_eq_getElem hq⟩
        have hg := itE_get hb
        obtain ⟨c1, c2, c3, c4, c5, c6, c7⟩ := hib b (List.mem_of_getElem? hb)
        obtain ⟨a1, a2, a3, a4, a5, a6, a7⟩ := b
        simp only [itC] at hg
        simp only at c1
        simp only [ZZ, YY, Ze, ite_true, ite_false, forall_const, reduceCtorEq, Nat.reduceAdd, Nat.reduceMul, Nat.reduceLeDiff, Nat.reduceLT, Nat.reduceEqDiff, itE_len, hg]
        ((repeat' (with_reducible apply And.intro)) <;> try ((first | first | assumption | trivial | exact (fun hq => by rw [hq]; rfl) | exact i64_of (by omega) (by omega) | omega | (simp; done) | (simp; omega) | (intro hsc; have hs0 := hsc; (try have hsd := of_decide_eq_true hsc); (try simp only [Bool.not_eq_true', Bool.or_eq_false_iff, Bool.and_eq_true, Bool.or_eq_true, decide_eq_true_eq, decide_eq_false_iff_not] at hsc); (repeat' (with_reducible apply And.intro)) <;> (first | assumption | trivial | exact (fun hq => by rw [hq]; rfl) | exact i64_of (by omega) (by omega) | omega | (simp; done) | (simp; omega) | (intro hse; simp [hse, hs0]; done) | (intro hse; simp only [hse, hs0, Bool.true_and, Bool.and_true, Bool.not_false, Bool.not_true, Bool.and_self]; done))))))
        refine br ?_ ?_
        · intro _
          simp only [ZZ, YY, Ze, ite_true, ite_false, forall_const, reduceCtorEq, Nat.reduceAdd, Nat.reduceMul, Nat.reduceLeDiff, Nat.reduceLT, Nat.reduceEqDiff]
          exact to_mid [.adr (.b 0) 0, .any, .any, .any, .any, .row (.l 5), .p (int (i : Nat)), .adr (.l 7) 0, .any, .any, .any, .any, .p (int (m : Nat)), .p (int (i : Nat)), .any, .any, .any, .any, .any, .any, .any, .any, .any, .any, .any, .any, .any, .any, .any, .any, .any, .any, .any, .any, .any, .any, .any, .any, .any, .any, .any, .any, .any, .any, .any, .any, .any, .any, .any, .any, .any, .any, .any, .any, .any, .any, .any, .any, .any, .any, .any, .any, .any, .any, .any, .any, .any, .any, .any, .any, .any, .any, .any, .any, .any, .any, .any, .any, .any, .any, .any, .any, .any, .any, .any, .any, .any, .any, .any, .any, .any, .any, .any, .any] [(.b 0, .box ((stm l (k3 + 1 + 1)).map .p) T), (.l 5, .row (itE il) tItem 7 true), (.l 7, .box [.p (.str id), .p (.str cu), .p (int kd), .p (.str nm), .p (int at_), .p (.str (a1)), .p (.str (t))] tItem)] (by (simp only [ZZ, YY, Ze, ite_true, ite_false, forall_const, reduceCtorEq, Nat.reduceAdd, Nat.reduceMul, Nat.reduceLeDiff, Nat.reduceLT, Nat.reduceEqDiff]; try trivial)) (by simp only [ZZ, YY, Ze, ite_true, ite_false, forall_const, reduceCtorEq, Nat.reduceAdd, Nat.reduceMul, Nat.reduceLeDiff, Nat.reduceLT, Nat.reduceEqDiff]) ⟨_, _, c1, by omega, rfl, rfl⟩
        · intro _
          simp only [ZZ, YY, Ze, ite_true, ite_false, forall_const, reduceCtorEq, Nat.reduceAdd, Nat.reduceMul, Nat.reduceLeDiff, Nat.reduceLT, Nat.reduceEqDiff]
          exact to_mid [.adr (.b 0) 0, .any, .any, .any, .any, .row (.l 5), .p (int (i : Nat)), .adr (.l 7) 0, .any, .any, .any, .any, .p (int (m : Nat)), .p (int (i : Nat)), .any, .any, .any, .any, .any, .any, .any, .any, .any, .any, .any, .any, .any, .any, .any, .any, .any, .any, .any, .any, .any, .any, .any, .any, .any, .any, .any, .any, .any, .any, .any, .any, .any, .any, .any, .any, .any, .any, .any, .any, .any, .any, .any, .any, .any, .any, .any, .any, .any, .any, .any, .any, .any, .any, .any, .any, .any, .any, .any, .any, .any, .any, .any, .any, .any, .any, .any, .any, .any, .any, .any, .any, .any, .any, .any, .any, .any, .any, .any, .any] [(.b 0, .box ((stm l (k3 + 1 + 1)).map .p) T), (.l 5, .row (itE il) tItem 7 true), (.l 7, .box [.p (.str id), .p (.str cu), .p (int kd), .p (.str nm), .p (int at_), .p (.str ([])), .p (.str (t))] tItem)] (by (simp only [ZZ, YY, Ze, ite_true, ite_false, forall_const, reduceCtorEq, Nat.reduceAdd, Nat.reduceMul, Nat.reduceLeDiff, Nat.reduceLT, Nat.reduceEqDiff]; try trivial)) (by simp only [ZZ, YY, Ze, ite_true, ite_false, forall_const, reduceCtorEq, Nat.reduceAdd, Nat.reduceMul, Nat.reduceLeDiff, Nat.reduceLT, Nat.reduceEqDiff]) ⟨_, _, by simp, by omega, rfl, rfl⟩
      · intro _
        simp only [ZZ, YY, Ze, ite_true, ite_false, forall_const, reduceCtorEq, Nat.reduceAdd, Nat.reduceMul, Nat.reduceLeDiff, Nat.reduceLT, Nat.reduceEqDiff]
        exact to_mid [.adr (.b 0) 0, .any, .any, .any, .any, .row (.l 5), .p (int (i : Nat)), .adr (.l 7) 0, .any, .any, .any, .any, .p (int (m : Nat)), .p (int (i : Nat)), .any, .any, .any, .any, .any, .any, .any, .any, .any, .any, .any, .any, .any, .any, .any, .any, .any, .any, .any, .any, .any, .any, .any, .any, .any, .any, .any, .any, .any, .any, .any, .any, .any, .any, .any, .any, .any, .any, .any, .any, .any, .any, .any, .any, .any, .any, .any, .any, .any, .any, .any, .any, .any, .any, .any, .any, .any, .any, .any, .any, .any, .any, .any, .any, .any, .any, .any, .any, .any, .any, .any, .any, .any, .any, .any, .any, .any, .any, .any, .any] [(.b 0, .box ((stm l (k3 + 1)).map .p) T), (.l 5, .row (itE il) tItem 7 true), (.l 7, .box [.p (.str id), .p (.str cu), .p (int kd), .p (.str nm), .p (int at_), .p (.str ([])), .p (.str (t))] tItem)] (by (simp only [ZZ, YY, Ze, ite_true, ite_false, forall_const, reduceCtorEq, Nat.reduceAdd, Nat.reduceMul, Nat.reduceLeDiff, Nat.reduceLT, Nat.reduceEqDiff]; try trivial)) (by simp only [ZZ, YY, Ze, ite_true, ite_false, forall_const, reduceCtorEq, Nat.reduceAdd, Nat.reduceMul, Nat.reduceLeDiff, Nat.reduceLT, Nat.reduceEqDiff]) ⟨_, _, by simp, by omega, rfl, rfl⟩
      rintro fr L ⟨p, k4, hp, hk4, rfl, rfl⟩
      have hx1 : (il ++ [(id, cu, kd, nm, at_, p, t)]).length = i + 1 := by rw [List.length_append, hil]; rfl
      have hx2 : ItB (il ++ [(id, cu, kd, nm, at_, p, t)]) := hib.app ⟨hidl, hcu2, hkd2, hnm2, hat2, hp, ht⟩
      simp only [ZZ, YY, Ze, ite_true, ite_false, forall_const, reduceCtorEq, Nat.reduceAdd, Nat.reduceMul, Nat.reduceLeDiff, Nat.reduceLT, Nat.reduceEqDiff, itE_len, itE_app]
      ((repeat' (with_reducible apply And.intro)) <;> try ((first | first | assumption | trivial | exact (fun hq => by rw [hq]; rfl) | exact i64_of (by omega) (by omega) | omega | (simp; done) | (simp; omega) | (intro hsc; have hs0 := hsc; (try have hsd := of_decide_eq_true hsc); (try simp only [Bool.not_eq_true', Bool.or_eq_false_iff, Bool.and_eq_true, Bool.or_eq_true, decide_eq_true_eq, decide_eq_false_iff_not] at hsc); (repeat' (with_reducible apply And.intro)) <;> (first | assumption | trivial | exact (fun hq => by rw [hq]; rfl) | exact i64_of (by omega) (by omega) | omega | (simp; done) | (simp; omega) | (intro hse; simp [hse, hs0]; done) | (intro hse; simp only [hse, hs0, Bool.true_and, Bool.and_true, Bool.not_false, Bool.not_true, Bool.and_self]; done))))))
      refine end_round (m - (i + 1)) [.adr (.b 0) 0, .any, .any, .any, .any, .row (.l 5), .any, .any, .any, .any, .any, .any, .p (int (m : Nat)), .p (int ((i + 1) : Nat)), .any, .any, .any, .any, .any, .any, .any, .any, .any, .any, .any, .any, .any, .any, .any, .any, .any, .any, .any, .any, .any, .any, .any, .any, .any, .any, .any, .any, .any, .any, .any, .any, .any, .any, .any, .any, .any, .any, .any, .any, .any, .any, .any, .any, .any, .any, .any, .any, .any, .any, .any, .any, .any, .any, .any, .any, .any, .any, .any, .any, .any, .any, .any, .any, .any, .any, .any, .any, .any, .any, .any, .any, .any, .any, .any, .any, .any, .any, .any, .any] [(.b 0, .box ((stm l (k4)).map .p) T), (.l 5, .row (itE (il ++ [(id, cu, kd, nm, at_, p, t)])) tItem 7 true)] (by omega) (by (simp only [ZZ, YY, Ze, ite_true, ite_false, forall_const, reduceCtorEq, Nat.reduceAdd, Nat.reduceMul, Nat.reduceLeDiff, Nat.reduceLT, Nat.reduceEqDiff]; try trivial)) (by (simp only [ZZ, YY, Ze, ite_true, ite_false, forall_const, reduceCtorEq, Nat.reduceAdd, Nat.reduceMul, Nat.reduceLeDiff, Nat.reduceLT, Nat.reduceEqDiff]; try trivial)) ⟨i + 1, k4, il ++ [(id, cu, kd, nm, at_, p, t)], by omega, rfl, by omega, hx1, hx2, rfl, rfl⟩
    · simp only [ZZ, YY, Ze, ite_true, ite_false, forall_const, reduceCtorEq, Nat.reduceAdd, Nat.reduceMul, Nat.reduceLeDiff, Nat.reduceLT, Nat.reduceEqDiff, hc]
      refine cut_same (by simp only [ZZ, YY, Ze, ite_true, ite_false, forall_const, reduceCtorEq, Nat.reduceAdd, Nat.reduceMul, Nat.reduceLeDiff, Nat.reduceLT, Nat.reduceEqDiff]) ?_
      have hx1 : (il ++ [(id, cu, kd, nm, at_, [], t)]).length = i + 1 := by rw [List.length_append, hil]; rfl
      have hx2 : ItB (il ++ [(id, cu, kd, nm, at_, [], t)]) := hib.app ⟨hidl, hcu2, hkd2, hnm2, hat2, by simp, ht⟩
      simp only [ZZ, YY, Ze, ite_true, ite_false, forall_const, reduceCtorEq, Nat.reduceAdd, Nat.reduceMul, Nat.reduceLeDiff, Nat.reduceLT, Nat.reduceEqDiff, itE_len, itE_app]
      ((repeat' (with_reducible apply And.intro)) <;> try ((first | first | assumption | trivial | exact (fun hq => by rw [hq]; rfl) | exact i64_of (by omega) (by omega) | omega | (simp; done) | (simp; omega) | (intro hsc; have hs0 := hsc; (try have hsd := of_decide_eq_true hsc); (try simp only [Bool.not_eq_true', Bool.or_eq_false_iff, Bool.and_eq_true, Bool.or_eq_true, decide_eq_true_eq, decide_eq_false_iff_not] at hsc); (repeat' (with_reducible apply And.intro)) <;> (first | assumption | trivial | exact (fun hq => by rw [hq]; rfl) | exact i64_of (by omega) (by omega) | omega | (simp; done) | (simp; omega) | (intro hse; simp [hse, hs0]; done) | (intro hse; simp only [hse, hs0, Bool.true_and, Bool.and_true, Bool.not_false, Bool.not_true, Bool.and_self]; done))))))
      refine end_round (m - (i + 1)) [.adr (.b 0) 0, .any, .any, .any, .any, .row (.l 5), .any, .any, .any, .any, .any, .any, .p (int (m : Nat)), .p (int ((i + 1) : Nat)), .any, .any, .any, .any, .any, .any, .any, .any, .any, .any, .any, .any, .any, .any, .any, .any, .any, .any, .any, .any, .any, .any, .any, .any, .any, .any, .any, .any, .any, .any, .any, .any, .any, .any, .any, .any, .any, .any, .any, .any, .any, .any, .any, .any, .any, .any, .any, .any, .any, .any, .any, .any, .any, .any, .any, .any, .any, .any, .any, .any, .any, .any, .any, .any, .any, .any, .any, .any, .any, .any, .any, .any, .any, .any, .any, .any, .any, .any, .any, .any] [(.b 0, .box ((stm l (k3)).map .p) T), (.l 5, .row (itE (il ++ [(id, cu, kd, nm, at_, [], t)])) tItem 7 true)] (by omega) (by (simp only [ZZ, YY, Ze, ite_true, ite_false, forall_const, reduceCtorEq, Nat.reduceAdd, Nat.reduceMul, Nat.reduceLeDiff, Nat.reduceLT, Nat.reduceEqDiff]; try trivial)) (by (simp only [ZZ, YY, Ze, ite_true, ite_false, forall_const, reduceCtorEq, Nat.reduceAdd, Nat.reduceMul, Nat.reduceLeDiff, Nat.reduceLT, Nat.reduceEqDiff]; try trivial)) ⟨i + 1, k3, il ++ [(id, cu, kd, nm, at_, [], t)], by omega, rfl, by omega, hx1, hx2, rfl, rfl⟩
  intro h
  clear h
  simp only [ZZ, YY, Ze, ite_true, ite_false, forall_const, reduceCtorEq, Nat.reduceAdd, Nat.reduceMul, Nat.reduceLeDiff, Nat.reduceLT, Nat.reduceEqDiff]
  exact fin_S (stm l k') rfl ⟨il, k', rfl, by omega, hib, rfl, by omega⟩
end
end Go.Proofs.YtejekkhhpkeckaaGreatDoor

/- Spans: the checks, few, cmp.Or, slices.Equal. -/
namespace Go.Proofs.YtejekkhhpkeckaaGreatDoor
set_option linter.unusedVariables false
set_option linter.unusedSimpArgs false
set_option linter.defProp false



section
variable {E : Envt}

end
end Go.Proofs.YtejekkhhpkeckaaGreatDoor

/- Spans: Without. -/
namespace Go.Proofs.YtejekkhhpkeckaaGreatDoor
set_option linter.unusedVariables false
set_option linter.unusedSimpArgs false
set_option linter.defProp false



section
variable {E : Envt}
end
end Go.Proofs.YtejekkhhpkeckaaGreatDoor

/- Spans: what makes them. -/
namespace Go.Proofs.YtejekkhhpkeckaaGreatDoor
set_option linter.unusedVariables false
set_option linter.unusedSimpArgs false
set_option linter.defProp false



section
variable {E : Envt}
end
end Go.Proofs.YtejekkhhpkeckaaGreatDoor

/- Spans: the document's answer to Union and Without. -/
namespace Go.Proofs.YtejekkhhpkeckaaGreatDoor
set_option linter.unusedVariables false
set_option linter.unusedSimpArgs false
set_option linter.defProp false



def cov (l : List (Int × Int)) (j : Nat) : Bool := l.any fun s => decide (s.1 ≤ j) && decide ((j : Int) < s.2)
def bl (p : List Bool) : List (List PV) := p.map fun b => [.bool b]
section
variable {E : Envt}
def onAt (p : List Bool) (i : Nat) : Bool := p.getD i false
theorem firstE_mem {l : List Int} (h : firstE l = 0) : ∀ x ∈ l, x = 0 := by
  induction l with
  | nil => intro x hx; cases hx
  | cons a l ih =>
    intro x hx
    simp only [firstE] at h
    split at h
    · rename_i ha
      rcases List.mem_cons.1 hx with rfl | hx
      · exact ha
      · exact ih h x hx
    · rename_i ha; exact absurd h ha
end
end Go.Proofs.YtejekkhhpkeckaaGreatDoor

/- Spans: a right list is told by what it covers (plain). -/
namespace Go.Proofs.YtejekkhhpkeckaaGreatDoor
set_option linter.unusedVariables false
set_option linter.unusedSimpArgs false
set_option linter.defProp false

def cv (l : List (Int × Int)) (j : Int) : Prop := ∃ s ∈ l, s.1 ≤ j ∧ j < s.2
structure Right (l : List (Int × Int)) : Prop where
  ok : ∀ s ∈ l, s.1 < s.2
  ord : l.Pairwise (fun s t => s.2 < t.1)
theorem Right.tail {s : Int × Int} {l : List (Int × Int)} (h : Right (s :: l)) : Right l := ⟨fun t ht => h.ok t (by simp [ht]), (List.pairwise_cons.1 h.ord).2⟩
theorem Right.head {s : Int × Int} {l : List (Int × Int)} (h : Right (s :: l)) : s.1 < s.2 ∧ ∀ t ∈ l, s.2 < t.1 := ⟨h.ok s (by simp), (List.pairwise_cons.1 h.ord).1⟩

/-- What spansFrom gives. -/
structure FromInv (p : List Bool) (k : Nat) (out : List (Int × Int)) : Prop where
  right : Right out
  bd : ∀ s ∈ out, s.2 ≤ k
  last : onAt p (k - 1) = true → 0 < k → ∃ (i : List (Int × Int)) (y : Int × Int), out = i ++ [y] ∧ y.2 = (k : Int)
  gap : onAt p (k - 1) = false → 0 < k → ∀ s ∈ out, s.2 < k
  cov : ∀ j, cv out j ↔ ∃ i : Nat, j = i ∧ i < k ∧ onAt p i = true

end Go.Proofs.YtejekkhhpkeckaaGreatDoor

/- Spans: Without covers what a covers and b does not (plain). -/
namespace Go.Proofs.YtejekkhhpkeckaaGreatDoor
set_option linter.unusedVariables false
set_option linter.unusedSimpArgs false
set_option linter.defProp false

structure InB (s : Int × Int) (o0 b : List (Int × Int)) (st : Int × List (Int × Int)) : Prop where
  lo : s.1 ≤ st.1
  src : st.1 = s.1 ∨ ∃ x ∈ b, st.1 = x.2
  right : Right st.2
  bd : ∀ t ∈ st.2, t.2 < st.1
  hi : ∀ t ∈ st.2, t ∈ o0 ∨ t.2 ≤ s.2
  fre : ∀ j, st.1 ≤ j → j < s.2 → ¬ cv b j
  cov : ∀ j, cv st.2 j ↔ cv o0 j ∨ (s.1 ≤ j ∧ j < st.1 ∧ j < s.2 ∧ ¬ cv b j)

structure InA (b a out : List (Int × Int)) : Prop where
  right : Right out
  bd : ∀ t ∈ out, ∃ s ∈ a, t.2 ≤ s.2
  cov : ∀ j, cv out j ↔ cv a j ∧ ¬ cv b j
end Go.Proofs.YtejekkhhpkeckaaGreatDoor

/- Spans: put joins sorted spans to right ones (plain). -/
namespace Go.Proofs.YtejekkhhpkeckaaGreatDoor
set_option linter.unusedVariables false
set_option linter.unusedSimpArgs false
set_option linter.defProp false

structure InP (l out : List (Int × Int)) : Prop where
  right : Right out
  src : ∀ t ∈ out, (∃ u ∈ l, t.1 = u.1) ∧ ∃ u ∈ l, t.2 = u.2
  cov : ∀ j, cv out j ↔ cv l j
end Go.Proofs.YtejekkhhpkeckaaGreatDoor

/- Spans: put, if the sort is as it should be. -/
namespace Go.Proofs.YtejekkhhpkeckaaGreatDoor
set_option linter.unusedVariables false
set_option linter.unusedSimpArgs false
set_option linter.defProp false



section
variable {E : Envt}
end
end Go.Proofs.YtejekkhhpkeckaaGreatDoor

/- Spans: slices.Grow at nil and slices.Concat, the sort's order, Union. -/
namespace Go.Proofs.YtejekkhhpkeckaaGreatDoor
set_option linter.unusedVariables false
set_option linter.unusedSimpArgs false
set_option linter.defProp false



section
variable {E : Envt}
end
end Go.Proofs.YtejekkhhpkeckaaGreatDoor

/- The library's variables that the functions read; forms of strings; texts. -/
namespace Go.Proofs.YtejekkhhpkeckaaGreatDoor
open Go.RowKit
set_option linter.unusedVariables false
set_option linter.unusedSimpArgs false
set_option linter.defProp false

def E0 : Envt where
  ok w := Lib.Utf8Tabs 2 3 w ∧ ∃ m : Int, w.cell? ⟨0, 0, none⟩ = some (.int .i64 m)
  bl b := b = 2 ∨ b = 3 ∨ b = 0
  mono w w' hb h := by
    obtain ⟨⟨h1, h2⟩, m, h3⟩ := h
    have e1 := hb _ (.inl rfl)
    have e2 := hb _ (.inr (.inl rfl))
    have e3 := hb _ (.inr (.inr rfl))
    exact ⟨⟨fun c hc => (World.cell?_of_block (w := w) e1).trans (h1 c hc), fun i hi => ⟨(World.cell?_of_block (w := w) e2).trans (h2 i hi).1, (World.cell?_of_block (w := w) e2).trans (h2 i hi).2⟩⟩, m, (World.cell?_of_block (w := w) e3).trans h3⟩

theorem Valid_ok (s : List UInt8) (hs : s.length ≤ 1000000000000) : PCall Tryz.prog E0 107 [.str s] (· = .bool (Lib.validD s)) :=
  pcall_flat rfl rfl fun w hE => (Any.utf8_ValidString Tryz.layValid ⟨s.toArray⟩ w (by simp [ByteArray.size]; omega) hE.1).mono fun e w' h => ⟨by rw [h.1]; rfl, grow_below h.2⟩

/- internal/stringslite.HasSuffix -/
def ir_internal_stringslite_HasSuffix : IC :=
  (.seq (.reg [⟨some 4, .mov (.c (.bool false)), none⟩])
    (.seq (.reg [⟨some 5, .mov (.t 0), none⟩,
      ⟨some 6, .sln (.t 5), none⟩,
      ⟨some 7, .mov (.t 1), none⟩,
      ⟨some 8, .sln (.t 7), none⟩,
      ⟨some 9, .bin .geq (.t 6) (.t 8), none⟩,
      ⟨some 10, .mov (.t 9), none⟩,
      ⟨some 11, .mov (.t 0), (some (10, true))⟩,
      ⟨some 12, .mov (.t 0), (some (10, true))⟩,
      ⟨some 13, .sln (.t 12), (some (10, true))⟩,
      ⟨some 14, .mov (.t 1), (some (10, true))⟩,
      ⟨some 15, .sln (.t 14), (some (10, true))⟩,
      ⟨some 16, .bin .sub (.t 13) (.t 15), (some (10, true))⟩,
      ⟨some 17, .ssl (.t 11) (some (.t 16)) none, (some (10, true))⟩,
      ⟨some 18, .mov (.t 1), (some (10, true))⟩,
      ⟨some 19, .bin .eql (.t 17) (.t 18), (some (10, true))⟩,
      ⟨some 20, .pick (.t 10) (.t 19) (.c (.bool false)), none⟩,
      ⟨some 4, .mov (.t 20), none⟩])
    .ret))
def rs_internal_stringslite_HasSuffix : List IRes := [.t 4]
theorem ck_internal_stringslite_HasSuffix : chkF Tryz.prog Tryz.f94 ir_internal_stringslite_HasSuffix rs_internal_stringslite_HasSuffix 21 = true := by kernel_rfl
/- strings.HasSuffix -/
def ir_strings_HasSuffix : IC :=
  (.seq (.reg [⟨some 4, .mov (.c (.bool false)), none⟩])
    (.seq (.reg [⟨some 5, .mov (.t 0), none⟩,
      ⟨some 6, .mov (.t 1), none⟩,
      ⟨some 7, .call 94 [.t 5, .t 6], none⟩,
      ⟨some 4, .mov (.t 7), none⟩])
    .ret))
def rs_strings_HasSuffix : List IRes := [.t 4]
theorem ck_strings_HasSuffix : chkF Tryz.prog Tryz.f50 ir_strings_HasSuffix rs_strings_HasSuffix 8 = true := by kernel_rfl
/- paperchase/base.Visible -/
def ir_base_Visible_L0 : IC :=
  (.seq (.reg [⟨some 10, .bin .lss (.t 9) (.t 8), none⟩])
    (.seq (.cond (.t 10) .skip (.exit 0))
    (.seq (.block 1 (.seq (.reg [⟨some 11, .mov (.t 9), none⟩,
      ⟨some 5, .mov (.t 11), none⟩])
    (.seq (.reg [⟨some 12, .mov (.t 0), none⟩,
      ⟨some 13, .mov (.t 5), none⟩,
      ⟨some 14, .idx (.t 12) (.t 13), none⟩,
      ⟨some 6, .mov (.t 14), none⟩])
    (.seq (.reg [⟨some 15, .mov (.t 6), none⟩,
      ⟨some 16, .bin .lss (.t 15) (.c (.int .u8 32)), none⟩,
      ⟨some 17, .mov (.t 16), none⟩,
      ⟨some 18, .mov (.t 1), (some (17, true))⟩,
      ⟨some 19, .mov (.t 18), (some (17, true))⟩,
      ⟨some 20, .mov (.t 6), (some (19, true))⟩,
      ⟨some 21, .bin .eql (.t 20) (.c (.int .u8 10)), (some (19, true))⟩,
      ⟨some 22, .pick (.t 19) (.t 21) (.c (.bool false)), (some (17, true))⟩,
      ⟨some 23, .not (.t 22), (some (17, true))⟩,
      ⟨some 24, .pick (.t 17) (.t 23) (.c (.bool false)), none⟩,
      ⟨some 25, .mov (.t 24), none⟩,
      ⟨some 26, .mov (.t 6), (some (25, false))⟩,
      ⟨some 27, .bin .eql (.t 26) (.c (.int .u8 127)), (some (25, false))⟩,
      ⟨some 28, .pick (.t 25) (.c (.bool true)) (.t 27), none⟩])
    (.cond (.t 28) (.seq (.reg [⟨some 4, .mov (.c (.bool false)), none⟩])
    .ret) .skip)))))
    (.reg [⟨some 29, .bin .add (.t 9) (.c (.int .i64 1)), none⟩,
      ⟨some 9, .mov (.t 29), none⟩]))))
def ir_base_Visible : IC :=
  (.seq (.reg [⟨some 4, .mov (.c (.bool false)), none⟩])
    (.seq (.seq (.reg [⟨some 7, .mov (.t 0), none⟩,
      ⟨some 8, .sln (.t 7), none⟩,
      ⟨some 9, .mov (.c (.int .i64 0)), none⟩])
    (.block 0 (.loop ir_base_Visible_L0)))
    (.seq (.reg [⟨some 30, .mov (.t 0), none⟩,
      ⟨some 31, .call 107 [.t 30], none⟩,
      ⟨some 4, .mov (.t 31), none⟩])
    .ret)))
def rs_base_Visible : List IRes := [.t 4]
theorem ck_base_Visible : chkF Tryz.prog Tryz.f104 ir_base_Visible rs_base_Visible 32 = true := by kernel_rfl
/- paperchase/base.Text -/
def ir_base_Text : IC :=
  (.seq (.reg [⟨some 2, .mov (.c (.bool false)), none⟩])
    (.seq (.reg [⟨some 3, .mov (.t 0), none⟩,
      ⟨some 4, .call 104 [.t 3, .c (.bool true)], none⟩,
      ⟨some 5, .mov (.t 4), none⟩,
      ⟨some 6, .mov (.t 0), (some (5, true))⟩,
      ⟨some 7, .bin .eql (.t 6) (.c (.str [])), (some (5, true))⟩,
      ⟨some 8, .mov (.t 7), (some (5, true))⟩,
      ⟨some 9, .mov (.t 0), (some (8, false))⟩,
      ⟨some 10, .call 50 [.t 9, .c (.str [10])], (some (8, false))⟩,
      ⟨some 11, .pick (.t 8) (.c (.bool true)) (.t 10), (some (5, true))⟩,
      ⟨some 12, .pick (.t 5) (.t 11) (.c (.bool false)), none⟩,
      ⟨some 2, .mov (.t 12), none⟩])
    .ret))
def rs_base_Text : List IRes := [.t 2]
theorem ck_base_Text : chkF Tryz.prog Tryz.f65 ir_base_Text rs_base_Text 13 = true := by kernel_rfl


section
variable {E : Envt}
def sufE (s t : List UInt8) : Bool := decide ((t.length : Int) ≤ s.length) && decide (s.drop (s.length - t.length) = t)
theorem sHasSuffix_ok (s t : List UInt8) (hs : s.length ≤ 1000000000000) : PCall Tryz.prog E 94 [.str s, .str t] (· = .bool (sufE s t)) := by
  refine pcallF mixed Tryz.func94 ck_internal_stringslite_HasSuffix ?_
  simp only [a0, l0, OS.ao, List.map_cons, List.map_nil, List.length_cons, List.length_nil, List.cons_append, List.nil_append, Nat.reduceSub, Nat.reduceAdd, List.replicate_succ, List.replicate_zero, ir_internal_stringslite_HasSuffix, rs_internal_stringslite_HasSuffix, ZZ, YY, Ze, ite_true, ite_false, forall_const, reduceCtorEq, Nat.reduceAdd, Nat.reduceMul, Nat.reduceLeDiff, Nat.reduceLT, Nat.reduceEqDiff]
  ((repeat' (with_reducible apply And.intro)) <;> try ((first | first | assumption | trivial | exact (fun hq => by rw [hq]; rfl) | exact i64_of (by omega) (by omega) | omega | (simp; done) | (simp; omega) | (intro hsc; have hs0 := hsc; (try have hsd := of_decide_eq_true hsc); (try simp only [Bool.not_eq_true', Bool.or_eq_false_iff, Bool.and_eq_true, Bool.or_eq_true, decide_eq_true_eq, decide_eq_false_iff_not] at hsc); (repeat' (with_reducible apply And.intro)) <;> (first | assumption | trivial | exact (fun hq => by rw [hq]; rfl) | exact i64_of (by omega) (by omega) | omega | (simp; done) | (simp; omega) | (intro hse; simp [hse, hs0]; done) | (intro hse; simp only [hse, hs0, Bool.true_and, Bool.and_true, Bool.not_false, Bool.not_true, Bool.and_self]; done))))))
  rw [show ((s.length : Int) - t.length).toNat = s.length - t.length from by omega, List.take_length]
  rfl
theorem HasSuffix_ok (s t : List UInt8) (hs : s.length ≤ 1000000000000) : PCall Tryz.prog E 50 [.str s, .str t] (· = .bool (sufE s t)) := by
  refine pcallF mixed Tryz.func50 ck_strings_HasSuffix ?_
  simp only [a0, l0, OS.ao, List.map_cons, List.map_nil, List.length_cons, List.length_nil, List.cons_append, List.nil_append, Nat.reduceSub, Nat.reduceAdd, List.replicate_succ, List.replicate_zero, ir_strings_HasSuffix, rs_strings_HasSuffix, ZZ, YY, Ze, ite_true, ite_false, forall_const, reduceCtorEq, Nat.reduceAdd, Nat.reduceMul, Nat.reduceLeDiff, Nat.reduceLT, Nat.reduceEqDiff]
  refine use1 (sHasSuffix_ok s t hs) rfl (.inl rfl) ?_
  simp only [ZZ, YY, Ze, ite_true, ite_false, forall_const, reduceCtorEq, Nat.reduceAdd, Nat.reduceMul, Nat.reduceLeDiff, Nat.reduceLT, Nat.reduceEqDiff]
def largeE (s : List UInt8) : Int := whenE (decide ((20000 : Int) < s.length)) 2
def insE (s : List UInt8) (i : Int) : Bool := decide (i < s.length) && decide (((s.getD i.toNat 0).toNat : Int) / 64 = 2)
def badB (feeds : Bool) (c : UInt8) : Bool := (decide ((c.toNat : Int) < 32) && !(feeds && decide ((c.toNat : Int) = 10))) || decide ((c.toNat : Int) = 127)
def visE (s : List UInt8) (feeds : Bool) : Bool := (s.all fun c => !badB feeds c) && Lib.validD s
theorem all_take {s : List UInt8} {k : Nat} {c : UInt8} {p : UInt8 → Bool} (h : s[k]? = some c) : (s.take (k + 1)).all p = ((s.take k).all p && p c) := by
  obtain ⟨hk, hx⟩ := List.getElem?_eq_some_iff.1 h
  rw [List.take_succ_eq_append_getElem hk, List.all_append, hx]
  simp
end
theorem Visible_ok (s : List UInt8) (feeds : Bool) (hs : s.length ≤ 1000000000) : PCall Tryz.prog E0 104 [.str s, .bool feeds] (· = .bool (visE s feeds)) := by
  refine pcallF mixed Tryz.func104 ck_base_Visible ?_
  simp only [a0, l0, OS.ao, List.map_cons, List.map_nil, List.length_cons, List.length_nil, List.cons_append, List.nil_append, Nat.reduceSub, Nat.reduceAdd, List.replicate_succ, List.replicate_zero, ir_base_Visible, rs_base_Visible, ZZ, YY, Ze, ite_true, ite_false, forall_const, reduceCtorEq, Nat.reduceAdd, Nat.reduceMul, Nat.reduceLeDiff, Nat.reduceLT, Nat.reduceEqDiff]
  refine loop_intro (fun n fr L => ∃ (k : Nat), k ≤ s.length ∧ n = s.length - k ∧ (((s.take k).all fun c => !badB feeds c) = true) ∧ fr = [.p (.str s), .p (.bool feeds), .any, .any, .any, .any, .any, .any, .p (int (s.length : Nat)), .p (int (k : Nat)), .any, .any, .any, .any, .any, .any, .any, .any, .any, .any, .any, .any, .any, .any, .any, .any, .any, .any, .any, .any, .any, .any] ∧ L = []) (s.length) [.p (.str s), .p (.bool feeds), .any, .any, .any, .any, .any, .any, .p (int (s.length : Nat)), .p (int (0 : Nat)), .any, .any, .any, .any, .any, .any, .any, .any, .any, .any, .any, .any, .any, .any, .any, .any, .any, .any, .any, .any, .any, .any] [] (by (simp only [ZZ, YY, Ze, ite_true, ite_false, forall_const, reduceCtorEq, Nat.reduceAdd, Nat.reduceMul, Nat.reduceLeDiff, Nat.reduceLT, Nat.reduceEqDiff]; try trivial)) (by (simp only [ZZ, YY, Ze, ite_true, ite_false, forall_const, reduceCtorEq, Nat.reduceAdd, Nat.reduceMul, Nat.reduceLeDiff, Nat.reduceLT, Nat.reduceEqDiff]; try trivial)) ⟨0, by omega, by omega, by simp, rfl, rfl⟩ ?_
  rintro n fr L ⟨k, hk, rfl, hall, rfl, rfl⟩
  simp only [ir_base_Visible_L0, ZZ, YY, Ze, ite_true, ite_false, forall_const, reduceCtorEq, Nat.reduceAdd, Nat.reduceMul, Nat.reduceLeDiff, Nat.reduceLT, Nat.reduceEqDiff]
  refine br ?_ ?_
  · intro h
    have hlt : k < s.length := by have := of_decide_eq_true h; omega
    obtain ⟨c, hc⟩ : ∃ x, s[k]? = some x := ⟨_, List.getElem?_eq_getElem hlt⟩
    have hg : s.getD k 0 = c := by simp [List.getD, hc]
    have hnx := all_take (p := fun c => !badB feeds c) hc
    simp only [ZZ, YY, Ze, ite_true, ite_false, forall_const, reduceCtorEq, Nat.reduceAdd, Nat.reduceMul, Nat.reduceLeDiff, Nat.reduceLT, Nat.reduceEqDiff, hg]
    ((repeat' (with_reducible apply And.intro)) <;> try ((first | first | assumption | trivial | exact (fun hq => by rw [hq]; rfl) | exact i64_of (by omega) (by omega) | omega | (simp; done) | (simp; omega) | (intro hsc; have hs0 := hsc; (try have hsd := of_decide_eq_true hsc); (try simp only [Bool.not_eq_true', Bool.or_eq_false_iff, Bool.and_eq_true, Bool.or_eq_true, decide_eq_true_eq, decide_eq_false_iff_not] at hsc); (repeat' (with_reducible apply And.intro)) <;> (first | assumption | trivial | exact (fun hq => by rw [hq]; rfl) | exact i64_of (by omega) (by omega) | omega | (simp; done) | (simp; omega) | (intro hse; simp [hse, hs0]; done) | (intro hse; simp only [hse, hs0, Bool.true_and, Bool.and_true, Bool.not_false, Bool.not_true, Bool.and_self]; done))))))
    refine br ?_ ?_
    · intro hb
      have hb : badB feeds c = true := hb
      simp only [ZZ, YY, Ze, ite_true, ite_false, forall_const, reduceCtorEq, Nat.reduceAdd, Nat.reduceMul, Nat.reduceLeDiff, Nat.reduceLT, Nat.reduceEqDiff]
      have : (s.all fun c => !badB feeds c) = false := by
        rw [List.all_eq_false]
        exact ⟨c, List.mem_of_getElem? hc, by simp [hb]⟩
      simp [visE, this]
    · intro hb
      have hb : badB feeds c = false := hb
      simp only [ZZ, YY, Ze, ite_true, ite_false, forall_const, reduceCtorEq, Nat.reduceAdd, Nat.reduceMul, Nat.reduceLeDiff, Nat.reduceLT, Nat.reduceEqDiff]
      ((repeat' (with_reducible apply And.intro)) <;> try ((first | first | assumption | trivial | exact (fun hq => by rw [hq]; rfl) | exact i64_of (by omega) (by omega) | omega | (simp; done) | (simp; omega) | (intro hsc; have hs0 := hsc; (try have hsd := of_decide_eq_true hsc); (try simp only [Bool.not_eq_true', Bool.or_eq_false_iff, Bool.and_eq_true, Bool.or_eq_true, decide_eq_true_eq, decide_eq_false_iff_not] at hsc); (repeat' (with_reducible apply And.intro)) <;> (first | assumption | trivial | exact (fun hq => by rw [hq]; rfl) | exact i64_of (by omega) (by omega) | omega | (simp; done) | (simp; omega) | (intro hse; simp [hse, hs0]; done) | (intro hse; simp only [hse, hs0, Bool.true_and, Bool.and_true, Bool.not_false, Bool.not_true, Bool.and_self]; done))))))
      refine end_round (s.length - (k + 1)) [.p (.str s), .p (.bool feeds), .any, .any, .any, .any, .any, .any, .p (int (s.length : Nat)), .p (int ((k + 1) : Nat)), .any, .any, .any, .any, .any, .any, .any, .any, .any, .any, .any, .any, .any, .any, .any, .any, .any, .any, .any, .any, .any, .any] [] (by omega) (by (simp only [ZZ, YY, Ze, ite_true, ite_false, forall_const, reduceCtorEq, Nat.reduceAdd, Nat.reduceMul, Nat.reduceLeDiff, Nat.reduceLT, Nat.reduceEqDiff]; try trivial)) (by (simp only [ZZ, YY, Ze, ite_true, ite_false, forall_const, reduceCtorEq, Nat.reduceAdd, Nat.reduceMul, Nat.reduceLeDiff, Nat.reduceLT, Nat.reduceEqDiff]; try trivial)) ⟨k + 1, by omega, rfl, by rw [hnx, hall, hb]; rfl, rfl, rfl⟩
  · intro h
    have hge : s.length ≤ k := by have := of_decide_eq_false h; omega
    rw [List.take_of_length_le hge] at hall
    simp only [ZZ, YY, Ze, ite_true, ite_false, forall_const, reduceCtorEq, Nat.reduceAdd, Nat.reduceMul, Nat.reduceLeDiff, Nat.reduceLT, Nat.reduceEqDiff]
    refine use1 (Valid_ok s (by omega)) rfl (.inl rfl) ?_
    simp only [ZZ, YY, Ze, ite_true, ite_false, forall_const, reduceCtorEq, Nat.reduceAdd, Nat.reduceMul, Nat.reduceLeDiff, Nat.reduceLT, Nat.reduceEqDiff]
    simp [visE, hall]
def textE (s : List UInt8) : Bool := visE s true && (decide (s = []) || sufE s [10])
theorem Text_ok (s : List UInt8) (hs : s.length ≤ 1000000000) : PCall Tryz.prog E0 65 [.str s] (· = .bool (textE s)) := by
  refine pcallF mixed Tryz.func65 ck_base_Text ?_
  simp only [a0, l0, OS.ao, List.map_cons, List.map_nil, List.length_cons, List.length_nil, List.cons_append, List.nil_append, Nat.reduceSub, Nat.reduceAdd, List.replicate_succ, List.replicate_zero, ir_base_Text, rs_base_Text, ZZ, YY, Ze, ite_true, ite_false, forall_const, reduceCtorEq, Nat.reduceAdd, Nat.reduceMul, Nat.reduceLeDiff, Nat.reduceLT, Nat.reduceEqDiff]
  refine use1 (Visible_ok s true hs) rfl (.inl rfl) ?_
  simp only [ZZ, YY, Ze, ite_true, ite_false, forall_const, reduceCtorEq, Nat.reduceAdd, Nat.reduceMul, Nat.reduceLeDiff, Nat.reduceLT, Nat.reduceEqDiff]
  ((repeat' (with_reducible apply And.intro)) <;> try ((first | first | assumption | trivial | exact (fun hq => by rw [hq]; rfl) | exact i64_of (by omega) (by omega) | omega | (simp; done) | (simp; omega) | (intro hsc; have hs0 := hsc; (try have hsd := of_decide_eq_true hsc); (try simp only [Bool.not_eq_true', Bool.or_eq_false_iff, Bool.and_eq_true, Bool.or_eq_true, decide_eq_true_eq, decide_eq_false_iff_not] at hsc); (repeat' (with_reducible apply And.intro)) <;> (first | assumption | trivial | exact (fun hq => by rw [hq]; rfl) | exact i64_of (by omega) (by omega) | omega | (simp; done) | (simp; omega) | (intro hse; simp [hse, hs0]; done) | (intro hse; simp only [hse, hs0, Bool.true_and, Bool.and_true, Bool.not_false, Bool.not_true, Bool.and_self]; done))))))
  refine useG (fun _ => HasSuffix_ok s [10] (by omega)) rfl (.inl rfl) ?_
  simp only [ZZ, YY, Ze, ite_true, ite_false, forall_const, reduceCtorEq, Nat.reduceAdd, Nat.reduceMul, Nat.reduceLeDiff, Nat.reduceLT, Nat.reduceEqDiff]
  ((repeat' (with_reducible apply And.intro)) <;> try ((first | first | assumption | trivial | exact (fun hq => by rw [hq]; rfl) | exact i64_of (by omega) (by omega) | omega | (simp; done) | (simp; omega) | (intro hsc; have hs0 := hsc; (try have hsd := of_decide_eq_true hsc); (try simp only [Bool.not_eq_true', Bool.or_eq_false_iff, Bool.and_eq_true, Bool.or_eq_true, decide_eq_true_eq, decide_eq_false_iff_not] at hsc); (repeat' (with_reducible apply And.intro)) <;> (first | assumption | trivial | exact (fun hq => by rw [hq]; rfl) | exact i64_of (by omega) (by omega) | omega | (simp; done) | (simp; omega) | (intro hse; simp [hse, hs0]; done) | (intro hse; simp only [hse, hs0, Bool.true_and, Bool.and_true, Bool.not_false, Bool.not_true, Bool.and_self]; done))))))
/-- The place where the code point begins; .. and where it is over. -/
def backN (s : List UInt8) : Nat → Nat
  | 0 => 0
  | n + 1 => if insE s ((n + 1 : Nat) : Int) = true then backN s n else n + 1
theorem backN_le (s : List UInt8) : ∀ n, backN s n ≤ n
  | 0 => Nat.le_refl _
  | n + 1 => by
    unfold backN
    split
    · have := backN_le s n; omega
    · exact Nat.le_refl _
section
variable {E : Envt}
end

end Go.Proofs.YtejekkhhpkeckaaGreatDoor

/- From a law's contract to the walk that the row's proof wants. -/
namespace Go.Proofs.YtejekkhhpkeckaaGreatDoor
open Go.RowKit
set_option linter.unusedVariables false
set_option linter.unusedSimpArgs false
set_option linter.defProp false

/-- A slice of integers that came in. -/
def IsRow (k : IntKind) (w : World) (a : Option Addr) (len cap : Nat) (zs : List Int) : Prop :=
  (a = none ∧ len = 0 ∧ cap = 0 ∧ zs = []) ∨
  ∃ x, a = some x ∧ len ≤ cap ∧ cap ≤ maxLen ∧ zs.length = cap ∧ (∀ i, i < zs.length → w.cell? (x.add i) = some (.int k (zs.getD i 0))) ∧ ∀ n ∈ zs, (Lit.int k n).wf = true

theorem repE_ints {w : World} {U : Nat → Prop} {b : Nat} : ∀ (l : List Int) (off : Nat), (∀ i, i < l.length → w.cell? ⟨b, off + i, none⟩ = some (.int .i64 (l.getD i 0))) → PRepE w U b 1 off (l.map fun x => [.int .i64 x])
  | [], off, h => trivial
  | x :: r, off, h => by
    refine ⟨rfl, ⟨⟨_, by simpa using h 0 (by simp), rfl, rfl⟩, trivial⟩, repE_ints r (off + 1) (fun i hi => ?_)⟩
    have := h (i + 1) (by simpa using hi)
    rw [show off + 1 + i = off + (i + 1) from by omega]
    simpa using this

theorem isRow_rep {w : World} {a : Option Addr} {len cap : Nat} {zs : List Int} (h : IsRow .i64 w a len cap zs) : PRep w (fun _ => False) (ints (zs.take len)) (.slice a len cap) ∧ (zs.take len).length ≤ 9223372036854775807 := by
  rcases h with ⟨rfl, rfl, rfl, rfl⟩ | ⟨x, rfl, h1, h2, h3, h4, _⟩
  · exact ⟨⟨none, 0, rfl, by simp, fun h => by simp at h⟩, by simp⟩
  · have hl : (zs.take len).length = len := by rw [List.length_take]; omega
    refine ⟨⟨some x, cap, by rw [List.length_map, hl], by rw [List.length_map, hl]; exact h1, fun hne => ?_⟩, by rw [hl]; unfold maxLen at h2; omega⟩
    have h0 : 0 < len := by
      rcases Nat.eq_zero_or_pos len with h' | h'
      · subst h'; simp at hne
      · exact h'
    obtain ⟨b, off, spot⟩ := x
    have hc := h4 0 (by omega)
    have hspot : spot = none := by simpa [Addr.add] using World.cell?_spot hc
    subst hspot
    have hb : b < w.heap.size := by
      have := World.block_lt_of_cell? w _ hc
      simpa [Addr.add] using this
    refine ⟨b, off, rfl, hb, fun h => h, repE_ints _ _ (fun i hi => ?_)⟩
    rw [hl] at hi
    have := h4 i (by omega)
    rw [addr_addA] at this
    rw [this]
    congr 2
    rw [List.getD_eq_getElem?_getD, List.getD_eq_getElem?_getD, List.getElem?_take_of_lt hi]

theorem walk_of {P : Program} {E : Envt} {f : FuncId} (h : ∀ z : List Int, z.length ≤ 9223372036854775807 → PCall P E f [ints z] (· = .bool true)) (a0 : Option Addr) (len0 cap0 : Nat) (z0 : List Int) (w : World) (h0 : IsRow .i64 w a0 len0 cap0 z0) (hok : E.ok w) (hbl : ∀ b, E.bl b → b < w.heap.size) :
    Calls P f #[.slice a0 len0 cap0] w fun e w' => e = .returned (.bool true) ∧ Below w.heap.size w w' := by
  obtain ⟨h1, h2⟩ := isRow_rep h0
  refine (h _ h2 w (fun _ => False) [.slice a0 len0 cap0] (fun _ h => h.elim) hok hbl ⟨_, [], rfl, h1, rfl⟩).mono ?_
  rintro e w' ⟨v, x, rfl, rfl, hv, hg⟩
  refine ⟨by rw [PRep.bool_eq hv], ⟨hg.os, hg.tape, hg.output, hg.size, fun k hk => hg.block k hk (fun h => h)⟩⟩
end Go.Proofs.YtejekkhhpkeckaaGreatDoor

/- Texts: the library's functions on strings, small letters, the reference's forms. -/
namespace Go.Proofs.YtejekkhhpkeckaaGreatDoor
open Go.RowKit
set_option linter.unusedVariables false
set_option linter.unusedSimpArgs false
set_option linter.defProp false

theorem ba_size (s : List UInt8) : (⟨s.toArray⟩ : ByteArray).size = s.length := by simp [ByteArray.size]

section
variable {E : Envt}
theorem Repeat_ok (s : List UInt8) (n : Nat) (hn : n ≤ 1000000) (hs : s.length ≤ 1000000) : PCall Tryz.prog E 25 [.str s, int n] (· = .str (Lib.repeatL s n)) :=
  pcall_flat rfl rfl fun w _ => (r_Repeat ⟨s.toArray⟩ n w (by omega) (by rw [ba_size]; exact Nat.le_trans (Nat.mul_le_mul hs hn) (by decide))).mono fun e w' h => ⟨h.1, grow_below h.2⟩
end
/- paperchase/chaseref1.wellFormed -/
def ir_chaseref1_wellFormed_L0 : IC :=
  (.seq (.reg [⟨some 11, .bin .lss (.t 10) (.t 9), none⟩])
    (.seq (.cond (.t 11) .skip (.exit 0))
    (.seq (.block 1 (.seq (.reg [⟨some 12, .ixa 1 (.t 8) (.t 10), none⟩,
      ⟨some 13, .ld 1 false (.t 12), none⟩,
      ⟨some 6, .mov (.t 13), none⟩])
    (.seq (.reg [⟨some 14, .mov (.t 6), none⟩,
      ⟨some 15, .bin .lss (.t 14) (.c (.int .u8 32)), none⟩,
      ⟨some 16, .mov (.t 15), none⟩,
      ⟨some 17, .mov (.t 1), (some (16, true))⟩,
      ⟨some 18, .mov (.t 17), (some (16, true))⟩,
      ⟨some 19, .mov (.t 6), (some (18, true))⟩,
      ⟨some 20, .bin .eql (.t 19) (.c (.int .u8 10)), (some (18, true))⟩,
      ⟨some 21, .pick (.t 18) (.t 20) (.c (.bool false)), (some (16, true))⟩,
      ⟨some 22, .not (.t 21), (some (16, true))⟩,
      ⟨some 23, .pick (.t 16) (.t 22) (.c (.bool false)), none⟩,
      ⟨some 24, .mov (.t 23), none⟩,
      ⟨some 25, .mov (.t 6), (some (24, false))⟩,
      ⟨some 26, .bin .eql (.t 25) (.c (.int .u8 127)), (some (24, false))⟩,
      ⟨some 27, .pick (.t 24) (.c (.bool true)) (.t 26), none⟩])
    (.cond (.t 27) (.seq (.reg [⟨some 4, .mov (.c (.bool false)), none⟩])
    .ret) .skip))))
    (.reg [⟨some 28, .bin .add (.t 10) (.c (.int .i64 1)), none⟩,
      ⟨some 10, .mov (.t 28), none⟩]))))
def ir_chaseref1_wellFormed : IC :=
  (.seq (.reg [⟨some 4, .mov (.c (.bool false)), none⟩])
    (.seq (.seq (.reg [⟨some 7, .mov (.t 0), none⟩,
      ⟨some 8, .s2b 5 (.t 7), none⟩,
      ⟨some 9, .len (.t 8), none⟩,
      ⟨some 10, .mov (.c (.int .i64 0)), none⟩])
    (.block 0 (.loop ir_chaseref1_wellFormed_L0)))
    (.seq (.reg [⟨some 29, .mov (.t 0), none⟩,
      ⟨some 30, .call 107 [.t 29], none⟩,
      ⟨some 4, .mov (.t 30), none⟩])
    .ret)))
def rs_chaseref1_wellFormed : List IRes := [.t 4]
theorem ck_chaseref1_wellFormed : chkF Tryz.prog Tryz.f69 ir_chaseref1_wellFormed rs_chaseref1_wellFormed 31 = true := by kernel_rfl
/- paperchase/chaseref1.TextOf -/
def ir_chaseref1_TextOf : IC :=
  (.seq (.reg [⟨some 2, .mov (.c (.bool false)), none⟩])
    (.seq (.reg [⟨some 3, .mov (.t 0), none⟩,
      ⟨some 4, .call 69 [.t 3, .c (.bool true)], none⟩,
      ⟨some 5, .mov (.t 4), none⟩,
      ⟨some 6, .mov (.t 0), (some (5, true))⟩,
      ⟨some 7, .bin .eql (.t 6) (.c (.str [])), (some (5, true))⟩,
      ⟨some 8, .mov (.t 7), (some (5, true))⟩,
      ⟨some 9, .mov (.t 0), (some (8, false))⟩,
      ⟨some 10, .call 50 [.t 9, .c (.str [10])], (some (8, false))⟩,
      ⟨some 11, .pick (.t 8) (.c (.bool true)) (.t 10), (some (5, true))⟩,
      ⟨some 12, .pick (.t 5) (.t 11) (.c (.bool false)), none⟩,
      ⟨some 2, .mov (.t 12), none⟩])
    .ret))
def rs_chaseref1_TextOf : List IRes := [.t 2]
theorem ck_chaseref1_TextOf : chkF Tryz.prog Tryz.f30 ir_chaseref1_TextOf rs_chaseref1_TextOf 13 = true := by kernel_rfl
/- paperchase/chaseref1.BodyFault -/
def ir_chaseref1_BodyFault : IC :=
  (.seq (.reg [⟨some 2, .mov (.c (.int .i64 0)), none⟩])
    (.seq (.seq (.reg [⟨some 3, .mov (.t 0), none⟩,
      ⟨some 4, .sln (.t 3), none⟩,
      ⟨some 5, .bin .gtr (.t 4) (.c (.int .i64 20000)), none⟩])
    (.cond (.t 5) (.seq (.reg [⟨some 2, .mov (.c (.int .i64 2)), none⟩])
    .ret) .skip))
    (.seq (.seq (.reg [⟨some 6, .mov (.t 0), none⟩,
      ⟨some 7, .call 30 [.t 6], none⟩,
      ⟨some 8, .not (.t 7), none⟩])
    (.cond (.t 8) (.seq (.reg [⟨some 2, .mov (.c (.int .i64 3)), none⟩])
    .ret) .skip))
    (.seq (.reg [⟨some 2, .mov (.c (.int .i64 0)), none⟩])
    .ret))))
def rs_chaseref1_BodyFault : List IRes := [.t 2]
theorem ck_chaseref1_BodyFault : chkF Tryz.prog Tryz.f8 ir_chaseref1_BodyFault rs_chaseref1_BodyFault 9 = true := by kernel_rfl


section
variable {E : Envt}
end
theorem wellFormed_ok (s : List UInt8) (feeds : Bool) (hs : s.length ≤ 1000000000) : PCall Tryz.prog E0 69 [.str s, .bool feeds] (· = .bool (visE s feeds)) := by
  refine pcallF mixed Tryz.func69 ck_chaseref1_wellFormed ?_
  simp only [a0, l0, OS.ao, List.map_cons, List.map_nil, List.length_cons, List.length_nil, List.cons_append, List.nil_append, Nat.reduceSub, Nat.reduceAdd, List.replicate_succ, List.replicate_zero, ir_chaseref1_wellFormed, rs_chaseref1_wellFormed, ZZ, YY, Ze, ite_true, ite_false, forall_const, reduceCtorEq, Nat.reduceAdd, Nat.reduceMul, Nat.reduceLeDiff, Nat.reduceLT, Nat.reduceEqDiff]
  refine ⟨by omega, ?_⟩
  have hln : (s.map fun q => [PV.int .u8 (q.toNat : Nat)]).length = s.length := by simp
  have hget : ∀ k c, s[k]? = some c → (s.map fun q => [PV.int .u8 (q.toNat : Nat)]).getD k [] = [.int .u8 (c.toNat : Nat)] := fun k c h => getD_map h
  generalize (s.map fun q => [PV.int .u8 (q.toNat : Nat)]) = es at hln hget ⊢
  simp only [ZZ, YY, Ze, ite_true, ite_false, forall_const, reduceCtorEq, Nat.reduceAdd, Nat.reduceMul, Nat.reduceLeDiff, Nat.reduceLT, Nat.reduceEqDiff, hln]
  refine loop_intro (fun n fr L => ∃ (k : Nat), k ≤ s.length ∧ n = s.length - k ∧ (((s.take k).all fun c => !badB feeds c) = true) ∧ fr = [.p (.str s), .p (.bool feeds), .any, .any, .any, .any, .any, .any, .row (.l 8), .p (int (s.length : Nat)), .p (int (k : Nat)), .any, .any, .any, .any, .any, .any, .any, .any, .any, .any, .any, .any, .any, .any, .any, .any, .any, .any, .any, .any] ∧ L = [(.l 8, .row es 5 1 false)]) (s.length) [.p (.str s), .p (.bool feeds), .any, .any, .any, .any, .any, .any, .row (.l 8), .p (int (s.length : Nat)), .p (int (0 : Nat)), .any, .any, .any, .any, .any, .any, .any, .any, .any, .any, .any, .any, .any, .any, .any, .any, .any, .any, .any, .any] [(.l 8, .row es 5 1 false)] (by (simp only [ZZ, YY, Ze, ite_true, ite_false, forall_const, reduceCtorEq, Nat.reduceAdd, Nat.reduceMul, Nat.reduceLeDiff, Nat.reduceLT, Nat.reduceEqDiff]; try trivial)) (by (simp only [ZZ, YY, Ze, ite_true, ite_false, forall_const, reduceCtorEq, Nat.reduceAdd, Nat.reduceMul, Nat.reduceLeDiff, Nat.reduceLT, Nat.reduceEqDiff]; try trivial)) ⟨0, by omega, by omega, by simp, rfl, rfl⟩ ?_
  rintro n fr L ⟨k, hk, rfl, hall, rfl, rfl⟩
  simp only [ir_chaseref1_wellFormed_L0, ZZ, YY, Ze, ite_true, ite_false, forall_const, reduceCtorEq, Nat.reduceAdd, Nat.reduceMul, Nat.reduceLeDiff, Nat.reduceLT, Nat.reduceEqDiff]
  refine br ?_ ?_
  · intro h
    have hlt : k < s.length := by have := of_decide_eq_true h; omega
    obtain ⟨c, hc⟩ : ∃ x, s[k]? = some x := ⟨_, List.getElem?_eq_getElem hlt⟩
    have hg := hget k c hc
    have hnx := all_take (p := fun c => !badB feeds c) hc
    simp only [ZZ, YY, Ze, ite_true, ite_false, forall_const, reduceCtorEq, Nat.reduceAdd, Nat.reduceMul, Nat.reduceLeDiff, Nat.reduceLT, Nat.reduceEqDiff, hg, hln]
    ((repeat' (with_reducible apply And.intro)) <;> try ((first | first | assumption | trivial | exact (fun hq => by rw [hq]; rfl) | exact i64_of (by omega) (by omega) | omega | (simp; done) | (simp; omega) | (intro hsc; have hs0 := hsc; (try have hsd := of_decide_eq_true hsc); (try simp only [Bool.not_eq_true', Bool.or_eq_false_iff, Bool.and_eq_true, Bool.or_eq_true, decide_eq_true_eq, decide_eq_false_iff_not] at hsc); (repeat' (with_reducible apply And.intro)) <;> (first | assumption | trivial | exact (fun hq => by rw [hq]; rfl) | exact i64_of (by omega) (by omega) | omega | (simp; done) | (simp; omega) | (intro hse; simp [hse, hs0]; done) | (intro hse; simp only [hse, hs0, Bool.true_and, Bool.and_true, Bool.not_false, Bool.not_true, Bool.and_self]; done))))))
    refine br ?_ ?_
    · intro hb
      have hb : badB feeds c = true := hb
      simp only [ZZ, YY, Ze, ite_true, ite_false, forall_const, reduceCtorEq, Nat.reduceAdd, Nat.reduceMul, Nat.reduceLeDiff, Nat.reduceLT, Nat.reduceEqDiff]
      have : (s.all fun c => !badB feeds c) = false := by
        rw [List.all_eq_false]
        exact ⟨c, List.mem_of_getElem? hc, by simp [hb]⟩
      simp [visE, this]
    · intro hb
      have hb : badB feeds c = false := hb
      simp only [ZZ, YY, Ze, ite_true, ite_false, forall_const, reduceCtorEq, Nat.reduceAdd, Nat.reduceMul, Nat.reduceLeDiff, Nat.reduceLT, Nat.reduceEqDiff]
      ((repeat' (with_reducible apply And.intro)) <;> try ((first | first | assumption | trivial | exact (fun hq => by rw [hq]; rfl) | exact i64_of (by omega) (by omega) | omega | (simp; done) | (simp; omega) | (intro hsc; have hs0 := hsc; (try have hsd := of_decide_eq_true hsc); (try simp only [Bool.not_eq_true', Bool.or_eq_false_iff, Bool.and_eq_true, Bool.or_eq_true, decide_eq_true_eq, decide_eq_false_iff_not] at hsc); (repeat' (with_reducible apply And.intro)) <;> (first | assumption | trivial | exact (fun hq => by rw [hq]; rfl) | exact i64_of (by omega) (by omega) | omega | (simp; done) | (simp; omega) | (intro hse; simp [hse, hs0]; done) | (intro hse; simp only [hse, hs0, Bool.true_and, Bool.and_true, Bool.not_false, Bool.not_true, Bool.and_self]; done))))))
      refine end_round (s.length - (k + 1)) [.p (.str s), .p (.bool feeds), .any, .any, .any, .any, .any, .any, .row (.l 8), .p (int (s.length : Nat)), .p (int ((k + 1) : Nat)), .any, .any, .any, .any, .any, .any, .any, .any, .any, .any, .any, .any, .any, .any, .any, .any, .any, .any, .any, .any] [(.l 8, .row es 5 1 false)] (by omega) (by (simp only [ZZ, YY, Ze, ite_true, ite_false, forall_const, reduceCtorEq, Nat.reduceAdd, Nat.reduceMul, Nat.reduceLeDiff, Nat.reduceLT, Nat.reduceEqDiff]; try trivial)) (by (simp only [ZZ, YY, Ze, ite_true, ite_false, forall_const, reduceCtorEq, Nat.reduceAdd, Nat.reduceMul, Nat.reduceLeDiff, Nat.reduceLT, Nat.reduceEqDiff]; try trivial)) ⟨k + 1, by omega, rfl, by rw [hnx, hall, hb]; rfl, rfl, rfl⟩
  · intro h
    have hge : s.length ≤ k := by have := of_decide_eq_false h; omega
    rw [List.take_of_length_le hge] at hall
    simp only [ZZ, YY, Ze, ite_true, ite_false, forall_const, reduceCtorEq, Nat.reduceAdd, Nat.reduceMul, Nat.reduceLeDiff, Nat.reduceLT, Nat.reduceEqDiff]
    refine use1 (Valid_ok s (by omega)) rfl (.inl rfl) ?_
    simp only [ZZ, YY, Ze, ite_true, ite_false, forall_const, reduceCtorEq, Nat.reduceAdd, Nat.reduceMul, Nat.reduceLeDiff, Nat.reduceLT, Nat.reduceEqDiff]
    simp [visE, hall]
theorem TextOf_ok (s : List UInt8) (hs : s.length ≤ 1000000000) : PCall Tryz.prog E0 30 [.str s] (· = .bool (textE s)) := by
  refine pcallF mixed Tryz.func30 ck_chaseref1_TextOf ?_
  simp only [a0, l0, OS.ao, List.map_cons, List.map_nil, List.length_cons, List.length_nil, List.cons_append, List.nil_append, Nat.reduceSub, Nat.reduceAdd, List.replicate_succ, List.replicate_zero, ir_chaseref1_TextOf, rs_chaseref1_TextOf, ZZ, YY, Ze, ite_true, ite_false, forall_const, reduceCtorEq, Nat.reduceAdd, Nat.reduceMul, Nat.reduceLeDiff, Nat.reduceLT, Nat.reduceEqDiff]
  refine use1 (wellFormed_ok s true hs) rfl (.inl rfl) ?_
  simp only [ZZ, YY, Ze, ite_true, ite_false, forall_const, reduceCtorEq, Nat.reduceAdd, Nat.reduceMul, Nat.reduceLeDiff, Nat.reduceLT, Nat.reduceEqDiff]
  ((repeat' (with_reducible apply And.intro)) <;> try ((first | first | assumption | trivial | exact (fun hq => by rw [hq]; rfl) | exact i64_of (by omega) (by omega) | omega | (simp; done) | (simp; omega) | (intro hsc; have hs0 := hsc; (try have hsd := of_decide_eq_true hsc); (try simp only [Bool.not_eq_true', Bool.or_eq_false_iff, Bool.and_eq_true, Bool.or_eq_true, decide_eq_true_eq, decide_eq_false_iff_not] at hsc); (repeat' (with_reducible apply And.intro)) <;> (first | assumption | trivial | exact (fun hq => by rw [hq]; rfl) | exact i64_of (by omega) (by omega) | omega | (simp; done) | (simp; omega) | (intro hse; simp [hse, hs0]; done) | (intro hse; simp only [hse, hs0, Bool.true_and, Bool.and_true, Bool.not_false, Bool.not_true, Bool.and_self]; done))))))
  refine useG (fun _ => HasSuffix_ok s [10] (by omega)) rfl (.inl rfl) ?_
  simp only [ZZ, YY, Ze, ite_true, ite_false, forall_const, reduceCtorEq, Nat.reduceAdd, Nat.reduceMul, Nat.reduceLeDiff, Nat.reduceLT, Nat.reduceEqDiff]
  ((repeat' (with_reducible apply And.intro)) <;> try ((first | first | assumption | trivial | exact (fun hq => by rw [hq]; rfl) | exact i64_of (by omega) (by omega) | omega | (simp; done) | (simp; omega) | (intro hsc; have hs0 := hsc; (try have hsd := of_decide_eq_true hsc); (try simp only [Bool.not_eq_true', Bool.or_eq_false_iff, Bool.and_eq_true, Bool.or_eq_true, decide_eq_true_eq, decide_eq_false_iff_not] at hsc); (repeat' (with_reducible apply And.intro)) <;> (first | assumption | trivial | exact (fun hq => by rw [hq]; rfl) | exact i64_of (by omega) (by omega) | omega | (simp; done) | (simp; omega) | (intro hse; simp [hse, hs0]; done) | (intro hse; simp only [hse, hs0, Bool.true_and, Bool.and_true, Bool.not_false, Bool.not_true, Bool.and_self]; done))))))
def bodyE (s : List UInt8) : Int := if 20000 < s.length then 2 else if textE s = true then 0 else 3
theorem BodyFault_ok (s : List UInt8) (hs : s.length ≤ 1000000000) : PCall Tryz.prog E0 8 [.str s] (· = int (bodyE s)) := by
  refine pcallF mixed Tryz.func8 ck_chaseref1_BodyFault ?_
  simp only [a0, l0, OS.ao, List.map_cons, List.map_nil, List.length_cons, List.length_nil, List.cons_append, List.nil_append, Nat.reduceSub, Nat.reduceAdd, List.replicate_succ, List.replicate_zero, ir_chaseref1_BodyFault, rs_chaseref1_BodyFault, ZZ, YY, Ze, ite_true, ite_false, forall_const, reduceCtorEq, Nat.reduceAdd, Nat.reduceMul, Nat.reduceLeDiff, Nat.reduceLT, Nat.reduceEqDiff]
  refine br ?_ ?_
  · intro h
    have h := of_decide_eq_true h
    simp only [ZZ, YY, Ze, ite_true, ite_false, forall_const, reduceCtorEq, Nat.reduceAdd, Nat.reduceMul, Nat.reduceLeDiff, Nat.reduceLT, Nat.reduceEqDiff]
    rw [bodyE, if_pos (by omega)]
  · intro h
    have h := of_decide_eq_false h
    simp only [ZZ, YY, Ze, ite_true, ite_false, forall_const, reduceCtorEq, Nat.reduceAdd, Nat.reduceMul, Nat.reduceLeDiff, Nat.reduceLT, Nat.reduceEqDiff]
    refine use1 (TextOf_ok s hs) rfl (.inl rfl) ?_
    simp only [ZZ, YY, Ze, ite_true, ite_false, forall_const, reduceCtorEq, Nat.reduceAdd, Nat.reduceMul, Nat.reduceLeDiff, Nat.reduceLT, Nat.reduceEqDiff]
    rw [bodyE, if_neg (by omega)]
    refine br ?_ ?_
    · intro h2
      simp only [ZZ, YY, Ze, ite_true, ite_false, forall_const, reduceCtorEq, Nat.reduceAdd, Nat.reduceMul, Nat.reduceLeDiff, Nat.reduceLT, Nat.reduceEqDiff]
      rw [if_neg (by simpa using h2)]
    · intro h2
      simp only [ZZ, YY, Ze, ite_true, ite_false, forall_const, reduceCtorEq, Nat.reduceAdd, Nat.reduceMul, Nat.reduceLeDiff, Nat.reduceLT, Nat.reduceEqDiff]
      rw [if_pos (by simpa using h2)]
end Go.Proofs.YtejekkhhpkeckaaGreatDoor

/- Phrases: the places of phrases, found one by one or painted (plain). -/
namespace Go.Proofs.YtejekkhhpkeckaaGreatDoor
set_option linter.unusedVariables false
set_option linter.unusedSimpArgs false
set_option linter.defProp false

end Go.Proofs.YtejekkhhpkeckaaGreatDoor

/- Memos and phrases: what makes them, Find, and the reference's FindOf. -/
namespace Go.Proofs.YtejekkhhpkeckaaGreatDoor
open Go.RowKit
set_option linter.unusedVariables false
set_option linter.unusedSimpArgs false
set_option linter.defProp false



section
variable {E : Envt}
end
end Go.Proofs.YtejekkhhpkeckaaGreatDoor

/- Letters and words. -/
namespace Go.Proofs.YtejekkhhpkeckaaGreatDoor
open Go.RowKit
set_option linter.unusedVariables false
set_option linter.unusedSimpArgs false
set_option linter.defProp false

abbrev tStr : Nat := 9
section
variable {E : Envt}
def strE (l : List (List UInt8)) : List (List PV) := l.map fun x => [PV.str x]
theorem strE_len (l : List (List UInt8)) : (strE l).length = l.length := by simp [strE]
theorem strE_app (l m : List (List UInt8)) : strE (l ++ m) = strE l ++ strE m := by simp [strE]
theorem strs_eq (l : List (List UInt8)) : strs l = .sl 1 (strE l) := rfl
theorem strE_get {l : List (List UInt8)} {k : Nat} {x : List UInt8} (h : l[k]? = some x) : (strE l).getD k [] = [.str x] := getD_map h
end
section
variable {E : Envt}
end
end Go.Proofs.YtejekkhhpkeckaaGreatDoor

/- Sets as maps. -/
namespace Go.Proofs.YtejekkhhpkeckaaGreatDoor
set_option linter.unusedVariables false
set_option linter.unusedSimpArgs false
set_option linter.defProp false

end Go.Proofs.YtejekkhhpkeckaaGreatDoor

/- The cells of strings; slices.Sort and slices.Compact of the strings that a call owns. -/
namespace Go.Proofs.YtejekkhhpkeckaaGreatDoor
open Go.Shelf Go.RowKit Go.Lib Go.Sort
set_option linter.unusedVariables false
set_option linter.unusedSimpArgs false
set_option linter.defProp false

section
variable {E : Envt} {L : Objs} {k : Key} {fr : List AV} {d : Option Nat} {is : List IOper} {Y : List PV} {K : List AV → Objs → Prop}
end
end Go.Proofs.YtejekkhhpkeckaaGreatDoor

/- Tables of strings: their checks, on both sides. -/
namespace Go.Proofs.YtejekkhhpkeckaaGreatDoor
open Go.RowKit
set_option linter.unusedVariables false
set_option linter.unusedSimpArgs false
set_option linter.defProp false


abbrev SRow := List (List UInt8)
abbrev Tab := List SRow
def tbE (t : Tab) : List (List PV) := t.map fun r => [PV.sl 1 (strE r)]
theorem tbE_len (t : Tab) : (tbE t).length = t.length := by simp [tbE]
theorem tbE_get {t : Tab} {k : Nat} {r : SRow} (h : t[k]? = some r) : (tbE t).getD k [] = [.sl 1 (strE r)] := getD_map h
end Go.Proofs.YtejekkhhpkeckaaGreatDoor
