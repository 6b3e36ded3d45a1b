
/- Own texts, put together: G1 G2 G3 G4 G5 G6 I7 H1 H2. -/
import Derived.Test.YtndjmidmfmcbkaaGreatDoorM4
import Derived.Test.YtndjmidmfmcbkaaGreatDoorM3
import Derived.Test.YtndjmidmfmcbkaaGreatDoorRep
import Derived.Test.YtndjmidmfmcbkaaGreatDoorM5
import Derived.Test.YtndjmidmfmcbkaaGreatDoorLayTrimRight
import Derived.WalkKit
import Derived.OwnWalk
import Derived.Lib.Builder
import Derived.Laws.Externs
import Derived.Maps.AppendAt
import Derived.Shelf.RegionOpenPlain
import Derived.Lib.Strings
import Derived.Lib.Slices
import Derived.Lib.Walk
import Derived.Lib.MakeNoZero
import Derived.Laws.IdiomCopy
import Derived.Laws.BitsLemmas
import Derived.KernelRfl
/- slices.Clone, slices.Reverse at the circle's parts. -/
namespace Go.Proofs.YtndjmidmfmcbkaaGreatDoor
open Go.RowKit
set_option linter.unusedVariables false
set_option linter.unusedSimpArgs false
set_option linter.defProp false

section
variable {E : Envt}
theorem RepeatG_ok (s : List UInt8) (n : Nat) (hn : n ≤ 1000000) (hs : s.length ≤ 1000000) : PCall Tryz.prog E 71 [.str s, int n] (· = .str (Lib.repeatL s n)) :=
  pcall_flat rfl rfl fun w _ => (r_Repeat ⟨s.toArray⟩ n w (by omega) (by rw [show (⟨s.toArray⟩ : ByteArray).size = s.length from by simp [ByteArray.size]]; exact Nat.le_trans (Nat.mul_le_mul hs hn) (by decide))).mono fun e w' h => ⟨h.1, grow_below h.2⟩
end
end Go.Proofs.YtndjmidmfmcbkaaGreatDoor

/- The circle of a text: what the maker makes. -/
namespace Go.Proofs.YtndjmidmfmcbkaaGreatDoor
set_option linter.unusedVariables false
set_option linter.unusedSimpArgs false
set_option linter.defProp false

section
variable {E : Envt}
abbrev Par := List UInt8 × Int × Int
def p0 : List Par := [([97, 105, 100, 64, 111, 117, 114, 115, 46, 100, 101], 1, 3), ([97, 110, 110, 64, 102, 105, 114, 109, 46, 100, 101], 1, 2), ([108, 97, 119, 64, 111, 117, 114, 115, 46, 100, 101], 1, 1)]
def d0 (y : Int) : List Par := [([102, 105, 114, 109, 46, 100, 101], 1, 4), ([120, 46, 102, 105, 114, 109, 46, 100, 101], y, 2), ([111, 117, 114, 115, 46, 100, 101], 1, 4)]
end
end Go.Proofs.YtndjmidmfmcbkaaGreatDoor

/- The terms of a circle. -/
namespace Go.Proofs.YtndjmidmfmcbkaaGreatDoor
set_option linter.unusedVariables false
set_option linter.unusedSimpArgs false
set_option linter.defProp false



section
variable {E : Envt}
end
end Go.Proofs.YtndjmidmfmcbkaaGreatDoor

/- The body of a mail: what the maker makes. -/
namespace Go.Proofs.YtndjmidmfmcbkaaGreatDoor
set_option linter.unusedVariables false
set_option linter.unusedSimpArgs false
set_option linter.defProp false

/- (*paperchase/chasemake.Stream).body -/
def ir_chasemake_Stream_body_L0 : IC :=
  (.seq (.reg [⟨some 7, .bin .lss (.t 6) (.t 5), none⟩])
    (.seq (.cond (.t 7) .skip (.exit 0))
    (.seq (.block 1 (.seq (.reg [⟨some 8, .mov (.t 3), none⟩,
      ⟨some 9, .mov (.t 0), none⟩,
      ⟨some 10, .bsl 1 [.c (.str []), .c (.str []), .c (.str [62, 32]), .c (.str [62, 32]), .c (.str [62, 32, 62, 32]), .c (.str [62]), .c (.str [62, 62, 32])], none⟩,
      ⟨some 11, .call 67 [.t 9, .t 10], none⟩,
      ⟨some 12, .mov (.t 0), none⟩,
      ⟨some 13, .bsl 1 [.c (.str [98, 101, 32, 99, 97, 114, 101, 102, 117, 108]), .c (.str [116, 104, 105, 115, 32, 105, 115, 32, 108, 101, 103, 97, 108, 32, 97, 100, 118, 105, 99, 101]), .c (.str [108, 117, 110, 99, 104, 63]), .c (.str []), .c (.str [32]), .c (.str [66, 101, 32, 32, 67, 97, 114, 101, 102, 117, 108, 32]), .c (.str [111, 110, 101, 32, 109, 111, 114, 101]), .c (.str [112, 114, 105, 118, 105, 108, 101, 103, 101, 100, 32, 97, 110, 100, 32, 99, 111, 110, 102, 105, 100, 101, 110, 116, 105, 97, 108]), .c (.str [195, 169, 116, 195, 169, 32, 108, 101, 103, 97, 108, 32, 97, 100, 118, 105, 99, 101])], none⟩,
      ⟨some 14, .call 67 [.t 12, .t 13], none⟩,
      ⟨some 15, .bin .add (.t 11) (.t 14), none⟩,
      ⟨some 16, .bin .add (.t 15) (.c (.str [10])), none⟩,
      ⟨some 17, .bin .add (.t 8) (.t 16), none⟩,
      ⟨some 3, .mov (.t 17), none⟩])
    (.seq (.reg [⟨some 18, .mov (.t 0), none⟩,
      ⟨some 19, .call 27 [.t 18, .c (.int .i64 5)], none⟩])
    (.cond (.t 19) (.reg [⟨some 20, .mov (.t 3), none⟩,
      ⟨some 21, .mov (.t 0), none⟩,
      ⟨some 22, .bsl 1 [.c (.str []), .c (.str [62, 32])], none⟩,
      ⟨some 23, .call 67 [.t 21, .t 22], none⟩,
      ⟨some 24, .mov (.t 0), none⟩,
      ⟨some 25, .bsl 1 [.c (.str [66, 111, 32, 119, 114, 111, 116, 101, 58]), .c (.str [79, 110, 32, 77, 111, 110, 100, 97, 121, 32, 65, 110, 110, 32, 119, 114, 111, 116, 101, 58]), .c (.str [119, 114, 111, 116, 101, 58]), .c (.str [67, 121, 32, 115, 99, 104, 114, 105, 101, 98, 58]), .c (.str [45, 45, 45, 45, 45, 79, 114, 105, 103, 105, 110, 97, 108, 32, 77, 101, 115, 115, 97, 103, 101, 45, 45, 45, 45, 45])], none⟩,
      ⟨some 26, .call 67 [.t 24, .t 25], none⟩,
      ⟨some 27, .bin .add (.t 23) (.t 26), none⟩,
      ⟨some 28, .bin .add (.t 27) (.c (.str [10])), none⟩,
      ⟨some 29, .bin .add (.t 20) (.t 28), none⟩,
      ⟨some 3, .mov (.t 29), none⟩]) .skip))))
    (.cut (.reg [⟨some 30, .bin .add (.t 6) (.c (.int .i64 1)), none⟩,
      ⟨some 6, .mov (.t 30), none⟩])))))
def ir_chasemake_Stream_body : IC :=
  (.seq (.reg [⟨some 2, .mov (.c (.str [])), none⟩])
    (.seq (.reg [⟨some 3, .mov (.c (.str [])), none⟩])
    (.seq (.seq (.reg [⟨some 4, .mov (.t 0), none⟩,
      ⟨some 5, .call 65 [.t 4, .c (.int .i64 7)], none⟩,
      ⟨some 6, .mov (.c (.int .i64 0)), none⟩])
    (.block 0 (.loop ir_chasemake_Stream_body_L0)))
    (.seq (.reg [⟨some 31, .mov (.t 3), none⟩,
      ⟨some 2, .mov (.t 31), none⟩])
    .ret))))
def rs_chasemake_Stream_body : List IRes := [.t 2]
theorem ck_chasemake_Stream_body : chkF Tryz.prog Tryz.f100 ir_chasemake_Stream_body rs_chasemake_Stream_body 32 = true := by kernel_rfl


section
variable {E : Envt}
def bA : List (List UInt8) := [[], [], [62, 32], [62, 32], [62, 32, 62, 32], [62], [62, 62, 32]]
def bB : List (List UInt8) := [[98, 101, 32, 99, 97, 114, 101, 102, 117, 108], [116, 104, 105, 115, 32, 105, 115, 32, 108, 101, 103, 97, 108, 32, 97, 100, 118, 105, 99, 101], [108, 117, 110, 99, 104, 63], [], [32], [66, 101, 32, 32, 67, 97, 114, 101, 102, 117, 108, 32], [111, 110, 101, 32, 109, 111, 114, 101], [112, 114, 105, 118, 105, 108, 101, 103, 101, 100, 32, 97, 110, 100, 32, 99, 111, 110, 102, 105, 100, 101, 110, 116, 105, 97, 108], [195, 169, 116, 195, 169, 32, 108, 101, 103, 97, 108, 32, 97, 100, 118, 105, 99, 101]]
def bC : List (List UInt8) := [[], [62, 32]]
def bD : List (List UInt8) := [[66, 111, 32, 119, 114, 111, 116, 101, 58], [79, 110, 32, 77, 111, 110, 100, 97, 121, 32, 65, 110, 110, 32, 119, 114, 111, 116, 101, 58], [119, 114, 111, 116, 101, 58], [67, 121, 32, 115, 99, 104, 114, 105, 101, 98, 58], [45, 45, 45, 45, 45, 79, 114, 105, 103, 105, 110, 97, 108, 32, 77, 101, 115, 115, 97, 103, 101, 45, 45, 45, 45, 45]]
theorem bA_len : ∀ s ∈ bA, s.length ≤ 60 := by decide
theorem bB_len : ∀ s ∈ bB, s.length ≤ 60 := by decide
theorem bC_len : ∀ s ∈ bC, s.length ≤ 60 := by decide
theorem bD_len : ∀ s ∈ bD, s.length ≤ 60 := by decide
theorem body_ok (l : List Int) (k : Nat) (hk : k ≤ 900000) (hl : l.length ≤ 9223372036854775807) :
    SCall Tryz.prog E 100 T (stm l k) [] (fun x cs' => ∃ s k', x = .str s ∧ s.length ≤ 2000 ∧ cs' = stm l k' ∧ k' ≤ k + 40) := by
  unfold SCall
  refine gcallP mixed Tryz.func100 ck_chasemake_Stream_body ?_
  simp only [a0, l0, OS.ao, List.map_cons, List.map_nil, List.length_cons, List.length_nil, List.cons_append, List.nil_append, Nat.reduceSub, Nat.reduceAdd, List.replicate_succ, List.replicate_zero, ir_chasemake_Stream_body, rs_chasemake_Stream_body, ZZ, YY, Zd, ite_true, ite_false, forall_const, reduceCtorEq, Nat.reduceAdd, Nat.reduceMul, Nat.reduceLeDiff, Nat.reduceLT, Nat.reduceEqDiff]
  refine useS (Next_ok l k 7 (by omega) hl (by decide)) rfl rfl rfl (by simp only [ZZ, YY, Zd, ite_true, ite_false, forall_const, reduceCtorEq, Nat.reduceAdd, Nat.reduceMul, Nat.reduceLeDiff, Nat.reduceLT, Nat.reduceEqDiff]) ?_
  rintro x cs' ⟨y, rfl, rfl⟩
  have b1 := below_lo y 7
  have b2 := below_hi y 7 (by omega)
  generalize below y 7 = m at *
  simp only [ZZ, YY, Zd, ite_true, ite_false, forall_const, reduceCtorEq, Nat.reduceAdd, Nat.reduceMul, Nat.reduceLeDiff, Nat.reduceLT, Nat.reduceEqDiff]
  refine loop_intro (fun n fr L => ∃ (i k' : Nat) (s : List UInt8), n = 7 - i ∧ i ≤ 7 ∧ k' ≤ k + 1 + 5 * i ∧ s.length ≤ 250 * i ∧ fr = [.adr (.b 0) 0, .any, .any, .p (.str s), .any, .p (int m), .p (int (i : Nat)), .any, .any, .any, .any, .any, .any, .any, .any, .any, .any, .any, .any, .any, .any, .any, .any, .any, .any, .any, .any, .any, .any, .any, .any, .any] ∧ L = [(.b 0, .box ((stm l k').map .p) T)]) 7 [.adr (.b 0) 0, .any, .any, .p (.str []), .any, .p (int m), .p (int (0 : Nat)), .any, .any, .any, .any, .any, .any, .any, .any, .any, .any, .any, .any, .any, .any, .any, .any, .any, .any, .any, .any, .any, .any, .any, .any, .any] [(.b 0, .box ((stm l (k + 1)).map .p) T)] (by (simp only [ZZ, YY, Zd, ite_true, ite_false, forall_const, reduceCtorEq, Nat.reduceAdd, Nat.reduceMul, Nat.reduceLeDiff, Nat.reduceLT, Nat.reduceEqDiff]; try trivial)) (by simp only [ZZ, YY, Zd, ite_true, ite_false, forall_const, reduceCtorEq, Nat.reduceAdd, Nat.reduceMul, Nat.reduceLeDiff, Nat.reduceLT, Nat.reduceEqDiff]) ⟨0, k + 1, [], by omega, by omega, by omega, by simp, rfl, rfl⟩ ?_
  rintro n fr L ⟨i, k', s, rfl, hi, hk', hs, rfl, rfl⟩
  simp only [ir_chasemake_Stream_body_L0, ZZ, YY, Zd, ite_true, ite_false, forall_const, reduceCtorEq, Nat.reduceAdd, Nat.reduceMul, Nat.reduceLeDiff, Nat.reduceLT, Nat.reduceEqDiff]
  refine br ?_ ?_
  · intro h
    have hlt : (i : Int) < m := of_decide_eq_true h
    simp only [ZZ, YY, Zd, ite_true, ite_false, forall_const, reduceCtorEq, Nat.reduceAdd, Nat.reduceMul, Nat.reduceLeDiff, Nat.reduceLT, Nat.reduceEqDiff]
    refine useS (one_ok l k' bA (by omega) hl (by decide) (by decide)) rfl rfl rfl (by simp only [ZZ, YY, Zd, ite_true, ite_false, forall_const, reduceCtorEq, Nat.reduceAdd, Nat.reduceMul, Nat.reduceLeDiff, Nat.reduceLT, Nat.reduceEqDiff]) ?_
    rintro x cs' ⟨u, rfl, hu, rfl⟩
    have hu := bA_len u hu
    simp only [ZZ, YY, Zd, ite_true, ite_false, forall_const, reduceCtorEq, Nat.reduceAdd, Nat.reduceMul, Nat.reduceLeDiff, Nat.reduceLT, Nat.reduceEqDiff]
    refine useS (one_ok l (k' + 1) bB (by omega) hl (by decide) (by decide)) rfl rfl rfl (by simp only [ZZ, YY, Zd, ite_true, ite_false, forall_const, reduceCtorEq, Nat.reduceAdd, Nat.reduceMul, Nat.reduceLeDiff, Nat.reduceLT, Nat.reduceEqDiff]) ?_
    rintro x cs' ⟨v, rfl, hv, rfl⟩
    have hv := bB_len v hv
    simp only [ZZ, YY, Zd, ite_true, ite_false, forall_const, reduceCtorEq, Nat.reduceAdd, Nat.reduceMul, Nat.reduceLeDiff, Nat.reduceLT, Nat.reduceEqDiff]
    refine ⟨by simp; omega, by simp; omega, by simp; omega, ?_⟩
    refine useS (Flip_ok l (k' + 1 + 1) 5 (by omega) hl (by decide)) rfl rfl rfl (by simp only [ZZ, YY, Zd, ite_true, ite_false, forall_const, reduceCtorEq, Nat.reduceAdd, Nat.reduceMul, Nat.reduceLeDiff, Nat.reduceLT, Nat.reduceEqDiff]) ?_
    rintro x cs' ⟨b, rfl, rfl⟩
    simp only [ZZ, YY, Zd, ite_true, ite_false, forall_const, reduceCtorEq, Nat.reduceAdd, Nat.reduceMul, Nat.reduceLeDiff, Nat.reduceLT, Nat.reduceEqDiff]
    refine br ?_ ?_
    · intro _
      simp only [ZZ, YY, Zd, ite_true, ite_false, forall_const, reduceCtorEq, Nat.reduceAdd, Nat.reduceMul, Nat.reduceLeDiff, Nat.reduceLT, Nat.reduceEqDiff]
      refine useS (one_ok l (k' + 1 + 1 + 1) bC (by omega) hl (by decide) (by decide)) rfl rfl rfl (by simp only [ZZ, YY, Zd, ite_true, ite_false, forall_const, reduceCtorEq, Nat.reduceAdd, Nat.reduceMul, Nat.reduceLeDiff, Nat.reduceLT, Nat.reduceEqDiff]) ?_
      rintro x cs' ⟨u2, rfl, hu2, rfl⟩
      have hu2 := bC_len u2 hu2
      simp only [ZZ, YY, Zd, ite_true, ite_false, forall_const, reduceCtorEq, Nat.reduceAdd, Nat.reduceMul, Nat.reduceLeDiff, Nat.reduceLT, Nat.reduceEqDiff]
      refine useS (one_ok l (k' + 1 + 1 + 1 + 1) bD (by omega) hl (by decide) (by decide)) rfl rfl rfl (by simp only [ZZ, YY, Zd, ite_true, ite_false, forall_const, reduceCtorEq, Nat.reduceAdd, Nat.reduceMul, Nat.reduceLeDiff, Nat.reduceLT, Nat.reduceEqDiff]) ?_
      rintro x cs' ⟨v2, rfl, hv2, rfl⟩
      have hv2 := bD_len v2 hv2
      simp only [ZZ, YY, Zd, ite_true, ite_false, forall_const, reduceCtorEq, Nat.reduceAdd, Nat.reduceMul, Nat.reduceLeDiff, Nat.reduceLT, Nat.reduceEqDiff]
      refine ⟨by simp; omega, by simp; omega, by simp; omega, ?_⟩
      refine cut_same (by simp only [ZZ, YY, Zd, ite_true, ite_false, forall_const, reduceCtorEq, Nat.reduceAdd, Nat.reduceMul, Nat.reduceLeDiff, Nat.reduceLT, Nat.reduceEqDiff]) ?_
      simp only [ZZ, YY, Zd, ite_true, ite_false, forall_const, reduceCtorEq, Nat.reduceAdd, Nat.reduceMul, Nat.reduceLeDiff, Nat.reduceLT, Nat.reduceEqDiff]
      refine ⟨i64_of (by omega) (by omega), end_round (7 - (i + 1)) [.adr (.b 0) 0, .any, .any, .p (.str (s ++ (u ++ v ++ [10]) ++ (u2 ++ v2 ++ [10]))), .any, .p (int m), .p (int ((i + 1 : Nat))), .any, .any, .any, .any, .any, .any, .any, .any, .any, .any, .any, .any, .any, .any, .any, .any, .any, .any, .any, .any, .any, .any, .any, .any, .any] [(.b 0, .box ((stm l (k' + 1 + 1 + 1 + 1 + 1)).map .p) T)] (by omega) (by (simp only [ZZ, YY, Zd, ite_true, ite_false, forall_const, reduceCtorEq, Nat.reduceAdd, Nat.reduceMul, Nat.reduceLeDiff, Nat.reduceLT, Nat.reduceEqDiff]; try trivial)) (by simp only [ZZ, YY, Zd, ite_true, ite_false, forall_const, reduceCtorEq, Nat.reduceAdd, Nat.reduceMul, Nat.reduceLeDiff, Nat.reduceLT, Nat.reduceEqDiff]) ⟨i + 1, k' + 1 + 1 + 1 + 1 + 1, _, rfl, by omega, by omega, by simp; omega, rfl, rfl⟩⟩
    · intro _
      simp only [ZZ, YY, Zd, ite_true, ite_false, forall_const, reduceCtorEq, Nat.reduceAdd, Nat.reduceMul, Nat.reduceLeDiff, Nat.reduceLT, Nat.reduceEqDiff]
      refine cut_same (by simp only [ZZ, YY, Zd, ite_true, ite_false, forall_const, reduceCtorEq, Nat.reduceAdd, Nat.reduceMul, Nat.reduceLeDiff, Nat.reduceLT, Nat.reduceEqDiff]) ?_
      simp only [ZZ, YY, Zd, ite_true, ite_false, forall_const, reduceCtorEq, Nat.reduceAdd, Nat.reduceMul, Nat.reduceLeDiff, Nat.reduceLT, Nat.reduceEqDiff]
      refine ⟨i64_of (by omega) (by omega), end_round (7 - (i + 1)) [.adr (.b 0) 0, .any, .any, .p (.str (s ++ (u ++ v ++ [10]))), .any, .p (int m), .p (int ((i + 1 : Nat))), .any, .any, .any, .any, .any, .any, .any, .any, .any, .any, .any, .any, .any, .any, .any, .any, .any, .any, .any, .any, .any, .any, .any, .any, .any] [(.b 0, .box ((stm l (k' + 1 + 1 + 1)).map .p) T)] (by omega) (by (simp only [ZZ, YY, Zd, ite_true, ite_false, forall_const, reduceCtorEq, Nat.reduceAdd, Nat.reduceMul, Nat.reduceLeDiff, Nat.reduceLT, Nat.reduceEqDiff]; try trivial)) (by simp only [ZZ, YY, Zd, ite_true, ite_false, forall_const, reduceCtorEq, Nat.reduceAdd, Nat.reduceMul, Nat.reduceLeDiff, Nat.reduceLT, Nat.reduceEqDiff]) ⟨i + 1, k' + 1 + 1 + 1, _, rfl, by omega, by omega, by simp; omega, rfl, rfl⟩⟩
  · intro h
    simp only [ZZ, YY, Zd, ite_true, ite_false, forall_const, reduceCtorEq, Nat.reduceAdd, Nat.reduceMul, Nat.reduceLeDiff, Nat.reduceLT, Nat.reduceEqDiff]
    exact fin_S (stm l k') rfl ⟨s, k', rfl, by omega, rfl, by omega⟩
end
end Go.Proofs.YtndjmidmfmcbkaaGreatDoor

/- The body of a mail, as it may be cut or made large. -/
namespace Go.Proofs.YtndjmidmfmcbkaaGreatDoor
set_option linter.unusedVariables false
set_option linter.unusedSimpArgs false
set_option linter.defProp false

/- internal/stringslite.TrimSuffix -/
def ir_internal_stringslite_TrimSuffix : IC :=
  (.seq (.reg [⟨some 4, .mov (.c (.str [])), none⟩])
    (.seq (.seq (.reg [⟨some 5, .mov (.t 0), none⟩,
      ⟨some 6, .mov (.t 1), none⟩,
      ⟨some 7, .call 228 [.t 5, .t 6], none⟩])
    (.cond (.t 7) (.seq (.reg [⟨some 8, .mov (.t 0), none⟩,
      ⟨some 9, .mov (.t 0), none⟩,
      ⟨some 10, .sln (.t 9), none⟩,
      ⟨some 11, .mov (.t 1), none⟩,
      ⟨some 12, .sln (.t 11), none⟩,
      ⟨some 13, .bin .sub (.t 10) (.t 12), none⟩,
      ⟨some 14, .ssl (.t 8) none (some (.t 13)), none⟩,
      ⟨some 4, .mov (.t 14), none⟩])
    .ret) .skip))
    (.seq (.reg [⟨some 15, .mov (.t 0), none⟩,
      ⟨some 4, .mov (.t 15), none⟩])
    .ret)))
def rs_internal_stringslite_TrimSuffix : List IRes := [.t 4]
theorem ck_internal_stringslite_TrimSuffix : chkF Tryz.prog Tryz.f179 ir_internal_stringslite_TrimSuffix rs_internal_stringslite_TrimSuffix 16 = true := by kernel_rfl
/- strings.TrimSuffix -/
def ir_strings_TrimSuffix : IC :=
  (.seq (.reg [⟨some 4, .mov (.c (.str [])), none⟩])
    (.seq (.reg [⟨some 5, .mov (.t 0), none⟩,
      ⟨some 6, .mov (.t 1), none⟩,
      ⟨some 7, .call 179 [.t 5, .t 6], none⟩,
      ⟨some 4, .mov (.t 7), none⟩])
    .ret))
def rs_strings_TrimSuffix : List IRes := [.t 4]
theorem ck_strings_TrimSuffix : chkF Tryz.prog Tryz.f101 ir_strings_TrimSuffix rs_strings_TrimSuffix 8 = true := by kernel_rfl
/- (*paperchase/chasemake.Stream).MailBody -/
def ir_chasemake_Stream_MailBody : IC :=
  (.seq (.reg [⟨some 2, .mov (.c (.str [])), none⟩])
    (.seq (.reg [⟨some 4, .mov (.t 0), none⟩,
      ⟨some 5, .call 100 [.t 4], none⟩,
      ⟨some 3, .mov (.t 5), none⟩])
    (.seq (.seq (.reg [⟨some 6, .mov (.t 0), none⟩,
      ⟨some 7, .call 65 [.t 6, .c (.int .i64 14)], none⟩])
    (.block 0 (.seq (.reg [⟨some 9, .bin .eql (.t 7) (.c (.int .i64 0)), none⟩,
      ⟨some 8, .mov (.t 9), none⟩])
    (.cond (.t 8) (.seq (.reg [⟨some 10, .mov (.t 3), none⟩,
      ⟨some 11, .call 101 [.t 10, .c (.str [10])], none⟩,
      ⟨some 2, .mov (.t 11), none⟩])
    .ret) (.seq (.reg [⟨some 13, .bin .eql (.t 7) (.c (.int .i64 1)), none⟩,
      ⟨some 12, .mov (.t 13), none⟩])
    (.cond (.t 12) (.seq (.reg [⟨some 14, .mov (.t 0), none⟩,
      ⟨some 15, .call 71 [.c (.str [98]), .c (.int .i64 20000)], none⟩,
      ⟨some 16, .bin .add (.t 15) (.c (.str [10])), none⟩,
      ⟨some 17, .bsl 1 [.c (.str [255, 10]), .c (.str [97, 9, 98, 10]), .t 16], none⟩,
      ⟨some 18, .call 67 [.t 14, .t 17], none⟩,
      ⟨some 2, .mov (.t 18), none⟩])
    .ret) .skip))))))
    (.seq (.reg [⟨some 19, .mov (.t 3), none⟩,
      ⟨some 2, .mov (.t 19), none⟩])
    .ret))))
def rs_chasemake_Stream_MailBody : List IRes := [.t 2]
theorem ck_chasemake_Stream_MailBody : chkF Tryz.prog Tryz.f32 ir_chasemake_Stream_MailBody rs_chasemake_Stream_MailBody 20 = true := by kernel_rfl


section
variable {E : Envt}
def trimSufL (s p : List UInt8) : List UInt8 := if sufE s p = true then List.take (s.length - p.length) s else s
theorem trimSufL_len (s p : List UInt8) : (trimSufL s p).length ≤ s.length := by
  unfold trimSufL
  split
  · simp
  · exact Nat.le_refl _
theorem TrimSuffixL_ok (s p : List UInt8) (hs : s.length ≤ 1000000000) (hp : p.length ≤ 1000000000) : PCall Tryz.prog E 179 [.str s, .str p] (· = .str (trimSufL s p)) := by
  refine pcallF mixed Tryz.func179 ck_internal_stringslite_TrimSuffix ?_
  simp only [a0, l0, OS.ao, List.map_cons, List.map_nil, List.length_cons, List.length_nil, List.cons_append, List.nil_append, Nat.reduceSub, Nat.reduceAdd, List.replicate_succ, List.replicate_zero, ir_internal_stringslite_TrimSuffix, rs_internal_stringslite_TrimSuffix, ZZ, YY, Zd, ite_true, ite_false, forall_const, reduceCtorEq, Nat.reduceAdd, Nat.reduceMul, Nat.reduceLeDiff, Nat.reduceLT, Nat.reduceEqDiff]
  refine use1 (sHasSuffix_ok s p (by omega)) rfl (.inl rfl) ?_
  simp only [ZZ, YY, Zd, ite_true, ite_false, forall_const, reduceCtorEq, Nat.reduceAdd, Nat.reduceMul, Nat.reduceLeDiff, Nat.reduceLT, Nat.reduceEqDiff]
  refine br ?_ ?_
  · intro h
    have hb : p.length ≤ s.length := by
      have := of_decide_eq_true (Bool.and_eq_true_iff.1 h).1
      omega
    have e : ((s.length : Int) - p.length).toNat = s.length - p.length := by omega
    simp only [ZZ, YY, Zd, ite_true, ite_false, forall_const, reduceCtorEq, Nat.reduceAdd, Nat.reduceMul, Nat.reduceLeDiff, Nat.reduceLT, Nat.reduceEqDiff, e]
    refine ⟨i64_of (by omega) (by omega), ⟨by omega, by omega⟩, ?_⟩
    rw [trimSufL, if_pos h]
  · intro h
    simp only [ZZ, YY, Zd, ite_true, ite_false, forall_const, reduceCtorEq, Nat.reduceAdd, Nat.reduceMul, Nat.reduceLeDiff, Nat.reduceLT, Nat.reduceEqDiff]
    rw [trimSufL, if_neg (by simp [h])]
theorem TrimSuffix_ok (s p : List UInt8) (hs : s.length ≤ 1000000000) (hp : p.length ≤ 1000000000) : PCall Tryz.prog E 101 [.str s, .str p] (· = .str (trimSufL s p)) := by
  refine pcallF mixed Tryz.func101 ck_strings_TrimSuffix ?_
  simp only [a0, l0, OS.ao, List.map_cons, List.map_nil, List.length_cons, List.length_nil, List.cons_append, List.nil_append, Nat.reduceSub, Nat.reduceAdd, List.replicate_succ, List.replicate_zero, ir_strings_TrimSuffix, rs_strings_TrimSuffix, ZZ, YY, Zd, ite_true, ite_false, forall_const, reduceCtorEq, Nat.reduceAdd, Nat.reduceMul, Nat.reduceLeDiff, Nat.reduceLT, Nat.reduceEqDiff]
  refine use1 (TrimSuffixL_ok s p hs hp) rfl (.inl rfl) ?_
  simp only [ZZ, YY, Zd, ite_true, ite_false, forall_const, reduceCtorEq, Nat.reduceAdd, Nat.reduceMul, Nat.reduceLeDiff, Nat.reduceLT, Nat.reduceEqDiff]
theorem MailBody_ok (l : List Int) (k : Nat) (hk : k ≤ 900000) (hl : l.length ≤ 9223372036854775807) :
    SCall Tryz.prog E 32 T (stm l k) [] (fun x cs' => ∃ s k', x = .str s ∧ s.length ≤ 20001 ∧ cs' = stm l k' ∧ k' ≤ k + 45) := by
  unfold SCall
  refine gcallP mixed Tryz.func32 ck_chasemake_Stream_MailBody ?_
  simp only [a0, l0, OS.ao, List.map_cons, List.map_nil, List.length_cons, List.length_nil, List.cons_append, List.nil_append, Nat.reduceSub, Nat.reduceAdd, List.replicate_succ, List.replicate_zero, ir_chasemake_Stream_MailBody, rs_chasemake_Stream_MailBody, ZZ, YY, Zd, ite_true, ite_false, forall_const, reduceCtorEq, Nat.reduceAdd, Nat.reduceMul, Nat.reduceLeDiff, Nat.reduceLT, Nat.reduceEqDiff]
  refine useS (body_ok l k hk hl) rfl rfl rfl (by simp only [ZZ, YY, Zd, ite_true, ite_false, forall_const, reduceCtorEq, Nat.reduceAdd, Nat.reduceMul, Nat.reduceLeDiff, Nat.reduceLT, Nat.reduceEqDiff]) ?_
  rintro x cs' ⟨s, k', rfl, hs, rfl, hk'⟩
  simp only [ZZ, YY, Zd, ite_true, ite_false, forall_const, reduceCtorEq, Nat.reduceAdd, Nat.reduceMul, Nat.reduceLeDiff, Nat.reduceLT, Nat.reduceEqDiff]
  refine useS (Next_ok l k' 14 (by omega) hl (by decide)) rfl rfl rfl (by simp only [ZZ, YY, Zd, ite_true, ite_false, forall_const, reduceCtorEq, Nat.reduceAdd, Nat.reduceMul, Nat.reduceLeDiff, Nat.reduceLT, Nat.reduceEqDiff]) ?_
  rintro x cs' ⟨y, rfl, rfl⟩
  generalize below y 14 = m
  simp only [ZZ, YY, Zd, ite_true, ite_false, forall_const, reduceCtorEq, Nat.reduceAdd, Nat.reduceMul, Nat.reduceLeDiff, Nat.reduceLT, Nat.reduceEqDiff]
  refine br ?_ ?_
  · intro _
    simp only [ZZ, YY, Zd, ite_true, ite_false, forall_const, reduceCtorEq, Nat.reduceAdd, Nat.reduceMul, Nat.reduceLeDiff, Nat.reduceLT, Nat.reduceEqDiff]
    refine use1 (TrimSuffix_ok s [10] (by omega) (by simp)) rfl (.inl rfl) ?_
    simp only [ZZ, YY, Zd, ite_true, ite_false, forall_const, reduceCtorEq, Nat.reduceAdd, Nat.reduceMul, Nat.reduceLeDiff, Nat.reduceLT, Nat.reduceEqDiff]
    have := trimSufL_len s [10]
    exact fin_S (stm l (k' + 1)) rfl ⟨_, _, rfl, by omega, rfl, by omega⟩
  · intro _
    simp only [ZZ, YY, Zd, ite_true, ite_false, forall_const, reduceCtorEq, Nat.reduceAdd, Nat.reduceMul, Nat.reduceLeDiff, Nat.reduceLT, Nat.reduceEqDiff]
    refine br ?_ ?_
    · intro _
      simp only [ZZ, YY, Zd, ite_true, ite_false, forall_const, reduceCtorEq, Nat.reduceAdd, Nat.reduceMul, Nat.reduceLeDiff, Nat.reduceLT, Nat.reduceEqDiff]
      refine use1 (RepeatG_ok [98] 20000 (by omega) (by simp)) rfl (.inl rfl) ?_
      have hln : (Lib.repeatL [98] 20000).length = 20000 := by rw [Lib.repeatL_length]; rfl
      generalize Lib.repeatL [98] 20000 = big at hln ⊢
      simp only [ZZ, YY, Zd, ite_true, ite_false, forall_const, reduceCtorEq, Nat.reduceAdd, Nat.reduceMul, Nat.reduceLeDiff, Nat.reduceLT, Nat.reduceEqDiff]
      refine ⟨by simp [hln], ?_⟩
      refine useS (one_ok l (k' + 1) [[255, 10], [97, 9, 98, 10], big ++ [10]] (by omega) hl (by simp) (by simp)) rfl rfl rfl (by simp only [ZZ, YY, Zd, ite_true, ite_false, forall_const, reduceCtorEq, Nat.reduceAdd, Nat.reduceMul, Nat.reduceLeDiff, Nat.reduceLT, Nat.reduceEqDiff]) ?_
      rintro x cs' ⟨u, rfl, hu, rfl⟩
      simp only [ZZ, YY, Zd, ite_true, ite_false, forall_const, reduceCtorEq, Nat.reduceAdd, Nat.reduceMul, Nat.reduceLeDiff, Nat.reduceLT, Nat.reduceEqDiff]
      refine fin_S (stm l (k' + 1 + 1)) rfl ⟨u, _, rfl, ?_, rfl, by omega⟩
      simp only [List.mem_cons, List.not_mem_nil, or_false] at hu
      rcases hu with rfl | rfl | rfl <;> simp [hln]
    · intro _
      simp only [ZZ, YY, Zd, ite_true, ite_false, forall_const, reduceCtorEq, Nat.reduceAdd, Nat.reduceMul, Nat.reduceLeDiff, Nat.reduceLT, Nat.reduceEqDiff]
      exact fin_S (stm l (k' + 1)) rfl ⟨s, _, rfl, by omega, rfl, by omega⟩
end
end Go.Proofs.YtndjmidmfmcbkaaGreatDoor

/- Terms: their checks, on both sides. -/
namespace Go.Proofs.YtndjmidmfmcbkaaGreatDoor
set_option linter.unusedVariables false
set_option linter.unusedSimpArgs false
set_option linter.defProp false

/- strings.Contains -/
def ir_strings_Contains : IC :=
  (.seq (.reg [⟨some 4, .mov (.c (.bool false)), none⟩])
    (.seq (.reg [⟨some 5, .mov (.t 0), none⟩,
      ⟨some 6, .mov (.t 1), none⟩,
      ⟨some 7, .call 232 [.t 5, .t 6], none⟩,
      ⟨some 8, .bin .geq (.t 7) (.c (.int .i64 0)), none⟩,
      ⟨some 4, .mov (.t 8), none⟩])
    .ret))
def rs_strings_Contains : List IRes := [.t 4]
theorem ck_strings_Contains : chkF Tryz.prog Tryz.f243 ir_strings_Contains rs_strings_Contains 9 = true := by kernel_rfl


section
theorem Contains_ok (s t : List UInt8) (hs : s.length ≤ 1000000000) : PCall Tryz.prog E0 243 [.str s, .str t] (· = .bool (decide (0 ≤ Lib.index s t))) := by
  refine pcallF mixed Tryz.func243 ck_strings_Contains ?_
  simp only [a0, l0, OS.ao, List.map_cons, List.map_nil, List.length_cons, List.length_nil, List.cons_append, List.nil_append, Nat.reduceSub, Nat.reduceAdd, List.replicate_succ, List.replicate_zero, ir_strings_Contains, rs_strings_Contains, ZZ, YY, Zd, ite_true, ite_false, forall_const, reduceCtorEq, Nat.reduceAdd, Nat.reduceMul, Nat.reduceLeDiff, Nat.reduceLT, Nat.reduceEqDiff]
  refine use1 (Index_ok s t hs) rfl (.inl rfl) ?_
  simp only [ZZ, YY, Zd, ite_true, ite_false, forall_const, reduceCtorEq, Nat.reduceAdd, Nat.reduceMul, Nat.reduceLeDiff, Nat.reduceLT, Nat.reduceEqDiff]
end
end Go.Proofs.YtndjmidmfmcbkaaGreatDoor

/- Prefixes and suffixes that are cut; plain strings; names. -/
namespace Go.Proofs.YtndjmidmfmcbkaaGreatDoor
open Go.RowKit
set_option linter.unusedVariables false
set_option linter.unusedSimpArgs false
set_option linter.defProp false

/- internal/stringslite.HasPrefix -/
def ir_internal_stringslite_HasPrefix : IC :=
  (.seq (.reg [⟨some 4, .mov (.c (.bool false)), none⟩])
    (.seq (.reg [⟨some 5, .mov (.t 0), none⟩,
      ⟨some 6, .sln (.t 5), none⟩,
      ⟨some 7, .mov (.t 1), none⟩,
      ⟨some 8, .sln (.t 7), none⟩,
      ⟨some 9, .bin .geq (.t 6) (.t 8), none⟩,
      ⟨some 10, .mov (.t 9), none⟩,
      ⟨some 11, .mov (.t 0), (some (10, true))⟩,
      ⟨some 12, .mov (.t 1), (some (10, true))⟩,
      ⟨some 13, .sln (.t 12), (some (10, true))⟩,
      ⟨some 14, .ssl (.t 11) none (some (.t 13)), (some (10, true))⟩,
      ⟨some 15, .mov (.t 1), (some (10, true))⟩,
      ⟨some 16, .bin .eql (.t 14) (.t 15), (some (10, true))⟩,
      ⟨some 17, .pick (.t 10) (.t 16) (.c (.bool false)), none⟩,
      ⟨some 4, .mov (.t 17), none⟩])
    .ret))
def rs_internal_stringslite_HasPrefix : List IRes := [.t 4]
theorem ck_internal_stringslite_HasPrefix : chkF Tryz.prog Tryz.f186 ir_internal_stringslite_HasPrefix rs_internal_stringslite_HasPrefix 18 = true := by kernel_rfl
/- internal/stringslite.CutSuffix -/
def ir_internal_stringslite_CutSuffix : IC :=
  (.seq (.reg [⟨some 4, .mov (.c (.str [])), none⟩,
      ⟨some 5, .mov (.c (.bool false)), none⟩])
    (.seq (.seq (.reg [⟨some 6, .mov (.t 0), none⟩,
      ⟨some 7, .mov (.t 1), none⟩,
      ⟨some 8, .call 228 [.t 6, .t 7], none⟩,
      ⟨some 9, .not (.t 8), none⟩])
    (.cond (.t 9) (.seq (.reg [⟨some 10, .mov (.t 0), none⟩,
      ⟨some 4, .mov (.t 10), none⟩,
      ⟨some 5, .mov (.c (.bool false)), none⟩])
    .ret) .skip))
    (.seq (.reg [⟨some 11, .mov (.t 0), none⟩,
      ⟨some 12, .mov (.t 0), none⟩,
      ⟨some 13, .sln (.t 12), none⟩,
      ⟨some 14, .mov (.t 1), none⟩,
      ⟨some 15, .sln (.t 14), none⟩,
      ⟨some 16, .bin .sub (.t 13) (.t 15), none⟩,
      ⟨some 17, .ssl (.t 11) none (some (.t 16)), none⟩,
      ⟨some 4, .mov (.t 17), none⟩,
      ⟨some 5, .mov (.c (.bool true)), none⟩])
    .ret)))
def rs_internal_stringslite_CutSuffix : List IRes := [.t 4, .t 5]
theorem ck_internal_stringslite_CutSuffix : chkF Tryz.prog Tryz.f236 ir_internal_stringslite_CutSuffix rs_internal_stringslite_CutSuffix 18 = true := by kernel_rfl
/- strings.CutSuffix -/
def ir_strings_CutSuffix : IC :=
  (.seq (.reg [⟨some 4, .mov (.c (.str [])), none⟩,
      ⟨some 5, .mov (.c (.bool false)), none⟩])
    (.seq (.reg [⟨some 6, .mov (.t 0), none⟩,
      ⟨some 7, .mov (.t 1), none⟩,
      ⟨some 8, .call 236 [.t 6, .t 7], none⟩,
      ⟨some 9, .ext 0 (.t 8), none⟩,
      ⟨some 10, .ext 1 (.t 8), none⟩,
      ⟨some 4, .mov (.t 9), none⟩,
      ⟨some 5, .mov (.t 10), none⟩])
    .ret))
def rs_strings_CutSuffix : List IRes := [.t 4, .t 5]
theorem ck_strings_CutSuffix : chkF Tryz.prog Tryz.f163 ir_strings_CutSuffix rs_strings_CutSuffix 11 = true := by kernel_rfl
/- internal/stringslite.CutPrefix -/
def ir_internal_stringslite_CutPrefix : IC :=
  (.seq (.reg [⟨some 4, .mov (.c (.str [])), none⟩,
      ⟨some 5, .mov (.c (.bool false)), none⟩])
    (.seq (.seq (.reg [⟨some 6, .mov (.t 0), none⟩,
      ⟨some 7, .mov (.t 1), none⟩,
      ⟨some 8, .call 186 [.t 6, .t 7], none⟩,
      ⟨some 9, .not (.t 8), none⟩])
    (.cond (.t 9) (.seq (.reg [⟨some 10, .mov (.t 0), none⟩,
      ⟨some 4, .mov (.t 10), none⟩,
      ⟨some 5, .mov (.c (.bool false)), none⟩])
    .ret) .skip))
    (.seq (.reg [⟨some 11, .mov (.t 0), none⟩,
      ⟨some 12, .mov (.t 1), none⟩,
      ⟨some 13, .sln (.t 12), none⟩,
      ⟨some 14, .ssl (.t 11) (some (.t 13)) none, none⟩,
      ⟨some 4, .mov (.t 14), none⟩,
      ⟨some 5, .mov (.c (.bool true)), none⟩])
    .ret)))
def rs_internal_stringslite_CutPrefix : List IRes := [.t 4, .t 5]
theorem ck_internal_stringslite_CutPrefix : chkF Tryz.prog Tryz.f237 ir_internal_stringslite_CutPrefix rs_internal_stringslite_CutPrefix 15 = true := by kernel_rfl
/- strings.CutPrefix -/
def ir_strings_CutPrefix : IC :=
  (.seq (.reg [⟨some 4, .mov (.c (.str [])), none⟩,
      ⟨some 5, .mov (.c (.bool false)), none⟩])
    (.seq (.reg [⟨some 6, .mov (.t 0), none⟩,
      ⟨some 7, .mov (.t 1), none⟩,
      ⟨some 8, .call 237 [.t 6, .t 7], none⟩,
      ⟨some 9, .ext 0 (.t 8), none⟩,
      ⟨some 10, .ext 1 (.t 8), none⟩,
      ⟨some 4, .mov (.t 9), none⟩,
      ⟨some 5, .mov (.t 10), none⟩])
    .ret))
def rs_strings_CutPrefix : List IRes := [.t 4, .t 5]
theorem ck_strings_CutPrefix : chkF Tryz.prog Tryz.f165 ir_strings_CutPrefix rs_strings_CutPrefix 11 = true := by kernel_rfl
/- internal/stringslite.TrimPrefix -/
def ir_internal_stringslite_TrimPrefix : IC :=
  (.seq (.reg [⟨some 4, .mov (.c (.str [])), none⟩])
    (.seq (.seq (.reg [⟨some 5, .mov (.t 0), none⟩,
      ⟨some 6, .mov (.t 1), none⟩,
      ⟨some 7, .call 186 [.t 5, .t 6], none⟩])
    (.cond (.t 7) (.seq (.reg [⟨some 8, .mov (.t 0), none⟩,
      ⟨some 9, .mov (.t 1), none⟩,
      ⟨some 10, .sln (.t 9), none⟩,
      ⟨some 11, .ssl (.t 8) (some (.t 10)) none, none⟩,
      ⟨some 4, .mov (.t 11), none⟩])
    .ret) .skip))
    (.seq (.reg [⟨some 12, .mov (.t 0), none⟩,
      ⟨some 4, .mov (.t 12), none⟩])
    .ret)))
def rs_internal_stringslite_TrimPrefix : List IRes := [.t 4]
theorem ck_internal_stringslite_TrimPrefix : chkF Tryz.prog Tryz.f187 ir_internal_stringslite_TrimPrefix rs_internal_stringslite_TrimPrefix 13 = true := by kernel_rfl
/- strings.TrimPrefix -/
def ir_strings_TrimPrefix : IC :=
  (.seq (.reg [⟨some 4, .mov (.c (.str [])), none⟩])
    (.seq (.reg [⟨some 5, .mov (.t 0), none⟩,
      ⟨some 6, .mov (.t 1), none⟩,
      ⟨some 7, .call 187 [.t 5, .t 6], none⟩,
      ⟨some 4, .mov (.t 7), none⟩])
    .ret))
def rs_strings_TrimPrefix : List IRes := [.t 4]
theorem ck_strings_TrimPrefix : chkF Tryz.prog Tryz.f109 ir_strings_TrimPrefix rs_strings_TrimPrefix 8 = true := by kernel_rfl
/- paperchase/base.Plain -/
def ir_base_Plain : IC :=
  (.seq (.reg [⟨some 2, .mov (.c (.bool false)), none⟩])
    (.seq (.reg [⟨some 3, .mov (.t 0), none⟩,
      ⟨some 4, .call 245 [.t 3, .c (.bool false)], none⟩,
      ⟨some 5, .mov (.t 4), none⟩,
      ⟨some 6, .mov (.t 0), (some (5, true))⟩,
      ⟨some 7, .call 108 [.t 6, .c (.str [32])], (some (5, true))⟩,
      ⟨some 8, .not (.t 7), (some (5, true))⟩,
      ⟨some 9, .pick (.t 5) (.t 8) (.c (.bool false)), none⟩,
      ⟨some 10, .mov (.t 9), none⟩,
      ⟨some 11, .mov (.t 0), (some (10, true))⟩,
      ⟨some 12, .call 156 [.t 11, .c (.str [32])], (some (10, true))⟩,
      ⟨some 13, .not (.t 12), (some (10, true))⟩,
      ⟨some 14, .pick (.t 10) (.t 13) (.c (.bool false)), none⟩,
      ⟨some 15, .mov (.t 14), none⟩,
      ⟨some 16, .mov (.t 0), (some (15, true))⟩,
      ⟨some 17, .call 243 [.t 16, .c (.str [32, 32])], (some (15, true))⟩,
      ⟨some 18, .not (.t 17), (some (15, true))⟩,
      ⟨some 19, .pick (.t 15) (.t 18) (.c (.bool false)), none⟩,
      ⟨some 2, .mov (.t 19), none⟩])
    .ret))
def rs_base_Plain : List IRes := [.t 2]
theorem ck_base_Plain : chkF Tryz.prog Tryz.f242 ir_base_Plain rs_base_Plain 20 = true := by kernel_rfl
/- strings.ContainsAny -/
def ir_strings_ContainsAny : IC :=
  (.seq (.reg [⟨some 4, .mov (.c (.bool false)), none⟩])
    (.seq (.reg [⟨some 5, .mov (.t 0), none⟩,
      ⟨some 6, .mov (.t 1), none⟩,
      ⟨some 7, .call 244 [.t 5, .t 6], none⟩,
      ⟨some 8, .bin .geq (.t 7) (.c (.int .i64 0)), none⟩,
      ⟨some 4, .mov (.t 8), none⟩])
    .ret))
def rs_strings_ContainsAny : List IRes := [.t 4]
theorem ck_strings_ContainsAny : chkF Tryz.prog Tryz.f178 ir_strings_ContainsAny rs_strings_ContainsAny 9 = true := by kernel_rfl
/- paperchase/thread.isName -/
def ir_thread_isName : IC :=
  (.seq (.reg [⟨some 2, .mov (.c (.bool false)), none⟩])
    (.seq (.reg [⟨some 3, .mov (.t 0), none⟩,
      ⟨some 4, .sln (.t 3), none⟩,
      ⟨some 5, .bin .leq (.t 4) (.c (.int .i64 60)), none⟩,
      ⟨some 6, .mov (.t 5), none⟩,
      ⟨some 7, .mov (.t 0), (some (6, true))⟩,
      ⟨some 8, .call 242 [.t 7], (some (6, true))⟩,
      ⟨some 9, .pick (.t 6) (.t 8) (.c (.bool false)), none⟩,
      ⟨some 10, .mov (.t 9), none⟩,
      ⟨some 11, .mov (.t 0), (some (10, true))⟩,
      ⟨some 12, .call 178 [.t 11, .c (.str [34, 60, 62, 44, 59])], (some (10, true))⟩,
      ⟨some 13, .not (.t 12), (some (10, true))⟩,
      ⟨some 14, .pick (.t 10) (.t 13) (.c (.bool false)), none⟩,
      ⟨some 2, .mov (.t 14), none⟩])
    .ret))
def rs_thread_isName : List IRes := [.t 2]
theorem ck_thread_isName : chkF Tryz.prog Tryz.f176 ir_thread_isName rs_thread_isName 15 = true := by kernel_rfl
/- paperchase/thread.right -/
def ir_thread_right : IC :=
  (.seq (.reg [⟨some 1, .box 49 (.t 0), none⟩,
      ⟨some 2, .mov (.c (.bool false)), none⟩])
    (.seq (.reg [⟨some 3, .fla 0 (.t 1), none⟩,
      ⟨some 4, .ld 1 false (.t 3), none⟩,
      ⟨some 5, .call 176 [.t 4], none⟩,
      ⟨some 6, .mov (.t 5), none⟩,
      ⟨some 7, .fla 1 (.t 1), (some (6, true))⟩,
      ⟨some 8, .ld 1 false (.t 7), (some (6, true))⟩,
      ⟨some 9, .call 75 [.t 8], (some (6, true))⟩,
      ⟨some 10, .pick (.t 6) (.t 9) (.c (.bool false)), none⟩,
      ⟨some 2, .mov (.t 10), none⟩])
    .ret))
def rs_thread_right : List IRes := [.t 2]
theorem ck_thread_right : chkF Tryz.prog Tryz.f97 ir_thread_right rs_thread_right 11 = true := by kernel_rfl
/- paperchase/thread.address -/
def ir_thread_address : IC :=
  (.seq (.reg [⟨some 2, .alc 49 [.str [], .str []], none⟩,
      ⟨some 3, .mov (.c (.bool false)), none⟩])
    (.seq (.reg [⟨some 19, .mov (.t 0), none⟩,
      ⟨some 20, .call 94 [.t 19, .c (.str [32])], none⟩,
      ⟨some 4, .mov (.t 20), none⟩])
    (.seq (.reg [⟨some 22, .mov (.t 4), none⟩,
      ⟨some 23, .call 83 [.t 22, .c (.str [60])], none⟩,
      ⟨some 21, .mov (.t 23), none⟩,
      ⟨some 24, .ext 0 (.t 21), none⟩,
      ⟨some 25, .ext 1 (.t 21), none⟩,
      ⟨some 26, .ext 2 (.t 21), none⟩,
      ⟨some 5, .mov (.t 24), none⟩,
      ⟨some 6, .mov (.t 25), none⟩,
      ⟨some 7, .mov (.t 26), none⟩])
    (.seq (.seq (.reg [⟨some 27, .mov (.t 7), none⟩,
      ⟨some 28, .not (.t 27), none⟩])
    (.cond (.t 28) (.seq (.reg [⟨some 29, .mov (.t 4), none⟩,
      ⟨some 30, .call 162 [.t 29], none⟩,
      ⟨some 31, .bld [.str [], .str []] [(1, 1, .t 30)], none⟩,
      ⟨some 8, .alc 49 [.str [], .str []], none⟩,
      ⟨none, .st 2 (.t 8) (.t 31), none⟩])
    (.seq (.drg [⟨some 32, .ld 2 true (.t 8), none⟩,
      ⟨some 33, .ld 2 true (.t 8), none⟩,
      ⟨some 34, .pcall 0 97 [.t 33], none⟩,
      ⟨none, .st 2 (.t 2) (.t 32), none⟩,
      ⟨some 3, .mov (.t 34), none⟩])
    .ret)) .skip))
    (.seq (.reg [⟨some 36, .mov (.t 6), none⟩,
      ⟨some 37, .call 163 [.t 36, .c (.str [62])], none⟩,
      ⟨some 35, .mov (.t 37), none⟩,
      ⟨some 38, .ext 0 (.t 35), none⟩,
      ⟨some 39, .ext 1 (.t 35), none⟩,
      ⟨some 6, .mov (.t 38), none⟩,
      ⟨some 9, .mov (.t 39), none⟩])
    (.seq (.reg [⟨some 40, .mov (.t 6), none⟩,
      ⟨some 41, .call 162 [.t 40], none⟩,
      ⟨some 42, .bld [.str [], .str []] [(1, 1, .t 41)], none⟩,
      ⟨some 10, .alc 49 [.str [], .str []], none⟩,
      ⟨none, .st 2 (.t 10) (.t 42), none⟩])
    (.seq (.seq (.reg [⟨some 43, .mov (.t 5), none⟩,
      ⟨some 44, .bin .eql (.t 43) (.c (.str [])), none⟩])
    (.cond (.t 44) (.seq (.drg [⟨some 45, .ld 2 true (.t 10), none⟩,
      ⟨some 46, .mov (.t 9), none⟩,
      ⟨some 47, .mov (.t 46), none⟩,
      ⟨some 48, .ld 2 true (.t 10), (some (47, true))⟩,
      ⟨some 49, .pcall 0 97 [.t 48], (some (47, true))⟩,
      ⟨some 50, .pick (.t 47) (.t 49) (.c (.bool false)), none⟩,
      ⟨none, .st 2 (.t 2) (.t 45), none⟩,
      ⟨some 3, .mov (.t 50), none⟩])
    .ret) .skip))
    (.seq (.reg [⟨some 51, .mov (.t 5), none⟩,
      ⟨some 52, .call 164 [.t 51, .c (.str [32])], none⟩,
      ⟨some 11, .mov (.t 52), none⟩])
    (.seq (.seq (.reg [⟨some 53, .mov (.t 11), none⟩,
      ⟨some 54, .mov (.t 5), none⟩,
      ⟨some 55, .bin .eql (.t 53) (.t 54), none⟩])
    (.cond (.t 55) (.seq (.reg [⟨some 56, .ld 2 true (.t 10), none⟩,
      ⟨none, .st 2 (.t 2) (.t 56), none⟩,
      ⟨some 3, .mov (.c (.bool false)), none⟩])
    .ret) .skip))
    (.seq (.seq (.reg [⟨some 58, .mov (.t 11), none⟩,
      ⟨some 59, .call 165 [.t 58, .c (.str [34])], none⟩,
      ⟨some 57, .mov (.t 59), none⟩,
      ⟨some 60, .ext 0 (.t 57), none⟩,
      ⟨some 61, .ext 1 (.t 57), none⟩,
      ⟨some 12, .mov (.t 60), none⟩,
      ⟨some 13, .mov (.t 61), none⟩])
    (.seq (.reg [⟨some 62, .mov (.t 13), none⟩])
    (.cond (.t 62) (.seq (.reg [⟨some 64, .mov (.t 12), none⟩,
      ⟨some 65, .call 163 [.t 64, .c (.str [34])], none⟩,
      ⟨some 63, .mov (.t 65), none⟩,
      ⟨some 66, .ext 0 (.t 63), none⟩,
      ⟨some 67, .ext 1 (.t 63), none⟩,
      ⟨some 14, .mov (.t 66), none⟩,
      ⟨some 15, .mov (.t 67), none⟩])
    (.seq (.seq (.reg [⟨some 68, .mov (.t 15), none⟩,
      ⟨some 69, .not (.t 68), none⟩])
    (.cond (.t 69) (.seq (.reg [⟨some 70, .ld 2 true (.t 10), none⟩,
      ⟨none, .st 2 (.t 2) (.t 70), none⟩,
      ⟨some 3, .mov (.c (.bool false)), none⟩])
    .ret) .skip))
    (.seq (.reg [⟨some 71, .mov (.t 14), none⟩,
      ⟨some 11, .mov (.t 71), none⟩])
    (.seq (.reg [⟨some 73, .mov (.t 14), none⟩,
      ⟨some 74, .call 83 [.t 73, .c (.str [44, 32])], none⟩,
      ⟨some 72, .mov (.t 74), none⟩,
      ⟨some 75, .ext 0 (.t 72), none⟩,
      ⟨some 76, .ext 1 (.t 72), none⟩,
      ⟨some 77, .ext 2 (.t 72), none⟩,
      ⟨some 16, .mov (.t 75), none⟩,
      ⟨some 17, .mov (.t 76), none⟩,
      ⟨some 18, .mov (.t 77), none⟩])
    (.seq (.reg [⟨some 78, .mov (.t 18), none⟩,
      ⟨some 79, .mov (.t 78), none⟩,
      ⟨some 80, .mov (.t 16), (some (79, true))⟩,
      ⟨some 81, .bin .neq (.t 80) (.c (.str [])), (some (79, true))⟩,
      ⟨some 82, .pick (.t 79) (.t 81) (.c (.bool false)), none⟩,
      ⟨some 83, .mov (.t 82), none⟩,
      ⟨some 84, .mov (.t 17), (some (83, true))⟩,
      ⟨some 85, .bin .neq (.t 84) (.c (.str [])), (some (83, true))⟩,
      ⟨some 86, .pick (.t 83) (.t 85) (.c (.bool false)), none⟩])
    (.cond (.t 86) (.reg [⟨some 87, .mov (.t 17), none⟩,
      ⟨some 88, .bin .add (.t 87) (.c (.str [32])), none⟩,
      ⟨some 89, .mov (.t 16), none⟩,
      ⟨some 90, .bin .add (.t 88) (.t 89), none⟩,
      ⟨some 11, .mov (.t 90), none⟩]) .skip)))))) .skip)))
    (.cut (.seq (.reg [⟨some 91, .mov (.t 11), none⟩,
      ⟨some 92, .fla 0 (.t 10), none⟩,
      ⟨none, .st 1 (.t 92) (.t 91), none⟩])
    (.seq (.drg [⟨some 93, .ld 2 true (.t 10), none⟩,
      ⟨some 94, .mov (.t 9), none⟩,
      ⟨some 95, .mov (.t 94), none⟩,
      ⟨some 96, .mov (.t 11), (some (95, true))⟩,
      ⟨some 97, .bin .neq (.t 96) (.c (.str [])), (some (95, true))⟩,
      ⟨some 98, .pick (.t 95) (.t 97) (.c (.bool false)), none⟩,
      ⟨some 99, .mov (.t 98), none⟩,
      ⟨some 100, .ld 2 true (.t 10), (some (99, true))⟩,
      ⟨some 101, .pcall 0 97 [.t 100], (some (99, true))⟩,
      ⟨some 102, .pick (.t 99) (.t 101) (.c (.bool false)), none⟩,
      ⟨none, .st 2 (.t 2) (.t 93), none⟩,
      ⟨some 3, .mov (.t 102), none⟩])
    .ret)))))))))))))
def rs_thread_address : List IRes := [.c 2 2 true, .t 3]
theorem ck_thread_address : chkF Tryz.prog Tryz.f88 ir_thread_address rs_thread_address 103 = true := by kernel_rfl
/- paperchase/thread.Address -/
def ir_thread_Address : IC :=
  (.seq (.reg [⟨some 2, .alc 49 [.str [], .str []], none⟩,
      ⟨some 3, .mov (.c (.int .i64 0)), none⟩])
    (.seq (.seq (.reg [⟨some 6, .mov (.t 0), none⟩,
      ⟨some 7, .sln (.t 6), none⟩,
      ⟨some 8, .bin .gtr (.t 7) (.c (.int .i64 500)), none⟩])
    (.cond (.t 8) (.seq (.reg [⟨some 9, .bld [.str [], .str []] [], none⟩,
      ⟨none, .st 2 (.t 2) (.t 9), none⟩,
      ⟨some 3, .mov (.c (.int .i64 2)), none⟩])
    .ret) .skip))
    (.seq (.reg [⟨some 11, .mov (.t 0), none⟩,
      ⟨some 12, .call 88 [.t 11], none⟩,
      ⟨some 10, .mov (.t 12), none⟩,
      ⟨some 13, .ext 0 (.t 10), none⟩,
      ⟨some 14, .ext 1 (.t 10), none⟩,
      ⟨some 4, .alc 49 [.str [], .str []], none⟩,
      ⟨none, .st 2 (.t 4) (.t 13), none⟩,
      ⟨some 5, .mov (.t 14), none⟩])
    (.seq (.seq (.reg [⟨some 15, .mov (.t 5), none⟩,
      ⟨some 16, .not (.t 15), none⟩])
    (.cond (.t 16) (.seq (.reg [⟨some 17, .bld [.str [], .str []] [], none⟩,
      ⟨none, .st 2 (.t 2) (.t 17), none⟩,
      ⟨some 3, .mov (.c (.int .i64 9)), none⟩])
    .ret) .skip))
    (.seq (.reg [⟨some 18, .ld 2 true (.t 4), none⟩,
      ⟨none, .st 2 (.t 2) (.t 18), none⟩,
      ⟨some 3, .mov (.c (.int .i64 0)), none⟩])
    .ret)))))
def rs_thread_Address : List IRes := [.c 2 2 true, .t 3]
theorem ck_thread_Address : chkF Tryz.prog Tryz.f21 ir_thread_Address rs_thread_Address 19 = true := by kernel_rfl
/- paperchase/chaselaw1.threads -/
def ir_chaselaw1_threads : IC :=
  (.seq (.reg [⟨some 0, .mov (.c (.bool false)), none⟩])
    (.seq (.reg [⟨some 4, .call 21 [.c (.str [65, 110, 110, 32, 60, 97, 64, 98, 46, 100, 101, 62])], none⟩,
      ⟨some 3, .mov (.t 4), none⟩,
      ⟨some 5, .ext 0 (.t 3), none⟩,
      ⟨some 6, .ext 1 (.t 3), none⟩,
      ⟨some 1, .alc 49 [.str [], .str []], none⟩,
      ⟨none, .st 2 (.t 1) (.t 5), none⟩,
      ⟨some 2, .mov (.t 6), none⟩])
    (.seq (.reg [⟨some 7, .mov (.t 2), none⟩,
      ⟨some 8, .bin .eql (.t 7) (.c (.int .i64 0)), none⟩,
      ⟨some 9, .mov (.t 8), none⟩,
      ⟨some 10, .ld 2 true (.t 1), (some (9, true))⟩,
      ⟨some 11, .bld [.str [], .str []] [(0, 1, .c (.str [65, 110, 110])), (1, 1, .c (.str [97, 64, 98, 46, 100, 101]))], (some (9, true))⟩,
      ⟨some 12, .eqa false [.s, .s] (.t 10) (.t 11), (some (9, true))⟩,
      ⟨some 13, .pick (.t 9) (.t 12) (.c (.bool false)), none⟩,
      ⟨some 0, .mov (.t 13), none⟩])
    .ret)))
def rs_chaselaw1_threads : List IRes := [.t 0]
theorem ck_chaselaw1_threads : chkF Tryz.prog Tryz.f30 ir_chaselaw1_threads rs_chaselaw1_threads 14 = true := by kernel_rfl


section
variable {E : Envt}
theorem TrimRightSet_ok (s cs : List UInt8) (hs : s.length ≤ 1000000000) (hcs : cs.length ≤ 1000000) (h2 : asc cs = true) : PCall Tryz.prog E 164 [.str s, .str cs] (· = .str (Lib.trimRightS s cs)) :=
  pcall_flat rfl rfl fun w _ => (Any.strings_TrimRight_laid Tryz.layTrimRight (by kernel_rfl) ⟨s.toArray⟩ ⟨cs.toArray⟩ w (by rw [ba_size]; omega) (by rw [ba_size]; omega) (asc_at h2)).mono fun e w' h => ⟨h.1, grow_below h.2⟩
def cutSufF (s p : List UInt8) : List UInt8 × Bool := if sufE s p = true then (s.take (s.length - p.length), true) else (s, false)
def cutPreF (s p : List UInt8) : List UInt8 × Bool := if Lib.hasPrefix s p = true then (s.drop p.length, true) else (s, false)
theorem CutSuffixL_ok (s p : List UInt8) (hs : s.length ≤ 1000000000) (hp : p.length ≤ 1000000000) : PCall Tryz.prog E 236 [.str s, .str p] (· = .tup [.str (cutSufF s p).1, .bool (cutSufF s p).2]) := by
  refine pcallF mixed Tryz.func236 ck_internal_stringslite_CutSuffix ?_
  simp only [a0, l0, OS.ao, List.map_cons, List.map_nil, List.length_cons, List.length_nil, List.cons_append, List.nil_append, Nat.reduceSub, Nat.reduceAdd, List.replicate_succ, List.replicate_zero, ir_internal_stringslite_CutSuffix, rs_internal_stringslite_CutSuffix, ZZ, YY, Zd, ite_true, ite_false, forall_const, reduceCtorEq, Nat.reduceAdd, Nat.reduceMul, Nat.reduceLeDiff, Nat.reduceLT, Nat.reduceEqDiff]
  refine use1 (sHasSuffix_ok s p (by omega)) rfl (.inl rfl) ?_
  simp only [ZZ, YY, Zd, ite_true, ite_false, forall_const, reduceCtorEq, Nat.reduceAdd, Nat.reduceMul, Nat.reduceLeDiff, Nat.reduceLT, Nat.reduceEqDiff]
  unfold cutSufF
  refine br ?_ ?_
  · intro h
    have h : sufE s p = false := by rwa [Bool.not_eq_true'] at h
    simp only [ZZ, YY, Zd, ite_true, ite_false, forall_const, reduceCtorEq, Nat.reduceAdd, Nat.reduceMul, Nat.reduceLeDiff, Nat.reduceLT, Nat.reduceEqDiff]
    rw [if_neg (by simp [h])]
  · intro h
    have h : sufE s p = true := by rwa [Bool.not_eq_false'] at h
    have hb : p.length ≤ s.length := by
      have := of_decide_eq_true (Bool.and_eq_true_iff.1 h).1
      omega
    have e : ((s.length : Int) - p.length).toNat = s.length - p.length := by omega
    simp only [ZZ, YY, Zd, ite_true, ite_false, forall_const, reduceCtorEq, Nat.reduceAdd, Nat.reduceMul, Nat.reduceLeDiff, Nat.reduceLT, Nat.reduceEqDiff, e]
    refine ⟨i64_of (by omega) (by omega), ⟨by omega, by omega⟩, ?_⟩
    rw [if_pos h]
theorem CutSuffix_ok (s p : List UInt8) (hs : s.length ≤ 1000000000) (hp : p.length ≤ 1000000000) : PCall Tryz.prog E 163 [.str s, .str p] (· = .tup [.str (cutSufF s p).1, .bool (cutSufF s p).2]) := by
  refine pcallF mixed Tryz.func163 ck_strings_CutSuffix ?_
  simp only [a0, l0, OS.ao, List.map_cons, List.map_nil, List.length_cons, List.length_nil, List.cons_append, List.nil_append, Nat.reduceSub, Nat.reduceAdd, List.replicate_succ, List.replicate_zero, ir_strings_CutSuffix, rs_strings_CutSuffix, ZZ, YY, Zd, ite_true, ite_false, forall_const, reduceCtorEq, Nat.reduceAdd, Nat.reduceMul, Nat.reduceLeDiff, Nat.reduceLT, Nat.reduceEqDiff]
  refine use1 (CutSuffixL_ok s p hs hp) rfl (.inl rfl) ?_
  simp only [ZZ, YY, Zd, ite_true, ite_false, forall_const, reduceCtorEq, Nat.reduceAdd, Nat.reduceMul, Nat.reduceLeDiff, Nat.reduceLT, Nat.reduceEqDiff]
theorem hasPrefix_len {s p : List UInt8} (h : Lib.hasPrefix s p = true) : p.length ≤ s.length := by
  unfold Lib.hasPrefix at h
  simp at h
  first | exact (List.IsPrefix.length_le (List.isPrefixOf_iff_prefix.1 h)) | exact h.length_le | omega
theorem preE_eq (s p : List UInt8) : (decide ((p.length : Int) ≤ s.length) && decide (s.take p.length = p)) = Lib.hasPrefix s p := by
  rw [Bool.eq_iff_iff]
  unfold Lib.hasPrefix
  rw [List.isPrefixOf_iff_prefix, List.prefix_iff_eq_take]
  simp only [Bool.and_eq_true, decide_eq_true_eq]
  constructor
  · rintro ⟨_, h⟩; exact h.symm
  · intro h
    have := congrArg List.length h
    simp at this
    exact ⟨by omega, h.symm⟩
theorem sHasPrefix_ok (s p : List UInt8) (hs : s.length ≤ 1000000000) : PCall Tryz.prog E 186 [.str s, .str p] (· = .bool (Lib.hasPrefix s p)) := by
  rw [← preE_eq]
  refine pcallF mixed Tryz.func186 ck_internal_stringslite_HasPrefix ?_
  simp only [a0, l0, OS.ao, List.map_cons, List.map_nil, List.length_cons, List.length_nil, List.cons_append, List.nil_append, Nat.reduceSub, Nat.reduceAdd, List.replicate_succ, List.replicate_zero, ir_internal_stringslite_HasPrefix, rs_internal_stringslite_HasPrefix, ZZ, YY, Zd, ite_true, ite_false, forall_const, reduceCtorEq, Nat.reduceAdd, Nat.reduceMul, Nat.reduceLeDiff, Nat.reduceLT, Nat.reduceEqDiff]
  ((repeat' (with_reducible apply And.intro)) <;> try ((first | first | assumption | trivial | exact (fun hq => by rw [hq]; rfl) | exact i64_of (by omega) (by omega) | omega | (simp; done) | (simp; omega) | (intro hsc; have hs0 := hsc; (try have hsd := of_decide_eq_true hsc); (try simp only [Bool.not_eq_true', Bool.or_eq_false_iff, Bool.and_eq_true, Bool.or_eq_true, decide_eq_true_eq, decide_eq_false_iff_not] at hsc); (repeat' (with_reducible apply And.intro)) <;> (first | assumption | trivial | exact (fun hq => by rw [hq]; rfl) | exact i64_of (by omega) (by omega) | omega | (simp; done) | (simp; omega) | (intro hse; simp [hse, hs0]; done) | (intro hse; simp only [hse, hs0, Bool.true_and, Bool.and_true, Bool.not_false, Bool.not_true, Bool.and_self]; done))))))
theorem CutPrefixL_ok (s p : List UInt8) (hs : s.length ≤ 1000000000) (hp : p.length ≤ 1000000000) : PCall Tryz.prog E 237 [.str s, .str p] (· = .tup [.str (cutPreF s p).1, .bool (cutPreF s p).2]) := by
  refine pcallF mixed Tryz.func237 ck_internal_stringslite_CutPrefix ?_
  simp only [a0, l0, OS.ao, List.map_cons, List.map_nil, List.length_cons, List.length_nil, List.cons_append, List.nil_append, Nat.reduceSub, Nat.reduceAdd, List.replicate_succ, List.replicate_zero, ir_internal_stringslite_CutPrefix, rs_internal_stringslite_CutPrefix, ZZ, YY, Zd, ite_true, ite_false, forall_const, reduceCtorEq, Nat.reduceAdd, Nat.reduceMul, Nat.reduceLeDiff, Nat.reduceLT, Nat.reduceEqDiff]
  refine use1 (sHasPrefix_ok s p hs) rfl (.inl rfl) ?_
  simp only [ZZ, YY, Zd, ite_true, ite_false, forall_const, reduceCtorEq, Nat.reduceAdd, Nat.reduceMul, Nat.reduceLeDiff, Nat.reduceLT, Nat.reduceEqDiff]
  unfold cutPreF
  refine br ?_ ?_
  · intro h
    have h : Lib.hasPrefix s p = false := by rwa [Bool.not_eq_true'] at h
    simp only [ZZ, YY, Zd, ite_true, ite_false, forall_const, reduceCtorEq, Nat.reduceAdd, Nat.reduceMul, Nat.reduceLeDiff, Nat.reduceLT, Nat.reduceEqDiff]
    rw [if_neg (by simp [h])]
  · intro h
    have h : Lib.hasPrefix s p = true := by rwa [Bool.not_eq_false'] at h
    have hb := hasPrefix_len h
    simp only [ZZ, YY, Zd, ite_true, ite_false, forall_const, reduceCtorEq, Nat.reduceAdd, Nat.reduceMul, Nat.reduceLeDiff, Nat.reduceLT, Nat.reduceEqDiff]
    refine ⟨⟨by omega, by omega⟩, ?_⟩
    rw [if_pos h]
    try simp
theorem CutPrefix_ok (s p : List UInt8) (hs : s.length ≤ 1000000000) (hp : p.length ≤ 1000000000) : PCall Tryz.prog E 165 [.str s, .str p] (· = .tup [.str (cutPreF s p).1, .bool (cutPreF s p).2]) := by
  refine pcallF mixed Tryz.func165 ck_strings_CutPrefix ?_
  simp only [a0, l0, OS.ao, List.map_cons, List.map_nil, List.length_cons, List.length_nil, List.cons_append, List.nil_append, Nat.reduceSub, Nat.reduceAdd, List.replicate_succ, List.replicate_zero, ir_strings_CutPrefix, rs_strings_CutPrefix, ZZ, YY, Zd, ite_true, ite_false, forall_const, reduceCtorEq, Nat.reduceAdd, Nat.reduceMul, Nat.reduceLeDiff, Nat.reduceLT, Nat.reduceEqDiff]
  refine use1 (CutPrefixL_ok s p hs hp) rfl (.inl rfl) ?_
  simp only [ZZ, YY, Zd, ite_true, ite_false, forall_const, reduceCtorEq, Nat.reduceAdd, Nat.reduceMul, Nat.reduceLeDiff, Nat.reduceLT, Nat.reduceEqDiff]
theorem TrimPrefixL_ok (s p : List UInt8) (hs : s.length ≤ 1000000000) (hp : p.length ≤ 1000000000) : PCall Tryz.prog E 187 [.str s, .str p] (· = .str (cutPreF s p).1) := by
  refine pcallF mixed Tryz.func187 ck_internal_stringslite_TrimPrefix ?_
  simp only [a0, l0, OS.ao, List.map_cons, List.map_nil, List.length_cons, List.length_nil, List.cons_append, List.nil_append, Nat.reduceSub, Nat.reduceAdd, List.replicate_succ, List.replicate_zero, ir_internal_stringslite_TrimPrefix, rs_internal_stringslite_TrimPrefix, ZZ, YY, Zd, ite_true, ite_false, forall_const, reduceCtorEq, Nat.reduceAdd, Nat.reduceMul, Nat.reduceLeDiff, Nat.reduceLT, Nat.reduceEqDiff]
  refine use1 (sHasPrefix_ok s p hs) rfl (.inl rfl) ?_
  simp only [ZZ, YY, Zd, ite_true, ite_false, forall_const, reduceCtorEq, Nat.reduceAdd, Nat.reduceMul, Nat.reduceLeDiff, Nat.reduceLT, Nat.reduceEqDiff]
  unfold cutPreF
  refine br ?_ ?_
  · intro h
    have hb := hasPrefix_len h
    simp only [ZZ, YY, Zd, ite_true, ite_false, forall_const, reduceCtorEq, Nat.reduceAdd, Nat.reduceMul, Nat.reduceLeDiff, Nat.reduceLT, Nat.reduceEqDiff]
    refine ⟨⟨by omega, by omega⟩, ?_⟩
    rw [if_pos h]
    try simp
  · intro h
    simp only [ZZ, YY, Zd, ite_true, ite_false, forall_const, reduceCtorEq, Nat.reduceAdd, Nat.reduceMul, Nat.reduceLeDiff, Nat.reduceLT, Nat.reduceEqDiff]
    rw [if_neg (by simp [h])]
theorem TrimPrefix_ok (s p : List UInt8) (hs : s.length ≤ 1000000000) (hp : p.length ≤ 1000000000) : PCall Tryz.prog E 109 [.str s, .str p] (· = .str (cutPreF s p).1) := by
  refine pcallF mixed Tryz.func109 ck_strings_TrimPrefix ?_
  simp only [a0, l0, OS.ao, List.map_cons, List.map_nil, List.length_cons, List.length_nil, List.cons_append, List.nil_append, Nat.reduceSub, Nat.reduceAdd, List.replicate_succ, List.replicate_zero, ir_strings_TrimPrefix, rs_strings_TrimPrefix, ZZ, YY, Zd, ite_true, ite_false, forall_const, reduceCtorEq, Nat.reduceAdd, Nat.reduceMul, Nat.reduceLeDiff, Nat.reduceLT, Nat.reduceEqDiff]
  refine use1 (TrimPrefixL_ok s p hs hp) rfl (.inl rfl) ?_
  simp only [ZZ, YY, Zd, ite_true, ite_false, forall_const, reduceCtorEq, Nat.reduceAdd, Nat.reduceMul, Nat.reduceLeDiff, Nat.reduceLT, Nat.reduceEqDiff]
theorem ContainsAny_ok (s cs : List UInt8) (hs : s.length ≤ 1000000) (hcs : cs.length ≤ 1000000) (h1 : asc s = true) (h2 : asc cs = true) : PCall Tryz.prog E 178 [.str s, .str cs] (· = .bool (decide (0 ≤ Lib.indexAny s cs))) := by
  refine pcallF mixed Tryz.func178 ck_strings_ContainsAny ?_
  simp only [a0, l0, OS.ao, List.map_cons, List.map_nil, List.length_cons, List.length_nil, List.cons_append, List.nil_append, Nat.reduceSub, Nat.reduceAdd, List.replicate_succ, List.replicate_zero, ir_strings_ContainsAny, rs_strings_ContainsAny, ZZ, YY, Zd, ite_true, ite_false, forall_const, reduceCtorEq, Nat.reduceAdd, Nat.reduceMul, Nat.reduceLeDiff, Nat.reduceLT, Nat.reduceEqDiff]
  refine use1 (IndexAny_ok s cs hs hcs h1 h2) rfl (.inl rfl) ?_
  simp only [ZZ, YY, Zd, ite_true, ite_false, forall_const, reduceCtorEq, Nat.reduceAdd, Nat.reduceMul, Nat.reduceLeDiff, Nat.reduceLT, Nat.reduceEqDiff]
end
def plainB (s : List UInt8) : Bool := ((visE s false && !Lib.hasPrefix s [32]) && !sufE s [32]) && !decide (0 ≤ Lib.index s [32, 32])
theorem Plain_ok (s : List UInt8) (hs : s.length ≤ 1000000000) : PCall Tryz.prog E0 242 [.str s] (· = .bool (plainB s)) := by
  refine pcallF mixed Tryz.func242 ck_base_Plain ?_
  simp only [a0, l0, OS.ao, List.map_cons, List.map_nil, List.length_cons, List.length_nil, List.cons_append, List.nil_append, Nat.reduceSub, Nat.reduceAdd, List.replicate_succ, List.replicate_zero, ir_base_Plain, rs_base_Plain, ZZ, YY, Zd, ite_true, ite_false, forall_const, reduceCtorEq, Nat.reduceAdd, Nat.reduceMul, Nat.reduceLeDiff, Nat.reduceLT, Nat.reduceEqDiff]
  refine use1 (Visible_ok s false hs) rfl (.inl rfl) ?_
  simp only [ZZ, YY, Zd, ite_true, ite_false, forall_const, reduceCtorEq, Nat.reduceAdd, Nat.reduceMul, Nat.reduceLeDiff, Nat.reduceLT, Nat.reduceEqDiff]
  refine useG (fun _ => HasPrefix_ok s [32]) rfl (.inl rfl) ?_
  simp only [ZZ, YY, Zd, ite_true, ite_false, forall_const, reduceCtorEq, Nat.reduceAdd, Nat.reduceMul, Nat.reduceLeDiff, Nat.reduceLT, Nat.reduceEqDiff]
  refine useG (fun _ => HasSuffix_ok s [32] (by omega)) rfl (.inl rfl) ?_
  simp only [ZZ, YY, Zd, ite_true, ite_false, forall_const, reduceCtorEq, Nat.reduceAdd, Nat.reduceMul, Nat.reduceLeDiff, Nat.reduceLT, Nat.reduceEqDiff]
  refine useG (fun _ => Contains_ok s [32, 32] hs) rfl (.inl rfl) ?_
  simp only [ZZ, YY, Zd, ite_true, ite_false, forall_const, reduceCtorEq, Nat.reduceAdd, Nat.reduceMul, Nat.reduceLeDiff, Nat.reduceLT, Nat.reduceEqDiff]
  ((repeat' (with_reducible apply And.intro)) <;> try ((first | first | assumption | trivial | exact (fun hq => by rw [hq]; rfl) | exact i64_of (by omega) (by omega) | omega | (simp; done) | (simp; omega) | (intro hsc; have hs0 := hsc; (try have hsd := of_decide_eq_true hsc); (try simp only [Bool.not_eq_true', Bool.or_eq_false_iff, Bool.and_eq_true, Bool.or_eq_true, decide_eq_true_eq, decide_eq_false_iff_not] at hsc); (repeat' (with_reducible apply And.intro)) <;> (first | assumption | trivial | exact (fun hq => by rw [hq]; rfl) | exact i64_of (by omega) (by omega) | omega | (simp; done) | (simp; omega) | (intro hse; simp [hse, hs0]; done) | (intro hse; simp only [hse, hs0, Bool.true_and, Bool.and_true, Bool.not_false, Bool.not_true, Bool.and_self]; done))))))
def nameS : List UInt8 := [34, 60, 62, 44, 59]
def nameB (s : List UInt8) : Bool := (decide ((s.length : Int) ≤ 60) && plainB s) && !decide (0 ≤ Lib.indexAny s nameS)
theorem isName_ok (s : List UInt8) (hs : s.length ≤ 1000000) (h1 : asc s = true) : PCall Tryz.prog E0 176 [.str s] (· = .bool (nameB s)) := by
  refine pcallF mixed Tryz.func176 ck_thread_isName ?_
  simp only [a0, l0, OS.ao, List.map_cons, List.map_nil, List.length_cons, List.length_nil, List.cons_append, List.nil_append, Nat.reduceSub, Nat.reduceAdd, List.replicate_succ, List.replicate_zero, ir_thread_isName, rs_thread_isName, ZZ, YY, Zd, ite_true, ite_false, forall_const, reduceCtorEq, Nat.reduceAdd, Nat.reduceMul, Nat.reduceLeDiff, Nat.reduceLT, Nat.reduceEqDiff]
  refine useG (fun _ => Plain_ok s (by omega)) rfl (.inl rfl) ?_
  simp only [ZZ, YY, Zd, ite_true, ite_false, forall_const, reduceCtorEq, Nat.reduceAdd, Nat.reduceMul, Nat.reduceLeDiff, Nat.reduceLT, Nat.reduceEqDiff]
  refine useG (fun _ => ContainsAny_ok s nameS hs (by decide) h1 (by decide)) rfl (.inl rfl) ?_
  simp only [ZZ, YY, Zd, ite_true, ite_false, forall_const, reduceCtorEq, Nat.reduceAdd, Nat.reduceMul, Nat.reduceLeDiff, Nat.reduceLT, Nat.reduceEqDiff]
  ((repeat' (with_reducible apply And.intro)) <;> try ((first | first | assumption | trivial | exact (fun hq => by rw [hq]; rfl) | exact i64_of (by omega) (by omega) | omega | (simp; done) | (simp; omega) | (intro hsc; have hs0 := hsc; (try have hsd := of_decide_eq_true hsc); (try simp only [Bool.not_eq_true', Bool.or_eq_false_iff, Bool.and_eq_true, Bool.or_eq_true, decide_eq_true_eq, decide_eq_false_iff_not] at hsc); (repeat' (with_reducible apply And.intro)) <;> (first | assumption | trivial | exact (fun hq => by rw [hq]; rfl) | exact i64_of (by omega) (by omega) | omega | (simp; done) | (simp; omega) | (intro hse; simp [hse, hs0]; done) | (intro hse; simp only [hse, hs0, Bool.true_and, Bool.and_true, Bool.not_false, Bool.not_true, Bool.and_self]; done))))))
theorem right_ok (n m : List UInt8) (hn : n.length ≤ 1000000) (hm : m.length ≤ 1000000) (h1 : asc n = true) : PCall Tryz.prog E0 97 [.agg [.str n, .str m]] (· = .bool (nameB n && mailF m)) := by
  refine pcallF mixed Tryz.func97 ck_thread_right ?_
  simp only [a0, l0, OS.ao, List.map_cons, List.map_nil, List.length_cons, List.length_nil, List.cons_append, List.nil_append, Nat.reduceSub, Nat.reduceAdd, List.replicate_succ, List.replicate_zero, ir_thread_right, rs_thread_right, ZZ, YY, Zd, ite_true, ite_false, forall_const, reduceCtorEq, Nat.reduceAdd, Nat.reduceMul, Nat.reduceLeDiff, Nat.reduceLT, Nat.reduceEqDiff]
  refine use1 (isName_ok n hn h1) rfl (.inl rfl) ?_
  simp only [ZZ, YY, Zd, ite_true, ite_false, forall_const, reduceCtorEq, Nat.reduceAdd, Nat.reduceMul, Nat.reduceLeDiff, Nat.reduceLT, Nat.reduceEqDiff]
  refine useG (fun _ => IsMail_ok m (by omega)) rfl (.inl rfl) ?_
  simp only [ZZ, YY, Zd, ite_true, ite_false, forall_const, reduceCtorEq, Nat.reduceAdd, Nat.reduceMul, Nat.reduceLeDiff, Nat.reduceLT, Nat.reduceEqDiff]
def annS : List UInt8 := [65, 110, 110, 32, 60, 97, 64, 98, 46, 100, 101, 62]
theorem address_ann : PCall Tryz.prog E0 88 [.str annS] (· = .tup [.agg [.str [65, 110, 110], .str [97, 64, 98, 46, 100, 101]], .bool true]) := by
  refine pcallF mixed Tryz.func88 ck_thread_address ?_
  simp only [a0, l0, OS.ao, List.map_cons, List.map_nil, List.length_cons, List.length_nil, List.cons_append, List.nil_append, Nat.reduceSub, Nat.reduceAdd, List.replicate_succ, List.replicate_zero, ir_thread_address, rs_thread_address, ZZ, YY, Zd, ite_true, ite_false, forall_const, reduceCtorEq, Nat.reduceAdd, Nat.reduceMul, Nat.reduceLeDiff, Nat.reduceLT, Nat.reduceEqDiff]
  refine use1 (TrimSet_ok annS [32] (by decide) (by decide) (by decide)) rfl (.inl rfl) ?_
  rw [show Lib.trimS annS [32] = annS from by decide +kernel]
  simp only [ZZ, YY, Zd, ite_true, ite_false, forall_const, reduceCtorEq, Nat.reduceAdd, Nat.reduceMul, Nat.reduceLeDiff, Nat.reduceLT, Nat.reduceEqDiff]
  refine use1 (Cut_ok annS [60] (by decide)) rfl (.inl rfl) ?_
  rw [show cutF annS [60] = ([65, 110, 110, 32], [97, 64, 98, 46, 100, 101, 62], true) from by decide +kernel]
  simp only [ZZ, YY, Zd, ite_true, ite_false, forall_const, reduceCtorEq, Nat.reduceAdd, Nat.reduceMul, Nat.reduceLeDiff, Nat.reduceLT, Nat.reduceEqDiff]
  refine use1 (CutSuffix_ok [97, 64, 98, 46, 100, 101, 62] [62] (by decide) (by decide)) rfl (.inl rfl) ?_
  rw [show cutSufF [97, 64, 98, 46, 100, 101, 62] [62] = ([97, 64, 98, 46, 100, 101], true) from by decide +kernel]
  simp only [ZZ, YY, Zd, ite_true, ite_false, forall_const, reduceCtorEq, Nat.reduceAdd, Nat.reduceMul, Nat.reduceLeDiff, Nat.reduceLT, Nat.reduceEqDiff]
  refine use1 (Lower_ok [97, 64, 98, 46, 100, 101] (by decide)) rfl (.inl rfl) ?_
  rw [show lowF [97, 64, 98, 46, 100, 101] = [97, 64, 98, 46, 100, 101] from by decide +kernel]
  simp only [ZZ, YY, Zd, ite_true, ite_false, forall_const, reduceCtorEq, Nat.reduceAdd, Nat.reduceMul, Nat.reduceLeDiff, Nat.reduceLT, Nat.reduceEqDiff]
  refine br (fun h => by simp at h) ?_
  intro _
  simp only [ZZ, YY, Zd, ite_true, ite_false, forall_const, reduceCtorEq, Nat.reduceAdd, Nat.reduceMul, Nat.reduceLeDiff, Nat.reduceLT, Nat.reduceEqDiff]
  refine use1 (TrimRightSet_ok [65, 110, 110, 32] [32] (by decide) (by decide) (by decide)) rfl (.inl rfl) ?_
  rw [show Lib.trimRightS [65, 110, 110, 32] [32] = [65, 110, 110] from by decide +kernel]
  simp only [ZZ, YY, Zd, ite_true, ite_false, forall_const, reduceCtorEq, Nat.reduceAdd, Nat.reduceMul, Nat.reduceLeDiff, Nat.reduceLT, Nat.reduceEqDiff]
  refine br (fun h => by simp at h) ?_
  intro _
  simp only [ZZ, YY, Zd, ite_true, ite_false, forall_const, reduceCtorEq, Nat.reduceAdd, Nat.reduceMul, Nat.reduceLeDiff, Nat.reduceLT, Nat.reduceEqDiff]
  refine use1 (CutPrefix_ok [65, 110, 110] [34] (by decide) (by decide)) rfl (.inl rfl) ?_
  rw [show cutPreF [65, 110, 110] [34] = ([65, 110, 110], false) from by decide +kernel]
  simp only [ZZ, YY, Zd, ite_true, ite_false, forall_const, reduceCtorEq, Nat.reduceAdd, Nat.reduceMul, Nat.reduceLeDiff, Nat.reduceLT, Nat.reduceEqDiff]
  refine cut_same (by simp only [ZZ, YY, Zd, ite_true, ite_false, forall_const, reduceCtorEq, Nat.reduceAdd, Nat.reduceMul, Nat.reduceLeDiff, Nat.reduceLT, Nat.reduceEqDiff]) ?_
  simp only [ZZ, YY, Zd, ite_true, ite_false, forall_const, reduceCtorEq, Nat.reduceAdd, Nat.reduceMul, Nat.reduceLeDiff, Nat.reduceLT, Nat.reduceEqDiff]
  refine drg1 (x1 := .bool true) ?_
  have hr := right_ok [65, 110, 110] [97, 64, 98, 46, 100, 101] (by decide) (by decide) (by decide)
  rw [show (nameB [65, 110, 110] && mailF [97, 64, 98, 46, 100, 101]) = true from by decide +kernel] at hr
  simp only [ZZ, YY, Zd, ite_true, ite_false, forall_const, reduceCtorEq, Nat.reduceAdd, Nat.reduceMul, Nat.reduceLeDiff, Nat.reduceLT, Nat.reduceEqDiff]
  ((repeat' (with_reducible apply And.intro)) <;> try (first | exact fun h => ⟨h, usep hr rfl (.inl rfl)⟩ | (first | first | assumption | trivial | exact (fun hq => by rw [hq]; rfl) | exact i64_of (by omega) (by omega) | omega | (simp; done) | (simp; omega) | (intro hsc; have hs0 := hsc; (try have hsd := of_decide_eq_true hsc); (try simp only [Bool.not_eq_true', Bool.or_eq_false_iff, Bool.and_eq_true, Bool.or_eq_true, decide_eq_true_eq, decide_eq_false_iff_not] at hsc); (repeat' (with_reducible apply And.intro)) <;> (first | assumption | trivial | exact (fun hq => by rw [hq]; rfl) | exact i64_of (by omega) (by omega) | omega | (simp; done) | (simp; omega) | (intro hse; simp [hse, hs0]; done) | (intro hse; simp only [hse, hs0, Bool.true_and, Bool.and_true, Bool.not_false, Bool.not_true, Bool.and_self]; done))))))
theorem Address_ann : PCall Tryz.prog E0 21 [.str annS] (· = .tup [.agg [.str [65, 110, 110], .str [97, 64, 98, 46, 100, 101]], int 0]) := by
  refine pcallF mixed Tryz.func21 ck_thread_Address ?_
  simp only [a0, l0, OS.ao, List.map_cons, List.map_nil, List.length_cons, List.length_nil, List.cons_append, List.nil_append, Nat.reduceSub, Nat.reduceAdd, List.replicate_succ, List.replicate_zero, ir_thread_Address, rs_thread_Address, ZZ, YY, Zd, ite_true, ite_false, forall_const, reduceCtorEq, Nat.reduceAdd, Nat.reduceMul, Nat.reduceLeDiff, Nat.reduceLT, Nat.reduceEqDiff]
  refine br (fun h => by simp [annS] at h) ?_
  intro _
  simp only [ZZ, YY, Zd, ite_true, ite_false, forall_const, reduceCtorEq, Nat.reduceAdd, Nat.reduceMul, Nat.reduceLeDiff, Nat.reduceLT, Nat.reduceEqDiff]
  refine use1 address_ann rfl (.inl rfl) ?_
  simp only [ZZ, YY, Zd, ite_true, ite_false, forall_const, reduceCtorEq, Nat.reduceAdd, Nat.reduceMul, Nat.reduceLeDiff, Nat.reduceLT, Nat.reduceEqDiff]
theorem threads_ok : PCall Tryz.prog E0 30 [] (· = .bool true) := by
  refine pcallF mixed Tryz.func30 ck_chaselaw1_threads ?_
  simp only [a0, l0, OS.ao, List.map_cons, List.map_nil, List.length_cons, List.length_nil, List.cons_append, List.nil_append, Nat.reduceSub, Nat.reduceAdd, List.replicate_succ, List.replicate_zero, ir_chaselaw1_threads, rs_chaselaw1_threads, ZZ, YY, Zd, ite_true, ite_false, forall_const, reduceCtorEq, Nat.reduceAdd, Nat.reduceMul, Nat.reduceLeDiff, Nat.reduceLT, Nat.reduceEqDiff]
  refine use1 Address_ann rfl (.inl rfl) ?_
  simp only [ZZ, YY, Zd, ite_true, ite_false, forall_const, reduceCtorEq, Nat.reduceAdd, Nat.reduceMul, Nat.reduceLeDiff, Nat.reduceLT, Nat.reduceEqDiff]
  simp
end Go.Proofs.YtndjmidmfmcbkaaGreatDoor

/- strings.Builder at this cut, with the exact blocks that change: turned from the library's own walks (Derived/Shelf/Strings: Builder1, Builder2) to this program. -/
namespace Go.Proofs.YtndjmidmfmcbkaaGreatDoor
open Go.RowKit
set_option linter.unusedVariables false
set_option linter.unusedSimpArgs false
set_option linter.defProp false

theorem b_info : (Tryz.prog.info? 5).map (fun i => (i.zero, i.size, i.bytes)) = some (some (.int .u8 0), 1, 1) := by kernel_rfl
theorem b_sizeB : (Tryz.prog.info? 172).map (·.size) = some 2 := by kernel_rfl
theorem b_liesB : liesAt Tryz.prog Tryz.prog.depth 172 (2 / Tryz.prog.cellsOf 172) 0 172 1 = true := by kernel_rfl
theorem b_usNone (W : World) (q : Option Addr) : (Builtin.unsafeString_ #[224, 3] 9 #[.pointer q, .int .i64 0]).run Tryz.prog W = .ok (.string .empty) W := Lib.run_unsafeString_none W _ _ _ q
theorem b_mixed : Tryz.prog.follows .mixedOrders = true := by kernel_rfl
theorem b_cells : Tryz.prog.cellsOf 5 = 1 := by kernel_rfl
theorem b_size : (Tryz.prog.info? 5).map (·.size) = some 1 := by kernel_rfl
abbrev tSb : TypeId := 172
abbrev tU8 : TypeId := 5

set_option maxHeartbeats 1000000 in
set_option maxRecDepth 100000 in
theorem b_ccUsed (b : Nat) (w : World) (h0 : w.cell? ⟨b, 0, none⟩ = some (.pointer (some ⟨b, 0, none⟩))) :
    Calls Tryz.prog 224 #[.pointer (some ⟨b, 0, none⟩)] w fun e w' => e = .returned (.tuple #[]) ∧ w' = w := by
  obtain ⟨j, hj, _⟩ := Option.map_eq_some_iff.1 b_sizeB
  go_enter Tryz.func224, Tryz.ntmps224
  go_wp2
  rw [Lib.run_neq_ptr_same w _ Tryz.underlying169 hj]
  go_wp2
  go_end0
  exact ⟨rfl, rfl⟩

set_option maxHeartbeats 1000000 in
set_option maxRecDepth 100000 in
theorem b_ccFresh (b : Nat) (w : World) (h0 : w.cell? ⟨b, 0, none⟩ = some (.pointer none)) (hsh : w.shape? b = some (172, 2)) (hfz : w.frozen? ⟨b, 0, none⟩ = false) :
    Calls Tryz.prog 224 #[.pointer (some ⟨b, 0, none⟩)] w fun e w' => e = .returned (.tuple #[]) ∧ w' = w.setCell ⟨b, 0, none⟩ (.pointer (some ⟨b, 0, none⟩)) := by
  obtain ⟨j, hj, hjs⟩ := Option.map_eq_some_iff.1 b_sizeB
  go_enter Tryz.func224, Tryz.ntmps224
  go_wp2
  rw [Lib.run_to_unsafe w ⟨b, 0, none⟩ Tryz.underlying169 Tryz.underlying237 hj (by rw [hjs]; decide) hsh (Nat.zero_lt_succ 1)]
  simp only [Result.andThen]
  rw [Oper.upon_value]
  go_wp2
  rw [run_callFunc_extern Tryz.func262 (by kernel_rfl) (by kernel_rfl) (by kernel_rfl) (e := Extern.AbiNoEscape.same) (by kernel_rfl)]
  rw [Lib.run_noEscape]
  simp only [Result.andThen]
  rw [Oper.upon_value]
  go_wp2
  rw [Lib.run_from_unsafe w ⟨b, 0, none⟩ Tryz.underlying237 Tryz.underlying169 hj hsh b_liesB]
  simp only [Result.andThen]
  rw [Oper.upon_value]
  go_wp2
  go_end0
  exact ⟨rfl, rfl⟩

theorem b_cc (b : Nat) (bs : List Value) (w : World) (h : Lib.IsBuilder 172 5 0 b bs w) :
    Calls Tryz.prog 224 #[.pointer (some ⟨b, 0, none⟩)] w fun e w' => e = .returned (.tuple #[]) ∧ CcPost 172 5 b bs w w' := by
  rcases h with h | h
  · refine (b_ccFresh b w h.cell0 h.shape h.frozen0).mono ?_
    rintro e w' ⟨rfl, rfl⟩
    exact ⟨rfl, ccpost_fresh h⟩
  · refine (b_ccUsed b w h.cell0).mono ?_
    rintro e w' ⟨rfl, rfl⟩
    exact ⟨rfl, ccpost_used h⟩

set_option maxHeartbeats 2000000 in
set_option maxRecDepth 100000 in
theorem sb_WriteString (b : Nat) (s t : List UInt8) (w : World) (h : Lib.IsBuilder 172 5 0 b (Lib.byteCells s) w) (hlen : s.length + t.length ≤ 140737488355328) :
    Calls Tryz.prog 148 #[.pointer (some ⟨b, 0, none⟩), .string ⟨t.toArray⟩] w fun e w' => e = .returned (.tuple #[.int .i64 t.length, .nilIface]) ∧ SbPost 172 5 b (s ++ t) w w' := by
  obtain ⟨i0, hi, hz0, hz1, hz2⟩ := info_parts b_info
  have hsz : (⟨t.toArray⟩ : ByteArray).size = t.length := by simp [ByteArray.size]
  have hcl : Lib.strCells ⟨t.toArray⟩ = Lib.byteCells t := by simp [Lib.strCells, Lib.byteCells]
  generalize hst : (⟨t.toArray⟩ : ByteArray) = st at hsz hcl ⊢
  rw [← hsz] at hlen ⊢
  go_enter Tryz.func148, Tryz.ntmps148
  go_wp2_with (go_at_call 224; refine (b_cc b _ _ h).mono ?_)
  rintro e w1 ⟨rfl, v, hbk, hown, hne, hG1, hbf⟩
  rw [Lib.byteCells_length] at hown
  have c0 : w1.cell? ⟨b, 0, none⟩ = some (.pointer (some ⟨b, 0, none⟩)) := by rw [Lib.cell_of_heap hbk]; rfl
  have c1 : w1.cell? ⟨b, 1, none⟩ = some v := by rw [Lib.cell_of_heap hbk]; rfl
  go_wp2_with (at_builtin; refine wpList_app_str rfl _ _ 170 9 rfl 0 5 i0 Tryz.underlying170 Tryz.underlying9 hi hz0 hz1 hz2 _ _ _ rfl hown st rfl (by unfold maxLen; omega) (by omega) (Nat.zero_le _) ?_)
  intro v' w2 hown' hgrow hat
  have hlt := lt_of_heap hbk
  have hb2 : w2.heap[b]? = some (.cells #[.pointer (some ⟨b, 0, none⟩), v] 172 (0, 0)) := by
    rw [hgrow.block b hlt (fun e => hne e.symm)]
    exact hbk
  have d0 : w2.cell? ⟨b, 0, none⟩ = some (.pointer (some ⟨b, 0, none⟩)) := by rw [Lib.cell_of_heap hb2]; rfl
  have d1 : w2.cell? ⟨b, 1, none⟩ = some v := by rw [Lib.cell_of_heap hb2]; rfl
  have f1 : w2.frozen? ⟨b, 1, none⟩ = false := Lib.frozen_of_heap hb2 1
  have hP : SbPost 172 5 b (s ++ t) w (w2.setCell ⟨b, 1, none⟩ v') :=
    sbpost_mk (by decide) hG1 hbf hbk hgrow hne hat (by first | (rw [hcl, hsz] at hown'; simpa [Lib.byteCells] using hown') | simpa [Lib.byteCells] using hown')
  obtain ⟨ao, n', cap, rfl⟩ : ∃ ao n' cap, v' = .slice ao n' cap := by
    rcases hown'.2 with ⟨hv, _⟩ | ⟨g, cap, cur, hv, _⟩
    · exact ⟨_, _, _, hv⟩
    · exact ⟨_, _, _, hv⟩
  go_wp2
  go_ret2
  exact ⟨by first | rfl | (rw [hsz]; rfl), hP⟩

end Go.Proofs.YtndjmidmfmcbkaaGreatDoor

/- strings.Builder at this cut, its string, its length, its growth: turned from the library's own walks (Derived/Shelf/Strings: Builder1, Builder2) to this program. -/
namespace Go.Proofs.YtndjmidmfmcbkaaGreatDoor
open Go.RowKit
set_option linter.unusedVariables false
set_option linter.unusedSimpArgs false
set_option linter.defProp false

set_option maxHeartbeats 1000000 in
set_option maxRecDepth 100000 in
theorem b_String (B b : Nat) (l : List UInt8) (w : World) (h : Lib.IsBuilder 172 5 B b (Lib.byteCells l) w) (h0 : l ≠ []) :
    Calls Tryz.prog 150 #[.pointer (some ⟨b, 0, none⟩)] w fun e w' => e = .returned (.string ⟨l.toArray⟩) ∧ Grow w w' (fun x => x = b ∨ bufOf w 172 b x) := by
  obtain ⟨p, hB, v, hbk, hown, hne⟩ : ∃ p, Lib.BuilderAt 172 5 B b p (Lib.byteCells l) w := by
    rcases h with h | h
    · exact ⟨_, h⟩
    · exact ⟨_, h⟩
  have hl0 : l.length ≠ 0 := by simpa using h0
  rw [Lib.byteCells_length] at hown
  obtain ⟨g, cap, cur, rfl, hbg, hg, hnc, hcm, hcs, htake⟩ : ∃ g cap cur, v = .slice (some ⟨g, 0, none⟩) l.length cap ∧ B ≤ g ∧ w.heap[g]? = some (.cells cur 5 (0, 0)) ∧ l.length ≤ cap ∧ cap ≤ maxLen ∧ cur.size = cap * 1 ∧ cur.toList.take (l.length * 1) = Lib.byteCells l := by
    rcases hown.2 with ⟨_, hz⟩ | ⟨g, cap, cur, hv, r⟩
    · exact absurd hz hl0
    · exact ⟨g, cap, cur, hv, r⟩
  have c1 : w.drew.cell? ⟨b, 1, none⟩ = some (.slice (some ⟨g, 0, none⟩) l.length cap) := by
    have : w.drew.heap[b]? = some (.cells #[p, .slice (some ⟨g, 0, none⟩) l.length cap] 172 (0, 0)) := hbk
    rw [Lib.cell_of_heap this]; rfl
  have hSD : (Builtin.unsafeSliceData_ #[170] 224 #[.slice (some ⟨g, 0, none⟩) l.length cap]).run Tryz.prog w.drew = .ok (.pointer (some ⟨g, 0, none⟩)) w.drew :=
    Lib.run_unsafeSliceData_row _ _ _ _ _ _ (by omega)
  have hUS : (Builtin.unsafeString_ #[224, 3] 9 #[.pointer (some ⟨g, 0, none⟩), .int .i64 l.length]).run Tryz.prog w.drew = .ok (.string ⟨l.toArray⟩) (w.drew.freeze ⟨g, 0, none⟩ l.length) := by
    refine Lib.run_unsafeString_row w.drew 224 3 9 5 Tryz.underlying224 b_cells g cur.size (by have hg' : w.drew.heap[g]? = some (.cells cur 5 (0, 0)) := hg; simp [World.shape?, hg']) l h0 (by omega) (by unfold maxLen at hcm; omega) ?_
    intro j x hx
    have := hown.cells (g := g) rfl j (.int .u8 x.toNat) (by simp [Lib.byteCells, hx])
    exact this
  have mixed := b_mixed
  go_enter Tryz.func150, Tryz.ntmps150
  go_wp2
  go_region_o
  all_goals (go_wp2; go_ret; exact ⟨rfl, grow_freeze (.inr ⟨_, _, hbk, rfl⟩)⟩)

set_option maxHeartbeats 2000000 in
set_option maxRecDepth 100000 in
theorem b_String_nil (B b : Nat) (p : Value) (w : World) (hbk : w.heap[b]? = some (.cells #[p, .slice none 0 0] 172 (0, 0))) :
    Calls Tryz.prog 150 #[.pointer (some ⟨b, 0, none⟩)] w fun e w' => e = .returned (.string ⟨#[]⟩) ∧ Grow w w' (fun x => x = b ∨ bufOf w 172 b x) := by
  have hUS := b_usNone
  have c1 : w.drew.cell? ⟨b, 1, none⟩ = some (.slice none 0 0) := by
    have : w.drew.heap[b]? = some (.cells #[p, .slice none 0 0] 172 (0, 0)) := hbk
    rw [Lib.cell_of_heap this]; rfl
  have hSD : (Builtin.unsafeSliceData_ #[170] 224 #[.slice none 0 0]).run Tryz.prog w.drew = .ok (.pointer none) w.drew := rfl
  have mixed := b_mixed
  go_enter Tryz.func150, Tryz.ntmps150
  go_wp2
  go_region_o
  all_goals (go_wp2; go_ret; exact ⟨rfl, (Grow.refl w _).drew⟩)

set_option maxHeartbeats 2000000 in
set_option maxRecDepth 100000 in
theorem b_String_noroom (B b g : Nat) (p : Value) (cur : Array Value) (w : World) (hBw : B ≤ w.heap.size) (hbk : w.heap[b]? = some (.cells #[p, .slice (some ⟨g, 0, none⟩) 0 0] 172 (0, 0))) (hg : w.heap[g]? = some (.cells cur 5 (0, 0))) :
    Calls Tryz.prog 150 #[.pointer (some ⟨b, 0, none⟩)] w fun e w' => e = .returned (.string ⟨#[]⟩) ∧ Grow w w' (fun x => x = b ∨ bufOf w 172 b x) := by
  have hUS := b_usNone
  have hlt : b < w.heap.size := by
    rcases Nat.lt_or_ge b w.heap.size with h' | h'
    · exact h'
    · simp [Array.getElem?_eq_none h'] at hbk
  have c1 : w.drew.cell? ⟨b, 1, none⟩ = some (.slice (some ⟨g, 0, none⟩) 0 0) := by
    have : w.drew.heap[b]? = some (.cells #[p, .slice (some ⟨g, 0, none⟩) 0 0] 172 (0, 0)) := hbk
    rw [Lib.cell_of_heap this]; rfl
  have hSD : (Builtin.unsafeSliceData_ #[170] 224 #[.slice (some ⟨g, 0, none⟩) 0 0]).run Tryz.prog w.drew = .ok (.pointer (some ⟨w.drew.heap.size, 0, none⟩)) (w.drew.alloc (.view ⟨g, 0, none⟩ 5)) :=
    Lib.run_unsafeSliceData_zero w.drew _ _ 5 Tryz.underlying224 ⟨g, 0, none⟩ 0 (5, cur.size) (by have hg' : w.drew.heap[g]? = some (.cells cur 5 (0, 0)) := hg; simp [World.shape?, hg'])
  have c2 : (w.drew.alloc (.view ⟨g, 0, none⟩ 5)).cell? ⟨b, 1, none⟩ = some (.slice (some ⟨g, 0, none⟩) 0 0) := by
    have : (w.drew.alloc (.view ⟨g, 0, none⟩ 5)).heap[b]? = _ := (Lib.alloc_old w.drew _ b hlt).trans hbk
    rw [Lib.cell_of_heap this]; rfl
  have c3 : (w.alloc (.view ⟨g, 0, none⟩ 5)).drew.cell? ⟨b, 1, none⟩ = some (.slice (some ⟨g, 0, none⟩) 0 0) := c2
  have c0 : w.cell? ⟨b, 1, none⟩ = some (.slice (some ⟨g, 0, none⟩) 0 0) := c1
  have mixed := b_mixed
  go_enter Tryz.func150, Tryz.ntmps150
  go_wp2
  go_region_o
  all_goals (go_wp2; go_ret; exact ⟨rfl, grow_alloc'⟩)

set_option maxHeartbeats 2000000 in
set_option maxRecDepth 100000 in
theorem b_String_room (B b g cap : Nat) (p : Value) (w : World) (hc0 : cap ≠ 0) (hbk : w.heap[b]? = some (.cells #[p, .slice (some ⟨g, 0, none⟩) 0 cap] 172 (0, 0))) :
    Calls Tryz.prog 150 #[.pointer (some ⟨b, 0, none⟩)] w fun e w' => e = .returned (.string ⟨#[]⟩) ∧ Grow w w' (fun x => x = b ∨ bufOf w 172 b x) := by
  have hUS := b_usNone
  have c1 : w.drew.cell? ⟨b, 1, none⟩ = some (.slice (some ⟨g, 0, none⟩) 0 cap) := by
    have : w.drew.heap[b]? = some (.cells #[p, .slice (some ⟨g, 0, none⟩) 0 cap] 172 (0, 0)) := hbk
    rw [Lib.cell_of_heap this]; rfl
  have hSD : (Builtin.unsafeSliceData_ #[170] 224 #[.slice (some ⟨g, 0, none⟩) 0 cap]).run Tryz.prog w.drew = .ok (.pointer (some ⟨g, 0, none⟩)) w.drew :=
    Lib.run_unsafeSliceData_row _ _ _ _ _ _ hc0
  clear hc0
  have mixed := b_mixed
  go_enter Tryz.func150, Tryz.ntmps150
  go_wp2
  go_region_o
  all_goals (go_wp2; go_ret; exact ⟨rfl, (Grow.refl w _).drew⟩)

theorem b_String_empty (B b : Nat) (w : World) (h : Lib.IsBuilder 172 5 B b [] w) (hBw : B ≤ w.heap.size) :
    Calls Tryz.prog 150 #[.pointer (some ⟨b, 0, none⟩)] w fun e w' => e = .returned (.string ⟨#[]⟩) ∧ Grow w w' (fun x => x = b ∨ bufOf w 172 b x) := by
  obtain ⟨p, hB, v, hbk, hown, hne⟩ : ∃ p, Lib.BuilderAt 172 5 B b p [] w := by
    rcases h with h | h
    · exact ⟨_, h⟩
    · exact ⟨_, h⟩
  rcases hown.2 with ⟨rfl, _⟩ | ⟨g, cap, cur, rfl, hbg, hg, _, _, _, _⟩
  · exact b_String_nil B b p w hbk
  · by_cases hc0 : cap = 0
    · subst hc0
      exact b_String_noroom B b g p cur w hBw hbk hg
    · exact b_String_room B b g cap p w hc0 hbk

theorem b_String_any (B b : Nat) (l : List UInt8) (w : World) (h : Lib.IsBuilder 172 5 B b (Lib.byteCells l) w) (hBw : B ≤ w.heap.size) :
    Calls Tryz.prog 150 #[.pointer (some ⟨b, 0, none⟩)] w fun e w' => e = .returned (.string ⟨l.toArray⟩) ∧ Grow w w' (fun x => x = b ∨ bufOf w 172 b x) := by
  cases l with
  | nil => exact b_String_empty B b w h hBw
  | cons x r => exact b_String B b (x :: r) w h (by simp)

set_option maxHeartbeats 2000000 in
set_option maxRecDepth 1000000 in
theorem b_grow_fresh (B b n : Nat) (w : World) (hB : B ≤ b) (hbk : w.heap[b]? = some (.cells #[.pointer (some ⟨b, 0, none⟩), .slice none 0 0] 172 (0, 0))) (hBw : B ≤ w.heap.size) (hn : n ≤ 281474976710656) :
    Calls Tryz.prog 225 #[.pointer (some ⟨b, 0, none⟩), .int .i64 n] w fun e w' => e = .returned (.tuple #[]) ∧ SbPost 172 5 b [] w w' := by
  obtain ⟨cs, hrun, hle, hmax⟩ := Lib.run_makeNoZero (P := Tryz.prog) w.drew #[3] 170 5 Tryz.underlying170 n hn
  have hw : IntKind.i64.wrap (IntKind.i64.wrap 0 + (n : Int)) = n := by
    rw [IntKind.wrap_i64, IntKind.wrap_i64]
    omega
  have hcall : (callFunc 263 #[.int .i64 (IntKind.i64.wrap (IntKind.i64.wrap 0 + (n : Int)))]).run Tryz.prog w.drew = .ok (.value (.slice (some ⟨w.drew.heap.size, 0, none⟩) n cs.size)) (w.drew.drew.drew.alloc (.cells cs 5)) := by
    rw [hw, run_callFunc_extern Tryz.func263 (by kernel_rfl) (by kernel_rfl) (by kernel_rfl) (e := Extern.BytealgMakeNoZero.makeNoZero #[3] #[170]) (by kernel_rfl), hrun]
    rfl
  have c1 : w.drew.cell? ⟨b, 1, none⟩ = some (.slice none 0 0) := by
    have : w.drew.heap[b]? = _ := hbk
    rw [Lib.cell_of_heap this]; rfl
  have c2 : (w.alloc (.cells cs 5)).cell? ⟨b, 1, none⟩ = some (.slice none 0 0) := by
    have hlt : b < w.heap.size := by
      rcases Nat.lt_or_ge b w.heap.size with h' | h'
      · exact h'
      · simp [Array.getElem?_eq_none h'] at hbk
    have : (w.alloc (.cells cs 5)).heap[b]? = _ := (Lib.alloc_old w _ b hlt).trans hbk
    rw [Lib.cell_of_heap this]; rfl
  have f2 : (w.alloc (.cells cs 5)).frozen? ⟨b, 1, none⟩ = false := by
    have hlt : b < w.heap.size := by
      rcases Nat.lt_or_ge b w.heap.size with h' | h'
      · exact h'
      · simp [Array.getElem?_eq_none h'] at hbk
    exact Lib.frozen_of_heap ((Lib.alloc_old w _ b hlt).trans hbk) 1
  have hcopy : ∀ W : World, (Builtin.copy_ #[170, 170] 3 #[.slice (some ⟨w.heap.size, 0, none⟩) 0 cs.size, .slice none 0 0]).run Tryz.prog W = .ok (goInt 0) W :=
    fun W => run_copy_none W 170 170 3 5 _ _ 0 cs.size 0 0 Tryz.underlying170 b_size rfl
  clear hw
  have mixed := b_mixed
  go_enter Tryz.func225, Tryz.ntmps225
  go_wp2
  have hfin := SbPost.of_grown (T := 172) (e := 5) (cs := cs) (by decide) hbk (hmax (by unfold maxLen; omega))
  go_region_o
  all_goals (go_wp2; go_end0; exact ⟨rfl, hfin⟩)

set_option maxHeartbeats 2000000 in
set_option maxRecDepth 1000000 in
theorem b_Grow_fresh (B b n : Nat) (w : World) (hB : B ≤ b) (hbk : w.heap[b]? = some (.cells #[.pointer none, .slice none 0 0] 172 (0, 0))) (hBw : B ≤ w.heap.size) (hn : n ≤ 281474976710656) :
    Calls Tryz.prog 147 #[.pointer (some ⟨b, 0, none⟩), .int .i64 n] w fun e w' => e = .returned (.tuple #[]) ∧ SbPost 172 5 b [] w w' := by
  have hbk1 : (w.setCell ⟨b, 0, none⟩ (.pointer (some ⟨b, 0, none⟩))).heap[b]? = some (.cells #[.pointer (some ⟨b, 0, none⟩), .slice none 0 0] 172 (0, 0)) := by
    simp [World.setCell, Array.getElem?_modify, hbk]
  have c1 : (w.setCell ⟨b, 0, none⟩ (.pointer (some ⟨b, 0, none⟩))).cell? ⟨b, 1, none⟩ = some (.slice none 0 0) := by rw [Lib.cell_of_heap hbk1]; rfl
  have mixed := b_mixed
  go_enter Tryz.func147, Tryz.ntmps147
  have c1' : (w.setCell ⟨b, 0, none⟩ (.pointer (some ⟨b, 0, none⟩))).drew.cell? ⟨b, 1, none⟩ = some (.slice none 0 0) := c1
  go_wp2_with (go_at_call 224; refine (b_ccFresh b w (by rw [Lib.cell_of_heap hbk]; rfl) (by simp [World.shape?, hbk]) (Lib.frozen_of_heap hbk 0)).mono ?_; rintro e w' ⟨rfl, rfl⟩)
  go_region_o
  all_goals go_wp2_with (go_at_call 225; refine (b_grow_fresh B b n (w.setCell ⟨b, 0, none⟩ (.pointer (some ⟨b, 0, none⟩))).drew hB hbk1 (by simpa [World.setCell, World.drew, -World.drew_eq] using hBw) hn).mono ?_; rintro e w' ⟨rfl, h1⟩)
  all_goals first
    | (go_end0; exact ⟨rfl, SbPost.behind hbk h1⟩)
    | (go_end0; exact ⟨rfl, SbPost.of_used hbk⟩)

end Go.Proofs.YtndjmidmfmcbkaaGreatDoor
