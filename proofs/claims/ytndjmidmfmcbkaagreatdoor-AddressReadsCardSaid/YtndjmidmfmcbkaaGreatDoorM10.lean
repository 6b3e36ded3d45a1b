
/- Own texts, put together: L7. -/
import Derived.Test.YtndjmidmfmcbkaaGreatDoorM9
/- Addresses that are made. -/
namespace Go.Proofs.YtndjmidmfmcbkaaGreatDoor
open Go.RowKit
set_option linter.unusedVariables false
set_option linter.unusedSimpArgs false
set_option linter.defProp false

/- (*paperchase/chasemake.Stream).AddressText -/
def ir_chasemake_Stream_AddressText : IC :=
  (.seq (.reg [⟨some 2, .mov (.c (.str [])), none⟩])
    (.seq (.reg [⟨some 6, .mov (.t 0), none⟩,
      ⟨some 7, .call 71 [.c (.str [108]), .c (.int .i64 41)], none⟩,
      ⟨some 8, .bin .add (.t 7) (.c (.str [64, 98, 46, 100, 101])), none⟩,
      ⟨some 9, .call 71 [.c (.str [100]), .c (.int .i64 31)], none⟩,
      ⟨some 10, .bin .add (.c (.str [120, 64])) (.t 9), none⟩,
      ⟨some 11, .bin .add (.t 10) (.c (.str [46, 100, 101])), none⟩,
      ⟨some 12, .bsl 1 [.c (.str [97, 110, 110, 64, 98, 46, 100, 101]), .c (.str [66, 111, 64, 66, 46, 100, 101]), .c (.str [99, 121, 46, 100, 43, 120, 64, 115, 117, 98, 46, 99, 45, 100, 46, 111, 114, 103]), .c (.str [97, 95, 98, 64, 120, 46, 121]), .c (.str [64, 98, 46, 100, 101]), .c (.str [97, 64, 98]), .c (.str [97, 64]), .t 8, .t 11], none⟩,
      ⟨some 13, .call 67 [.t 6, .t 12], none⟩,
      ⟨some 3, .mov (.t 13), none⟩])
    (.seq (.reg [⟨some 14, .mov (.t 0), none⟩,
      ⟨some 15, .call 71 [.c (.str [110]), .c (.int .i64 60)], none⟩,
      ⟨some 16, .call 71 [.c (.str [110]), .c (.int .i64 61)], none⟩,
      ⟨some 17, .bsl 1 [.c (.str [65, 110, 110]), .c (.str [65, 110, 110, 32, 76, 101, 101]), .c (.str [76, 101, 101, 44, 32, 65, 110, 110]), .c (.str [195, 137, 97]), .c (.str [65, 44, 66]), .c (.str []), .c (.str [32]), .c (.str [97, 59, 98]), .c (.str [34]), .c (.str [44, 32, 65, 110, 110]), .c (.str [76, 101, 101, 44, 32]), .t 15, .t 16], none⟩,
      ⟨some 18, .call 67 [.t 14, .t 17], none⟩,
      ⟨some 4, .mov (.t 18), none⟩])
    (.seq (.reg [⟨some 19, .mov (.t 0), none⟩,
      ⟨some 20, .mov (.t 3), none⟩,
      ⟨some 21, .mov (.t 3), none⟩,
      ⟨some 22, .bin .add (.c (.str [60])) (.t 21), none⟩,
      ⟨some 23, .bin .add (.t 22) (.c (.str [62])), none⟩,
      ⟨some 24, .mov (.t 4), none⟩,
      ⟨some 25, .bin .add (.t 24) (.c (.str [32, 60])), none⟩,
      ⟨some 26, .mov (.t 3), none⟩,
      ⟨some 27, .bin .add (.t 25) (.t 26), none⟩,
      ⟨some 28, .bin .add (.t 27) (.c (.str [62])), none⟩,
      ⟨some 29, .mov (.t 4), none⟩,
      ⟨some 30, .bin .add (.c (.str [34])) (.t 29), none⟩,
      ⟨some 31, .bin .add (.t 30) (.c (.str [34, 32, 60])), none⟩,
      ⟨some 32, .mov (.t 3), none⟩,
      ⟨some 33, .bin .add (.t 31) (.t 32), none⟩,
      ⟨some 34, .bin .add (.t 33) (.c (.str [62])), none⟩,
      ⟨some 35, .mov (.t 4), none⟩,
      ⟨some 36, .bin .add (.t 35) (.c (.str [60])), none⟩,
      ⟨some 37, .mov (.t 3), none⟩,
      ⟨some 38, .bin .add (.t 36) (.t 37), none⟩,
      ⟨some 39, .bin .add (.t 38) (.c (.str [62])), none⟩,
      ⟨some 40, .mov (.t 4), none⟩,
      ⟨some 41, .bin .add (.c (.str [34])) (.t 40), none⟩,
      ⟨some 42, .bin .add (.t 41) (.c (.str [34, 60])), none⟩,
      ⟨some 43, .mov (.t 3), none⟩,
      ⟨some 44, .bin .add (.t 42) (.t 43), none⟩,
      ⟨some 45, .bin .add (.t 44) (.c (.str [62])), none⟩,
      ⟨some 46, .mov (.t 3), none⟩,
      ⟨some 47, .bin .add (.t 46) (.c (.str [32, 120])), none⟩,
      ⟨some 48, .mov (.t 4), none⟩,
      ⟨none, .fz (.t 20), none⟩,
      ⟨none, .fz (.t 48), none⟩,
      ⟨some 49, .bsl 1 [.t 20, .t 23, .t 28, .t 34, .t 39, .t 45, .t 47, .t 48], none⟩,
      ⟨some 50, .call 67 [.t 19, .t 49], none⟩,
      ⟨some 5, .mov (.t 50), none⟩])
    (.seq (.seq (.reg [⟨some 51, .mov (.t 0), none⟩,
      ⟨some 52, .call 27 [.t 51, .c (.int .i64 4)], none⟩])
    (.cond (.t 52) (.reg [⟨some 53, .mov (.t 5), none⟩,
      ⟨some 54, .bin .add (.c (.str [32])) (.t 53), none⟩,
      ⟨some 55, .mov (.t 0), none⟩,
      ⟨some 56, .bsl 1 [.c (.str []), .c (.str [32]), .c (.str [32, 32]), .c (.str [10])], none⟩,
      ⟨some 57, .call 67 [.t 55, .t 56], none⟩,
      ⟨some 58, .bin .add (.t 54) (.t 57), none⟩,
      ⟨some 5, .mov (.t 58), none⟩]) .skip))
    (.cut (.seq (.reg [⟨some 59, .mov (.t 5), none⟩,
      ⟨some 2, .mov (.t 59), none⟩])
    .ret)))))))
def rs_chasemake_Stream_AddressText : List IRes := [.t 2]
theorem ck_chasemake_Stream_AddressText : chkF Tryz.prog Tryz.f20 ir_chasemake_Stream_AddressText rs_chasemake_Stream_AddressText 60 = true := by kernel_rfl
/- (*paperchase/chasemake.Stream).AddressList -/
def ir_chasemake_Stream_AddressList_L0 : IC :=
  (.seq (.reg [⟨some 7, .bin .lss (.t 6) (.t 5), none⟩])
    (.seq (.cond (.t 7) .skip (.exit 0))
    (.seq (.block 1 (.seq (.reg [⟨some 8, .mov (.t 0), none⟩,
      ⟨some 9, .call 27 [.t 8, .c (.int .i64 4)], none⟩])
    (.cond (.t 9) (.reg [⟨some 10, .mov (.t 3), none⟩,
      ⟨some 11, .mov (.t 0), none⟩,
      ⟨some 12, .call 20 [.t 11], none⟩,
      ⟨none, .fz (.t 12), none⟩,
      ⟨some 13, .bsl 1 [.t 12], none⟩,
      ⟨some 14, .app 9 1 16 (.t 10) (.t 13), none⟩,
      ⟨some 3, .mov (.t 14), none⟩]) (.reg [⟨some 15, .mov (.t 3), none⟩,
      ⟨some 16, .mov (.t 0), none⟩,
      ⟨some 17, .bsl 1 [.c (.str [97, 110, 110, 64, 98, 46, 100, 101]), .c (.str [66, 111, 32, 60, 98, 111, 64, 98, 46, 100, 101, 62]), .c (.str [34, 76, 101, 101, 44, 32, 67, 121, 34, 32, 60, 99, 121, 64, 98, 46, 100, 101, 62]), .c (.str []), .c (.str [32])], none⟩,
      ⟨some 18, .call 67 [.t 16, .t 17], none⟩,
      ⟨none, .fz (.t 18), none⟩,
      ⟨some 19, .bsl 1 [.t 18], none⟩,
      ⟨some 20, .app 9 1 16 (.t 15) (.t 19), none⟩,
      ⟨some 3, .mov (.t 20), none⟩]))))
    (.cut (.reg [⟨some 21, .bin .add (.t 6) (.c (.int .i64 1)), none⟩,
      ⟨some 6, .mov (.t 21), none⟩])))))
def ir_chasemake_Stream_AddressList : IC :=
  (.seq (.reg [⟨some 2, .mov (.c (.str [])), none⟩])
    (.seq (.reg [⟨some 3, .nilr 9 1, none⟩])
    (.seq (.seq (.reg [⟨some 4, .mov (.t 0), none⟩,
      ⟨some 5, .call 65 [.t 4, .c (.int .i64 5)], none⟩,
      ⟨some 6, .mov (.c (.int .i64 0)), none⟩])
    (.block 0 (.loop ir_chasemake_Stream_AddressList_L0)))
    (.seq (.reg [⟨some 22, .mov (.t 3), none⟩,
      ⟨some 23, .mov (.t 0), none⟩,
      ⟨some 24, .bsl 1 [.c (.str [44]), .c (.str [44, 32]), .c (.str [59]), .c (.str [59, 32])], none⟩,
      ⟨some 25, .call 67 [.t 23, .t 24], none⟩,
      ⟨some 26, .call 90 [.t 22, .t 25], none⟩,
      ⟨some 2, .mov (.t 26), none⟩])
    .ret))))
def rs_chasemake_Stream_AddressList : List IRes := [.t 2]
theorem ck_chasemake_Stream_AddressList : chkF Tryz.prog Tryz.f23 ir_chasemake_Stream_AddressList rs_chasemake_Stream_AddressList 27 = true := by kernel_rfl

section
variable {E : Envt}
def amA : List (List UInt8) := [[97, 110, 110, 64, 98, 46, 100, 101], [66, 111, 64, 66, 46, 100, 101], [99, 121, 46, 100, 43, 120, 64, 115, 117, 98, 46, 99, 45, 100, 46, 111, 114, 103], [97, 95, 98, 64, 120, 46, 121], [64, 98, 46, 100, 101], [97, 64, 98], [97, 64], Lib.repeatL [108] 41 ++ [64, 98, 46, 100, 101], [120, 64] ++ Lib.repeatL [100] 31 ++ [46, 100, 101]]
def anA : List (List UInt8) := [[65, 110, 110], [65, 110, 110, 32, 76, 101, 101], [76, 101, 101, 44, 32, 65, 110, 110], [195, 137, 97], [65, 44, 66], [], [32], [97, 59, 98], [34], [44, 32, 65, 110, 110], [76, 101, 101, 44, 32], Lib.repeatL [110] 60, Lib.repeatL [110] 61]
def atA (m n : List UInt8) : List (List UInt8) := [m, 60 :: (m ++ [62]), n ++ [32, 60] ++ m ++ [62], 34 :: (n ++ [34, 32, 60] ++ m ++ [62]), n ++ [60] ++ m ++ [62], 34 :: (n ++ [34, 60] ++ m ++ [62]), m ++ [32, 120], n]
def aeA : List (List UInt8) := [[], [32], [32, 32], [10]]
theorem amA_len : ∀ s ∈ amA, s.length ≤ 100 := by decide +kernel
theorem anA_len : ∀ s ∈ anA, s.length ≤ 100 := by decide +kernel
theorem aeA_len : ∀ s ∈ aeA, s.length ≤ 100 := by decide +kernel
theorem atA_len {m n : List UInt8} (hm : m.length ≤ 100) (hn : n.length ≤ 100) : ∀ s ∈ atA m n, s.length ≤ 300 := by
  intro s hs
  simp only [atA, List.mem_cons, List.not_mem_nil, or_false] at hs
  rcases hs with rfl | rfl | rfl | rfl | rfl | rfl | rfl | rfl <;> first | omega | (simp; omega)
theorem AddressText_ok' (l : List Int) (k : Nat) (hk : k ≤ 900000) (hl : l.length ≤ 9223372036854775807) :
    SCall Tryz.prog E 20 T (stm l k) [] (fun x cs' => ∃ s k', x = .str s ∧ s.length ≤ 500 ∧ cs' = stm l k' ∧ k' ≤ k + 10) := by
  unfold SCall
  refine gcallP mixed Tryz.func20 ck_chasemake_Stream_AddressText ?_
  simp only [a0, l0, OS.ao, List.map_cons, List.map_nil, List.length_cons, List.length_nil, List.cons_append, List.nil_append, Nat.reduceSub, Nat.reduceAdd, List.replicate_succ, List.replicate_zero, ir_chasemake_Stream_AddressText, rs_chasemake_Stream_AddressText, ZZ, YY, Zd, ite_true, ite_false, forall_const, reduceCtorEq, Nat.reduceAdd, Nat.reduceMul, Nat.reduceLeDiff, Nat.reduceLT, Nat.reduceEqDiff]
  refine use1 (RepeatG_ok [108] 41 (by omega) (by simp)) rfl (.inl rfl) ?_
  have h1 := rep_len 108 41
  have h2 := rep_len 100 31
  simp only [ZZ, YY, Zd, ite_true, ite_false, forall_const, reduceCtorEq, Nat.reduceAdd, Nat.reduceMul, Nat.reduceLeDiff, Nat.reduceLT, Nat.reduceEqDiff]
  refine ⟨by simp [h1], ?_⟩
  refine use1 (RepeatG_ok [100] 31 (by omega) (by simp)) rfl (.inl rfl) ?_
  simp only [ZZ, YY, Zd, ite_true, ite_false, forall_const, reduceCtorEq, Nat.reduceAdd, Nat.reduceMul, Nat.reduceLeDiff, Nat.reduceLT, Nat.reduceEqDiff]
  refine ⟨by simp [h2], by simp [h2], ?_⟩
  refine useS (one_ok l k amA (by omega) hl (by decide) (by decide)) rfl rfl rfl (by simp only [ZZ, YY, Zd, ite_true, ite_false, forall_const, reduceCtorEq, Nat.reduceAdd, Nat.reduceMul, Nat.reduceLeDiff, Nat.reduceLT, Nat.reduceEqDiff]) ?_
  rintro x cs' ⟨m, rfl, hm, rfl⟩
  have hm := amA_len m hm
  clear h1 h2
  simp only [ZZ, YY, Zd, ite_true, ite_false, forall_const, reduceCtorEq, Nat.reduceAdd, Nat.reduceMul, Nat.reduceLeDiff, Nat.reduceLT, Nat.reduceEqDiff]
  refine use1 (RepeatG_ok [110] 60 (by omega) (by simp)) rfl (.inl rfl) ?_
  simp only [ZZ, YY, Zd, ite_true, ite_false, forall_const, reduceCtorEq, Nat.reduceAdd, Nat.reduceMul, Nat.reduceLeDiff, Nat.reduceLT, Nat.reduceEqDiff]
  refine use1 (RepeatG_ok [110] 61 (by omega) (by simp)) rfl (.inl rfl) ?_
  simp only [ZZ, YY, Zd, ite_true, ite_false, forall_const, reduceCtorEq, Nat.reduceAdd, Nat.reduceMul, Nat.reduceLeDiff, Nat.reduceLT, Nat.reduceEqDiff]
  refine useS (one_ok l (k + 1) anA (by omega) hl (by decide) (by decide)) rfl rfl rfl (by simp only [ZZ, YY, Zd, ite_true, ite_false, forall_const, reduceCtorEq, Nat.reduceAdd, Nat.reduceMul, Nat.reduceLeDiff, Nat.reduceLT, Nat.reduceEqDiff]) ?_
  rintro x cs' ⟨n, rfl, hn, rfl⟩
  have hn := anA_len n hn
  simp only [ZZ, YY, Zd, ite_true, ite_false, forall_const, reduceCtorEq, Nat.reduceAdd, Nat.reduceMul, Nat.reduceLeDiff, Nat.reduceLT, Nat.reduceEqDiff]
  iterate 17 (refine ⟨by (try simp only [List.length_append, List.length_cons, List.length_nil]); omega, ?_⟩)
  refine useS (one_ok l (k + 1 + 1) (atA m n) (by omega) hl (by simp [atA]) (by simp [atA])) rfl rfl rfl (by simp only [ZZ, YY, Zd, ite_true, ite_false, forall_const, reduceCtorEq, Nat.reduceAdd, Nat.reduceMul, Nat.reduceLeDiff, Nat.reduceLT, Nat.reduceEqDiff]) ?_
  rintro x cs' ⟨t, rfl, ht, rfl⟩
  have ht := atA_len hm hn t ht
  clear hm hn
  simp only [ZZ, YY, Zd, ite_true, ite_false, forall_const, reduceCtorEq, Nat.reduceAdd, Nat.reduceMul, Nat.reduceLeDiff, Nat.reduceLT, Nat.reduceEqDiff]
  refine useS (Flip_ok l (k + 1 + 1 + 1) 4 (by omega) hl (by decide)) rfl rfl rfl (by simp only [ZZ, YY, Zd, ite_true, ite_false, forall_const, reduceCtorEq, Nat.reduceAdd, Nat.reduceMul, Nat.reduceLeDiff, Nat.reduceLT, Nat.reduceEqDiff]) ?_
  rintro x cs' ⟨b, rfl, rfl⟩
  simp only [ZZ, YY, Zd, ite_true, ite_false, forall_const, reduceCtorEq, Nat.reduceAdd, Nat.reduceMul, Nat.reduceLeDiff, Nat.reduceLT, Nat.reduceEqDiff]
  refine br ?_ ?_
  · intro _
    simp only [ZZ, YY, Zd, ite_true, ite_false, forall_const, reduceCtorEq, Nat.reduceAdd, Nat.reduceMul, Nat.reduceLeDiff, Nat.reduceLT, Nat.reduceEqDiff]
    refine ⟨by simp; omega, ?_⟩
    refine useS (one_ok l (k + 1 + 1 + 1 + 1) aeA (by omega) hl (by decide) (by decide)) rfl rfl rfl (by simp only [ZZ, YY, Zd, ite_true, ite_false, forall_const, reduceCtorEq, Nat.reduceAdd, Nat.reduceMul, Nat.reduceLeDiff, Nat.reduceLT, Nat.reduceEqDiff]) ?_
    rintro x cs' ⟨u, rfl, hu, rfl⟩
    have hu := aeA_len u hu
    simp only [ZZ, YY, Zd, ite_true, ite_false, forall_const, reduceCtorEq, Nat.reduceAdd, Nat.reduceMul, Nat.reduceLeDiff, Nat.reduceLT, Nat.reduceEqDiff]
    refine ⟨by simp; omega, ?_⟩
    refine cut_same (by simp only [ZZ, YY, Zd, ite_true, ite_false, forall_const, reduceCtorEq, Nat.reduceAdd, Nat.reduceMul, Nat.reduceLeDiff, Nat.reduceLT, Nat.reduceEqDiff]) ?_
    simp only [ZZ, YY, Zd, ite_true, ite_false, forall_const, reduceCtorEq, Nat.reduceAdd, Nat.reduceMul, Nat.reduceLeDiff, Nat.reduceLT, Nat.reduceEqDiff]
    exact fin_S (stm l (k + 1 + 1 + 1 + 1 + 1)) rfl ⟨_, _, rfl, by simp; omega, rfl, by omega⟩
  · intro _
    simp only [ZZ, YY, Zd, ite_true, ite_false, forall_const, reduceCtorEq, Nat.reduceAdd, Nat.reduceMul, Nat.reduceLeDiff, Nat.reduceLT, Nat.reduceEqDiff]
    refine cut_same (by simp only [ZZ, YY, Zd, ite_true, ite_false, forall_const, reduceCtorEq, Nat.reduceAdd, Nat.reduceMul, Nat.reduceLeDiff, Nat.reduceLT, Nat.reduceEqDiff]) ?_
    simp only [ZZ, YY, Zd, ite_true, ite_false, forall_const, reduceCtorEq, Nat.reduceAdd, Nat.reduceMul, Nat.reduceLeDiff, Nat.reduceLT, Nat.reduceEqDiff]
    exact fin_S (stm l (k + 1 + 1 + 1 + 1)) rfl ⟨_, _, rfl, by omega, rfl, by omega⟩
def alA : List (List UInt8) := [[97, 110, 110, 64, 98, 46, 100, 101], [66, 111, 32, 60, 98, 111, 64, 98, 46, 100, 101, 62], [34, 76, 101, 101, 44, 32, 67, 121, 34, 32, 60, 99, 121, 64, 98, 46, 100, 101, 62], [], [32]]
def asA : List (List UInt8) := [[44], [44, 32], [59], [59, 32]]
theorem alA_len : ∀ s ∈ alA, s.length ≤ 500 := by decide +kernel
theorem asA_len : ∀ s ∈ asA, s.length ≤ 2 := by decide +kernel
theorem join_bd2 (l : List (List UInt8)) (sep : List UInt8) (m : Nat) (h : ∀ x ∈ l, x.length ≤ m) : (Lib.join l sep).length ≤ l.length * (m + sep.length) := by
  cases l with
  | nil => simp [Lib.join_nil]
  | cons x r =>
    have := lens_bd m (x :: r) h
    rw [Lib.join_length, Nat.mul_add]
    simp only [List.length_cons, List.length_nil] at *
    rw [Nat.succ_mul r.length sep.length, Nat.mul_comm r.length sep.length]
    omega
theorem AddressList_ok (l : List Int) (k : Nat) (hk : k ≤ 800000) (hl : l.length ≤ 9223372036854775807) :
    SCall Tryz.prog E0 23 T (stm l k) [] (fun x cs' => ∃ s k', x = .str s ∧ s.length ≤ 10000 ∧ cs' = stm l k' ∧ k' ≤ k + 100) := by
  unfold SCall
  refine gcallP mixed Tryz.func23 ck_chasemake_Stream_AddressList ?_
  simp only [a0, l0, OS.ao, List.map_cons, List.map_nil, List.length_cons, List.length_nil, List.cons_append, List.nil_append, Nat.reduceSub, Nat.reduceAdd, List.replicate_succ, List.replicate_zero, ir_chasemake_Stream_AddressList, rs_chasemake_Stream_AddressList, ZZ, YY, Zd, ite_true, ite_false, forall_const, reduceCtorEq, Nat.reduceAdd, Nat.reduceMul, Nat.reduceLeDiff, Nat.reduceLT, Nat.reduceEqDiff]
  refine useS (Next_ok l k 5 (by omega) hl (by decide)) rfl rfl rfl (by simp only [ZZ, YY, Zd, ite_true, ite_false, forall_const, reduceCtorEq, Nat.reduceAdd, Nat.reduceMul, Nat.reduceLeDiff, Nat.reduceLT, Nat.reduceEqDiff]) ?_
  rintro x cs' ⟨y, rfl, rfl⟩
  have b1 := below_lo y 5
  have b2 := below_hi y 5 (by omega)
  generalize below y 5 = m at *
  simp only [ZZ, YY, Zd, ite_true, ite_false, forall_const, reduceCtorEq, Nat.reduceAdd, Nat.reduceMul, Nat.reduceLeDiff, Nat.reduceLT, Nat.reduceEqDiff]
  refine loop_intro (fun n fr L => ∃ (i k' : Nat) (o : List (List UInt8)), n = 5 - i ∧ i ≤ 5 ∧ k' ≤ k + 1 + 12 * i ∧ o.length ≤ i ∧ (∀ x ∈ o, x.length ≤ 500) ∧ fr = [.adr (.b 0) 0, .any, .any, .row (.l 3), .any, .p (int m), .p (int (i : Nat)), .any, .any, .any, .any, .any, .any, .any, .any, .any, .any, .any, .any, .any, .any, .any, .any, .any, .any, .any, .any] ∧ L = [(.b 0, .box ((stm l k').map .p) T), (.l 3, .row (strE o) tStr 1 true)]) 5 [.adr (.b 0) 0, .any, .any, .row (.l 3), .any, .p (int m), .p (int (0 : Nat)), .any, .any, .any, .any, .any, .any, .any, .any, .any, .any, .any, .any, .any, .any, .any, .any, .any, .any, .any, .any] [(.b 0, .box ((stm l (k + 1)).map .p) T), (.l 3, .row (strE []) tStr 1 true)] (by (simp only [ZZ, YY, Zd, ite_true, ite_false, forall_const, reduceCtorEq, Nat.reduceAdd, Nat.reduceMul, Nat.reduceLeDiff, Nat.reduceLT, Nat.reduceEqDiff]; try trivial)) (by simp only [ZZ, YY, Zd, ite_true, ite_false, forall_const, reduceCtorEq, Nat.reduceAdd, Nat.reduceMul, Nat.reduceLeDiff, Nat.reduceLT, Nat.reduceEqDiff]; try rfl) ⟨0, k + 1, [], by omega, by omega, by omega, by simp, by simp, rfl, rfl⟩ ?_
  rintro n fr L ⟨i, k', o, rfl, hi, hk', ho, hob, rfl, rfl⟩
  simp only [ir_chasemake_Stream_AddressList_L0, ZZ, YY, Zd, ite_true, ite_false, forall_const, reduceCtorEq, Nat.reduceAdd, Nat.reduceMul, Nat.reduceLeDiff, Nat.reduceLT, Nat.reduceEqDiff]
  refine br ?_ ?_
  · intro h
    have hlt : (i : Int) < m := of_decide_eq_true h
    have hi5 : i < 5 := by omega
    simp only [ZZ, YY, Zd, ite_true, ite_false, forall_const, reduceCtorEq, Nat.reduceAdd, Nat.reduceMul, Nat.reduceLeDiff, Nat.reduceLT, Nat.reduceEqDiff]
    refine useS (Flip_ok l k' 4 (by omega) hl (by decide)) rfl rfl rfl (by simp only [ZZ, YY, Zd, ite_true, ite_false, forall_const, reduceCtorEq, Nat.reduceAdd, Nat.reduceMul, Nat.reduceLeDiff, Nat.reduceLT, Nat.reduceEqDiff]) ?_
    rintro x cs' ⟨b, rfl, rfl⟩
    simp only [ZZ, YY, Zd, ite_true, ite_false, forall_const, reduceCtorEq, Nat.reduceAdd, Nat.reduceMul, Nat.reduceLeDiff, Nat.reduceLT, Nat.reduceEqDiff]
    refine br ?_ ?_
    · intro _
      simp only [ZZ, YY, Zd, ite_true, ite_false, forall_const, reduceCtorEq, Nat.reduceAdd, Nat.reduceMul, Nat.reduceLeDiff, Nat.reduceLT, Nat.reduceEqDiff]
      refine useS (AddressText_ok' l (k' + 1) (by omega) hl) rfl rfl rfl (by simp only [ZZ, YY, Zd, ite_true, ite_false, forall_const, reduceCtorEq, Nat.reduceAdd, Nat.reduceMul, Nat.reduceLeDiff, Nat.reduceLT, Nat.reduceEqDiff]) ?_
      rintro x cs' ⟨u, k2, rfl, hu, rfl, hk2⟩
      simp only [ZZ, YY, Zd, ite_true, ite_false, forall_const, reduceCtorEq, Nat.reduceAdd, Nat.reduceMul, Nat.reduceLeDiff, Nat.reduceLT, Nat.reduceEqDiff, strE_len]
      refine ⟨by omega, ?_⟩
      refine cut_same (by simp only [ZZ, YY, Zd, ite_true, ite_false, forall_const, reduceCtorEq, Nat.reduceAdd, Nat.reduceMul, Nat.reduceLeDiff, Nat.reduceLT, Nat.reduceEqDiff]) ?_
      simp only [ZZ, YY, Zd, ite_true, ite_false, forall_const, reduceCtorEq, Nat.reduceAdd, Nat.reduceMul, Nat.reduceLeDiff, Nat.reduceLT, Nat.reduceEqDiff]
      rw [show strE o ++ [[PV.str u]] = strE (o ++ [u]) from by simp [strE]]
      refine ⟨i64_of (by omega) (by omega), end_round (5 - (i + 1)) [.adr (.b 0) 0, .any, .any, .row (.l 3), .any, .p (int m), .p (int ((i + 1 : Nat))), .any, .any, .any, .any, .any, .any, .any, .any, .any, .any, .any, .any, .any, .any, .any, .any, .any, .any, .any, .any] [(.b 0, .box ((stm l k2).map .p) T), (.l 3, .row (strE (o ++ [u])) tStr 1 true)] (by omega) (by (simp only [ZZ, YY, Zd, ite_true, ite_false, forall_const, reduceCtorEq, Nat.reduceAdd, Nat.reduceMul, Nat.reduceLeDiff, Nat.reduceLT, Nat.reduceEqDiff]; try trivial)) (by simp only [ZZ, YY, Zd, ite_true, ite_false, forall_const, reduceCtorEq, Nat.reduceAdd, Nat.reduceMul, Nat.reduceLeDiff, Nat.reduceLT, Nat.reduceEqDiff]) ⟨i + 1, k2, o ++ [u], rfl, by omega, by omega, by simp; omega, ?_, rfl, rfl⟩⟩
      intro x hx
      rcases List.mem_append.1 hx with hx | hx
      · exact hob x hx
      · rw [List.mem_singleton] at hx; rw [hx]; exact hu
    · intro _
      simp only [ZZ, YY, Zd, ite_true, ite_false, forall_const, reduceCtorEq, Nat.reduceAdd, Nat.reduceMul, Nat.reduceLeDiff, Nat.reduceLT, Nat.reduceEqDiff]
      refine useS (one_ok l (k' + 1) alA (by omega) hl (by decide) (by decide)) rfl rfl rfl (by simp only [ZZ, YY, Zd, ite_true, ite_false, forall_const, reduceCtorEq, Nat.reduceAdd, Nat.reduceMul, Nat.reduceLeDiff, Nat.reduceLT, Nat.reduceEqDiff]) ?_
      rintro x cs' ⟨u, rfl, hu, rfl⟩
      have hu := alA_len u hu
      simp only [ZZ, YY, Zd, ite_true, ite_false, forall_const, reduceCtorEq, Nat.reduceAdd, Nat.reduceMul, Nat.reduceLeDiff, Nat.reduceLT, Nat.reduceEqDiff, strE_len]
      refine ⟨by omega, ?_⟩
      refine cut_same (by simp only [ZZ, YY, Zd, ite_true, ite_false, forall_const, reduceCtorEq, Nat.reduceAdd, Nat.reduceMul, Nat.reduceLeDiff, Nat.reduceLT, Nat.reduceEqDiff]) ?_
      simp only [ZZ, YY, Zd, ite_true, ite_false, forall_const, reduceCtorEq, Nat.reduceAdd, Nat.reduceMul, Nat.reduceLeDiff, Nat.reduceLT, Nat.reduceEqDiff]
      rw [show strE o ++ [[PV.str u]] = strE (o ++ [u]) from by simp [strE]]
      refine ⟨i64_of (by omega) (by omega), end_round (5 - (i + 1)) [.adr (.b 0) 0, .any, .any, .row (.l 3), .any, .p (int m), .p (int ((i + 1 : Nat))), .any, .any, .any, .any, .any, .any, .any, .any, .any, .any, .any, .any, .any, .any, .any, .any, .any, .any, .any, .any] [(.b 0, .box ((stm l (k' + 1 + 1)).map .p) T), (.l 3, .row (strE (o ++ [u])) tStr 1 true)] (by omega) (by (simp only [ZZ, YY, Zd, ite_true, ite_false, forall_const, reduceCtorEq, Nat.reduceAdd, Nat.reduceMul, Nat.reduceLeDiff, Nat.reduceLT, Nat.reduceEqDiff]; try trivial)) (by simp only [ZZ, YY, Zd, ite_true, ite_false, forall_const, reduceCtorEq, Nat.reduceAdd, Nat.reduceMul, Nat.reduceLeDiff, Nat.reduceLT, Nat.reduceEqDiff]) ⟨i + 1, k' + 1 + 1, o ++ [u], rfl, by omega, by omega, by simp; omega, ?_, rfl, rfl⟩⟩
      intro x hx
      rcases List.mem_append.1 hx with hx | hx
      · exact hob x hx
      · rw [List.mem_singleton] at hx; rw [hx]; exact hu
  · intro h
    simp only [ZZ, YY, Zd, ite_true, ite_false, forall_const, reduceCtorEq, Nat.reduceAdd, Nat.reduceMul, Nat.reduceLeDiff, Nat.reduceLT, Nat.reduceEqDiff]
    refine useS (one_ok l k' asA (by omega) hl (by decide) (by decide)) rfl rfl rfl (by simp only [ZZ, YY, Zd, ite_true, ite_false, forall_const, reduceCtorEq, Nat.reduceAdd, Nat.reduceMul, Nat.reduceLeDiff, Nat.reduceLT, Nat.reduceEqDiff]) ?_
    rintro x cs' ⟨sep, rfl, hsep, rfl⟩
    have hsep := asA_len sep hsep
    have hj := join_bd2 o sep 500 hob
    have hj2 : o.length * (500 + sep.length) ≤ 5 * 502 := Nat.mul_le_mul (by omega) (by omega)
    simp only [ZZ, YY, Zd, ite_true, ite_false, forall_const, reduceCtorEq, Nat.reduceAdd, Nat.reduceMul, Nat.reduceLeDiff, Nat.reduceLT, Nat.reduceEqDiff]
    refine use1 (Join_ok o sep (by omega) (by omega)) rfl (.inr rfl) ?_
    simp only [ZZ, YY, Zd, ite_true, ite_false, forall_const, reduceCtorEq, Nat.reduceAdd, Nat.reduceMul, Nat.reduceLeDiff, Nat.reduceLT, Nat.reduceEqDiff]
    exact fin_S (stm l (k' + 1)) rfl ⟨_, _, rfl, by omega, rfl, by omega⟩
end
end Go.Proofs.YtndjmidmfmcbkaaGreatDoor
