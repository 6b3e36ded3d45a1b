
/- Own texts, put together: H3 C2 C3 C4 C5 C7 C8 E1 G7 I8 I9. -/
import Derived.Test.YtndjmidmfmcbkaaGreatDoorM6
import Derived.Test.YtndjmidmfmcbkaaGreatDoorM5
import Derived.Lib.Join
import Derived.Lib.IndexMore
import Derived.Lib.ValidLaws
import Derived.Test.YtndjmidmfmcbkaaGreatDoorLayDecode
import Derived.Test.YtndjmidmfmcbkaaGreatDoorM4
import Derived.Test.YtndjmidmfmcbkaaGreatDoorM3
import Derived.Test.YtndjmidmfmcbkaaGreatDoorLayDelStr
import Derived.Lib.OwnBridge
import Derived.WalkKit
/- strings.Builder at calls of the layer; strings.Join. -/
namespace Go.Proofs.YtndjmidmfmcbkaaGreatDoor
open Go.RowKit
set_option linter.unusedVariables false
set_option linter.unusedSimpArgs false
set_option linter.defProp false

/- strings.Join -/
def ir_strings_Join_L1 : IC :=
  (.seq (.reg [⟨some 66, .bin .lss (.t 65) (.t 64), none⟩])
    (.seq (.cond (.t 66) .skip (.exit 3))
    (.seq (.block 4 (.seq (.reg [⟨some 67, .ixa 1 (.t 63) (.t 65), none⟩,
      ⟨some 68, .ld 1 false (.t 67), none⟩,
      ⟨some 10, .mov (.t 68), none⟩])
    (.seq (.reg [⟨some 69, .mov (.t 1), none⟩,
      ⟨some 70, .call 148 [.t 8, .t 69], none⟩])
    (.reg [⟨some 71, .mov (.t 10), none⟩,
      ⟨some 72, .call 148 [.t 8, .t 71], none⟩]))))
    (.reg [⟨some 73, .bin .add (.t 65) (.c (.int .i64 1)), none⟩,
      ⟨some 65, .mov (.t 73), none⟩]))))
def ir_strings_Join_L0 : IC :=
  (.seq (.reg [⟨some 42, .bin .lss (.t 41) (.t 40), none⟩])
    (.seq (.cond (.t 42) .skip (.exit 1))
    (.seq (.block 2 (.seq (.reg [⟨some 43, .ixa 1 (.t 39) (.t 41), none⟩,
      ⟨some 44, .ld 1 false (.t 43), none⟩,
      ⟨some 7, .mov (.t 44), none⟩])
    (.seq (.seq (.reg [⟨some 45, .mov (.t 7), none⟩,
      ⟨some 46, .sln (.t 45), none⟩,
      ⟨some 47, .mov (.t 5), none⟩,
      ⟨some 48, .bin .sub (.c (.int .i64 9223372036854775807)) (.t 47), none⟩,
      ⟨some 49, .bin .gtr (.t 46) (.t 48), none⟩])
    (.cond (.t 49) (.reg [⟨some 50, .dead, none⟩,
      ⟨none, .dead, none⟩]) .skip))
    (.cut (.reg [⟨some 51, .mov (.t 5), none⟩,
      ⟨some 52, .mov (.t 7), none⟩,
      ⟨some 53, .sln (.t 52), none⟩,
      ⟨some 54, .bin .add (.t 51) (.t 53), none⟩,
      ⟨some 5, .mov (.t 54), none⟩])))))
    (.reg [⟨some 55, .bin .add (.t 41) (.c (.int .i64 1)), none⟩,
      ⟨some 41, .mov (.t 55), none⟩]))))
def ir_strings_Join : IC :=
  (.seq (.reg [⟨some 4, .mov (.c (.str [])), none⟩])
    (.seq (.seq (.reg [⟨some 11, .mov (.t 0), none⟩,
      ⟨some 12, .len (.t 11), none⟩])
    (.block 0 (.seq (.reg [⟨some 14, .bin .eql (.t 12) (.c (.int .i64 0)), none⟩,
      ⟨some 13, .mov (.t 14), none⟩])
    (.cond (.t 13) (.seq (.reg [⟨some 4, .mov (.c (.str [])), none⟩])
    .ret) (.seq (.reg [⟨some 16, .bin .eql (.t 12) (.c (.int .i64 1)), none⟩,
      ⟨some 15, .mov (.t 16), none⟩])
    (.cond (.t 15) (.seq (.reg [⟨some 17, .mov (.t 0), none⟩,
      ⟨some 18, .ixa 1 (.t 17) (.c (.int .i64 0)), none⟩,
      ⟨some 19, .ld 1 false (.t 18), none⟩,
      ⟨some 4, .mov (.t 19), none⟩])
    .ret) .skip))))))
    (.seq (.reg [⟨some 5, .mov (.c (.int .i64 0)), none⟩])
    (.seq (.seq (.reg [⟨some 20, .mov (.t 1), none⟩,
      ⟨some 21, .sln (.t 20), none⟩,
      ⟨some 22, .bin .gtr (.t 21) (.c (.int .i64 0)), none⟩])
    (.cond (.t 22) (.seq (.seq (.reg [⟨some 23, .mov (.t 1), none⟩,
      ⟨some 24, .sln (.t 23), none⟩,
      ⟨some 25, .mov (.t 0), none⟩,
      ⟨some 26, .len (.t 25), none⟩,
      ⟨some 27, .bin .sub (.t 26) (.c (.int .i64 1)), none⟩,
      ⟨some 28, .bin .quo (.c (.int .i64 9223372036854775807)) (.t 27), none⟩,
      ⟨some 29, .bin .geq (.t 24) (.t 28), none⟩])
    (.cond (.t 29) (.reg [⟨some 30, .dead, none⟩,
      ⟨none, .dead, none⟩]) .skip))
    (.cut (.reg [⟨some 31, .mov (.t 5), none⟩,
      ⟨some 32, .mov (.t 1), none⟩,
      ⟨some 33, .sln (.t 32), none⟩,
      ⟨some 34, .mov (.t 0), none⟩,
      ⟨some 35, .len (.t 34), none⟩,
      ⟨some 36, .bin .sub (.t 35) (.c (.int .i64 1)), none⟩,
      ⟨some 37, .bin .mul (.t 33) (.t 36), none⟩,
      ⟨some 38, .bin .add (.t 31) (.t 37), none⟩,
      ⟨some 5, .mov (.t 38), none⟩]))) .skip))
    (.cut (.seq (.seq (.reg [⟨some 39, .mov (.t 0), none⟩,
      ⟨some 40, .len (.t 39), none⟩,
      ⟨some 41, .mov (.c (.int .i64 0)), none⟩])
    (.block 1 (.loop ir_strings_Join_L0)))
    (.seq (.reg [⟨some 8, .alc 172 [.raw (.pointer none), .nl 1], none⟩])
    (.seq (.reg [⟨some 56, .mov (.t 5), none⟩,
      ⟨some 57, .call 147 [.t 8, .t 56], none⟩])
    (.seq (.reg [⟨some 58, .mov (.t 0), none⟩,
      ⟨some 59, .ixa 1 (.t 58) (.c (.int .i64 0)), none⟩,
      ⟨some 60, .ld 1 false (.t 59), none⟩,
      ⟨some 61, .call 148 [.t 8, .t 60], none⟩])
    (.seq (.seq (.reg [⟨some 62, .mov (.t 0), none⟩,
      ⟨some 63, .vsl 1 (.t 62) (some (.c (.int .i64 1))) none, none⟩,
      ⟨some 64, .len (.t 63), none⟩,
      ⟨some 65, .mov (.c (.int .i64 0)), none⟩])
    (.block 3 (.loop ir_strings_Join_L1)))
    (.seq (.reg [⟨some 74, .call 150 [.t 8], none⟩,
      ⟨some 4, .mov (.t 74), none⟩])
    .ret)))))))))))
def rs_strings_Join : List IRes := [.t 4]
theorem ck_strings_Join : chkF Tryz.prog Tryz.f90 ir_strings_Join rs_strings_Join 75 = true := by kernel_rfl


section
variable {E : Envt} {L : Objs} {k : Key} {i : Nat} {fr : List AV} {d : Option Nat} {is : List IOper} {Y : List PV} {K : List AV → Objs → Prop}
theorem useBS (i : Nat) (s t : List UInt8) (hat : SbAt L k i tSb tU8 s) (hki : k ≠ .l i) (hlen : s.length + t.length ≤ 140737488355328)
    (hk : awpOps Tryz.prog E Y is (Zf (fr.map (·.kill (.l i))) d (.p (.tup [int (t.length : Nat), .raw .nilIface]))) (putSb L k i tSb tU8 (s ++ t)) K) : CallOp Tryz.prog E 148 [.adr k 0, .p (.str t)] L d fr (contO Tryz.prog E Y is K) :=
  useW (vr := [.string ⟨t.toArray⟩]) (x := .tup [int (t.length : Nat), .raw .nilIface]) (v := .tuple #[.int .i64 t.length, .nilIface]) i tSb tU8 s (s ++ t) hat hki (fun w U ι vs h => by obtain ⟨v, r, rfl, h1, h2⟩ := h; simp only [ARep, PRep, ARepL] at h1 h2; rw [h1, h2]) (fun w U => ⟨[_, _], rfl, _, _, rfl, rfl, _, _, rfl, ⟨rfl, rfl⟩, rfl⟩)
    (fun b w h _ => sb_WriteString b s t w h hlen) hk
theorem useBG (i : Nat) (n : Nat) (hat : SbAt L k i tSb tU8 []) (hf : Zar L k = some (.box [.p nilP, .p (.nl 1)] tSb)) (hki : k ≠ .l i) (hn : n ≤ 281474976710656)
    (hk : awpOps Tryz.prog E Y is (Zf (fr.map (·.kill (.l i))) d (.p (.tup []))) (putSb L k i tSb tU8 []) K) : CallOp Tryz.prog E 147 [.adr k 0, .p (int (n : Nat))] L d fr (contO Tryz.prog E Y is K) :=
  useW (vr := [.int .i64 n]) (x := .tup []) (v := .tuple #[]) i tSb tU8 [] [] hat hki (fun w U ι vs h => by obtain ⟨v, r, rfl, h1, h2⟩ := h; simp only [ARep, PRep, ARepL] at h1 h2; rw [h1, h2]) (fun w U => ⟨[], rfl, rfl⟩)
    (fun b w _ h => b_Grow_fresh 0 b n w (Nat.zero_le _) (h hf) (Nat.zero_le _) hn) hk
theorem useBT (i : Nat) (s : List UInt8) (hat : SbAt L k i tSb tU8 s) (hki : k ≠ .l i)
    (hk : awpOps Tryz.prog E Y is (Zf (fr.map (·.kill (.l i))) d (.p (.str s))) (delSb L k i) K) : CallOp Tryz.prog E 150 [.adr k 0] L d fr (contO Tryz.prog E Y is K) :=
  useWS i tSb tU8 s hat hki (fun b w h => b_String_any 0 b s w h (Nat.zero_le _)) hk
theorem lens_take_le : ∀ (l : List (List UInt8)) (k : Nat), Lib.lens (l.take k) ≤ Lib.lens l
  | [], k => by simp
  | x :: r, 0 => by simp [Lib.lens]
  | x :: r, k + 1 => by have := lens_take_le r k; simp only [List.take_succ_cons, Lib.lens, List.map_cons, List.sum_cons] at *; omega
theorem Join_ok (l : List (List UInt8)) (sep : List UInt8) (hl : l.length ≤ 1000000000) (hlen : (Lib.join l sep).length ≤ 1000000000) : PCall Tryz.prog E 90 [strs l, .str sep] (· = .str (Lib.join l sep)) := by
  refine pcallF mixed Tryz.func90 ck_strings_Join ?_
  simp only [a0, l0, OS.ao, List.map_cons, List.map_nil, List.length_cons, List.length_nil, List.cons_append, List.nil_append, Nat.reduceSub, Nat.reduceAdd, List.replicate_succ, List.replicate_zero, ir_strings_Join, rs_strings_Join, ZZ, YY, Zd, ite_true, ite_false, forall_const, reduceCtorEq, Nat.reduceAdd, Nat.reduceMul, Nat.reduceLeDiff, Nat.reduceLT, Nat.reduceEqDiff]
  simp only [strs, ZZ, YY, Zd, ite_true, ite_false, forall_const, reduceCtorEq, Nat.reduceAdd, Nat.reduceMul, Nat.reduceLeDiff, Nat.reduceLT, Nat.reduceEqDiff]
  refine br ?_ ?_
  · intro h
    have h0 : l = [] := by
      have := of_decide_eq_true h
      simp at this
      exact this
    subst h0
    simp only [ZZ, YY, Zd, ite_true, ite_false, forall_const, reduceCtorEq, Nat.reduceAdd, Nat.reduceMul, Nat.reduceLeDiff, Nat.reduceLT, Nat.reduceEqDiff]
    rfl
  intro h
  have h0 : l.length ≠ 0 := by have := of_decide_eq_false h; simpa using this
  simp only [ZZ, YY, Zd, ite_true, ite_false, forall_const, reduceCtorEq, Nat.reduceAdd, Nat.reduceMul, Nat.reduceLeDiff, Nat.reduceLT, Nat.reduceEqDiff]
  obtain ⟨x, r, rfl⟩ : ∃ x r, l = x :: r := by cases l with | nil => exact absurd rfl h0 | cons x r => exact ⟨x, r, rfl⟩
  refine br ?_ ?_
  · intro h1
    have h1 : r = [] := List.eq_nil_of_length_eq_zero (by have := of_decide_eq_true h1; simp at this; omega)
    subst h1
    simp only [ZZ, YY, Zd, ite_true, ite_false, forall_const, reduceCtorEq, Nat.reduceAdd, Nat.reduceMul, Nat.reduceLeDiff, Nat.reduceLT, Nat.reduceEqDiff]
    refine ⟨by simp, by simp, ?_⟩
    rw [Lib.join_one]
    rfl
  intro h1
  have h1 : r.length ≠ 0 := by have := of_decide_eq_false h1; simp at this; omega
  have hJ := Lib.join_length x r sep
  have hcl : (x :: r).length = r.length + 1 := by simp
  have hmul : sep.length * r.length ≤ 1000000000 := by omega
  have hll : Lib.lens (x :: r) ≤ 1000000000 := by omega
  generalize hes : (x :: r).map (fun x => [PV.str x]) = es
  have hln : es.length = r.length + 1 := by rw [← hes]; simp
  have hget : ∀ (k : Nat) (y : List UInt8), (x :: r)[k]? = some y → es.getD k [] = [PV.str y] := fun k y h => by rw [← hes]; exact getD_map h
  simp only [ZZ, YY, Zd, ite_true, ite_false, forall_const, reduceCtorEq, Nat.reduceAdd, Nat.reduceMul, Nat.reduceLeDiff, Nat.reduceLT, Nat.reduceEqDiff]
  refine br_join (fun fr L => fr = [.p (.sl 1 es), .p (.str sep), .any, .any, .any, .p (int (sep.length * r.length : Nat)), .any, .any, .any, .any, .any, .any, .any, .any, .any, .any, .any, .any, .any, .any, .any, .any, .any, .any, .any, .any, .any, .any, .any, .any, .any, .any, .any, .any, .any, .any, .any, .any, .any, .any, .any, .any, .any, .any, .any, .any, .any, .any, .any, .any, .any, .any, .any, .any, .any, .any, .any, .any, .any, .any, .any, .any, .any, .any, .any, .any, .any, .any, .any, .any, .any, .any, .any, .any, .any] ∧ L = []) ?_ ?_ ?_
  · intro hs
    have hs : 0 < sep.length := by have := of_decide_eq_true hs; omega
    simp only [ZZ, YY, Zd, ite_true, ite_false, forall_const, reduceCtorEq, Nat.reduceAdd, Nat.reduceMul, Nat.reduceLeDiff, Nat.reduceLT, Nat.reduceEqDiff]
    have hq : ((9223372036854775807 : Int)).tdiv ((es.length : Int) - 1) = ((9223372036854775807 / r.length : Nat) : Int) := by
      rw [hln, Int.tdiv_eq_ediv_of_nonneg (by omega)]
      have : ((r.length + 1 : Nat) : Int) - 1 = (r.length : Int) := by omega
      rw [this]
      rfl
    have hq2 : 9223372036 ≤ 9223372036854775807 / r.length := (Nat.le_div_iff_mul_le (by omega)).2 (by omega)
    have he : (es.length : Int) - 1 = (r.length : Int) := by omega
    have hp : (sep.length : Int) * (r.length : Int) = ((sep.length * r.length : Nat) : Int) := by simp
    have hq3 : 9223372036854775807 / r.length ≤ 9223372036854775807 := Nat.div_le_self _ _
    have hsl : sep.length ≤ sep.length * r.length := Nat.le_mul_of_pos_right _ (by omega)
    rw [hq]
    generalize 9223372036854775807 / r.length = q at *
    simp only [he]
    refine ⟨i64_of (by omega) (by omega), ⟨by omega, i64_of (by omega) (by omega)⟩, ?_⟩
    refine br (fun h => absurd (of_decide_eq_true h) (by omega)) ?_
    intro _
    simp only [ZZ, YY, Zd, ite_true, ite_false, forall_const, reduceCtorEq, Nat.reduceAdd, Nat.reduceMul, Nat.reduceLeDiff, Nat.reduceLT, Nat.reduceEqDiff]
    refine cut_same (by simp only [ZZ, YY, Zd, ite_true, ite_false, forall_const, reduceCtorEq, Nat.reduceAdd, Nat.reduceMul, Nat.reduceLeDiff, Nat.reduceLT, Nat.reduceEqDiff]) ?_
    simp only [ZZ, YY, Zd, ite_true, ite_false, forall_const, reduceCtorEq, Nat.reduceAdd, Nat.reduceMul, Nat.reduceLeDiff, Nat.reduceLT, Nat.reduceEqDiff]
    simp only [he, hp]
    refine ⟨i64_of (by omega) (by omega), i64_of (by omega) (by omega), i64_of (by omega) (by omega), to_mid [.p (.sl 1 es), .p (.str sep), .any, .any, .any, .p (int (sep.length * r.length : Nat)), .any, .any, .any, .any, .any, .any, .any, .any, .any, .any, .any, .any, .any, .any, .any, .any, .any, .any, .any, .any, .any, .any, .any, .any, .any, .any, .any, .any, .any, .any, .any, .any, .any, .any, .any, .any, .any, .any, .any, .any, .any, .any, .any, .any, .any, .any, .any, .any, .any, .any, .any, .any, .any, .any, .any, .any, .any, .any, .any, .any, .any, .any, .any, .any, .any, .any, .any, .any, .any] [] (by simp only [Int.zero_add]; (simp only [ZZ, YY, Zd, ite_true, ite_false, forall_const, reduceCtorEq, Nat.reduceAdd, Nat.reduceMul, Nat.reduceLeDiff, Nat.reduceLT, Nat.reduceEqDiff]; try trivial)) (by simp only [ZZ, YY, Zd, ite_true, ite_false, forall_const, reduceCtorEq, Nat.reduceAdd, Nat.reduceMul, Nat.reduceLeDiff, Nat.reduceLT, Nat.reduceEqDiff]) ⟨rfl, rfl⟩⟩
  · intro hs
    have hs : sep.length = 0 := by have := of_decide_eq_false hs; omega
    simp only [ZZ, YY, Zd, ite_true, ite_false, forall_const, reduceCtorEq, Nat.reduceAdd, Nat.reduceMul, Nat.reduceLeDiff, Nat.reduceLT, Nat.reduceEqDiff]
    exact to_mid [.p (.sl 1 es), .p (.str sep), .any, .any, .any, .p (int (sep.length * r.length : Nat)), .any, .any, .any, .any, .any, .any, .any, .any, .any, .any, .any, .any, .any, .any, .any, .any, .any, .any, .any, .any, .any, .any, .any, .any, .any, .any, .any, .any, .any, .any, .any, .any, .any, .any, .any, .any, .any, .any, .any, .any, .any, .any, .any, .any, .any, .any, .any, .any, .any, .any, .any, .any, .any, .any, .any, .any, .any, .any, .any, .any, .any, .any, .any, .any, .any, .any, .any, .any, .any] [] (by rw [hs]; simp only [Nat.zero_mul]; (simp only [ZZ, YY, Zd, ite_true, ite_false, forall_const, reduceCtorEq, Nat.reduceAdd, Nat.reduceMul, Nat.reduceLeDiff, Nat.reduceLT, Nat.reduceEqDiff]; try trivial)) (by simp only [ZZ, YY, Zd, ite_true, ite_false, forall_const, reduceCtorEq, Nat.reduceAdd, Nat.reduceMul, Nat.reduceLeDiff, Nat.reduceLT, Nat.reduceEqDiff]) ⟨rfl, rfl⟩
  · rintro fr L ⟨rfl, rfl⟩
    simp only [ZZ, YY, Zd, ite_true, ite_false, forall_const, reduceCtorEq, Nat.reduceAdd, Nat.reduceMul, Nat.reduceLeDiff, Nat.reduceLT, Nat.reduceEqDiff]
    refine loop_intro (fun n fr L => ∃ (k : Nat) (m : Nat), k ≤ r.length + 1 ∧ n = r.length + 1 - k ∧ (m = sep.length * r.length + Lib.lens ((x :: r).take k)) ∧ fr = [.p (.sl 1 es), .p (.str sep), .any, .any, .any, .p (int (m : Nat)), .any, .any, .any, .any, .any, .any, .any, .any, .any, .any, .any, .any, .any, .any, .any, .any, .any, .any, .any, .any, .any, .any, .any, .any, .any, .any, .any, .any, .any, .any, .any, .any, .any, .p (.sl 1 es), .p (int (es.length : Nat)), .p (int (k : Nat)), .any, .any, .any, .any, .any, .any, .any, .any, .any, .any, .any, .any, .any, .any, .any, .any, .any, .any, .any, .any, .any, .any, .any, .any, .any, .any, .any, .any, .any, .any, .any, .any, .any] ∧ L = []) (r.length + 1) [.p (.sl 1 es), .p (.str sep), .any, .any, .any, .p (int ((sep.length * r.length) : Nat)), .any, .any, .any, .any, .any, .any, .any, .any, .any, .any, .any, .any, .any, .any, .any, .any, .any, .any, .any, .any, .any, .any, .any, .any, .any, .any, .any, .any, .any, .any, .any, .any, .any, .p (.sl 1 es), .p (int (es.length : Nat)), .p (int (0 : Nat)), .any, .any, .any, .any, .any, .any, .any, .any, .any, .any, .any, .any, .any, .any, .any, .any, .any, .any, .any, .any, .any, .any, .any, .any, .any, .any, .any, .any, .any, .any, .any, .any, .any] [] (by (simp only [ZZ, YY, Zd, ite_true, ite_false, forall_const, reduceCtorEq, Nat.reduceAdd, Nat.reduceMul, Nat.reduceLeDiff, Nat.reduceLT, Nat.reduceEqDiff]; try trivial)) (by (simp only [ZZ, YY, Zd, ite_true, ite_false, forall_const, reduceCtorEq, Nat.reduceAdd, Nat.reduceMul, Nat.reduceLeDiff, Nat.reduceLT, Nat.reduceEqDiff]; try trivial)) ⟨0, sep.length * r.length, by omega, by omega, by simp [Lib.lens], rfl, rfl⟩ ?_
    rintro n fr L ⟨k, m, hk, rfl, hm, rfl, rfl⟩
    simp only [ir_strings_Join_L0, ZZ, YY, Zd, ite_true, ite_false, forall_const, reduceCtorEq, Nat.reduceAdd, Nat.reduceMul, Nat.reduceLeDiff, Nat.reduceLT, Nat.reduceEqDiff]
    refine br ?_ ?_
    · intro h
      have hlt : k < r.length + 1 := by have := of_decide_eq_true h; omega
      obtain ⟨y, hy⟩ : ∃ y, (x :: r)[k]? = some y := ⟨_, List.getElem?_eq_getElem (by simpa using hlt)⟩
      have hg := hget k y hy
      have hs1 := Lib.lens_take_succ (x :: r) k y hy
      have hs2 := lens_take_le (x :: r) (k + 1)
      simp only [ZZ, YY, Zd, ite_true, ite_false, forall_const, reduceCtorEq, Nat.reduceAdd, Nat.reduceMul, Nat.reduceLeDiff, Nat.reduceLT, Nat.reduceEqDiff, hg]
      refine ⟨⟨by omega, by omega⟩, by omega, i64_of (by omega) (by omega), ?_⟩
      refine br (fun h => absurd (of_decide_eq_true h) (by omega)) ?_
      intro _
      simp only [ZZ, YY, Zd, ite_true, ite_false, forall_const, reduceCtorEq, Nat.reduceAdd, Nat.reduceMul, Nat.reduceLeDiff, Nat.reduceLT, Nat.reduceEqDiff]
      refine cut_same (by simp only [ZZ, YY, Zd, ite_true, ite_false, forall_const, reduceCtorEq, Nat.reduceAdd, Nat.reduceMul, Nat.reduceLeDiff, Nat.reduceLT, Nat.reduceEqDiff]) ?_
      simp only [ZZ, YY, Zd, ite_true, ite_false, forall_const, reduceCtorEq, Nat.reduceAdd, Nat.reduceMul, Nat.reduceLeDiff, Nat.reduceLT, Nat.reduceEqDiff]
      refine ⟨i64_of (by omega) (by omega), i64_of (by omega) (by omega), ?_⟩
      refine end_round (r.length + 1 - (k + 1)) [.p (.sl 1 es), .p (.str sep), .any, .any, .any, .p (int ((m + y.length) : Nat)), .any, .any, .any, .any, .any, .any, .any, .any, .any, .any, .any, .any, .any, .any, .any, .any, .any, .any, .any, .any, .any, .any, .any, .any, .any, .any, .any, .any, .any, .any, .any, .any, .any, .p (.sl 1 es), .p (int (es.length : Nat)), .p (int ((k + 1) : Nat)), .any, .any, .any, .any, .any, .any, .any, .any, .any, .any, .any, .any, .any, .any, .any, .any, .any, .any, .any, .any, .any, .any, .any, .any, .any, .any, .any, .any, .any, .any, .any, .any, .any] [] (by omega) (by (simp only [ZZ, YY, Zd, ite_true, ite_false, forall_const, reduceCtorEq, Nat.reduceAdd, Nat.reduceMul, Nat.reduceLeDiff, Nat.reduceLT, Nat.reduceEqDiff]; try trivial)) (by (simp only [ZZ, YY, Zd, ite_true, ite_false, forall_const, reduceCtorEq, Nat.reduceAdd, Nat.reduceMul, Nat.reduceLeDiff, Nat.reduceLT, Nat.reduceEqDiff]; try trivial)) ⟨k + 1, m + y.length, by omega, rfl, by omega, rfl, rfl⟩
    · intro h
      have hge : k = r.length + 1 := by have := of_decide_eq_false h; omega
      subst hge
      have hm' : m ≤ 1000000000 := by rw [hm, List.take_of_length_le (by simp)]; omega
      simp only [ZZ, YY, Zd, ite_true, ite_false, forall_const, reduceCtorEq, Nat.reduceAdd, Nat.reduceMul, Nat.reduceLeDiff, Nat.reduceLT, Nat.reduceEqDiff]
      refine useBG 1000 m (.inl ⟨rfl, rfl⟩) rfl (by simp) (by omega) ?_
      have hg0 := hget 0 x rfl
      have hlx : Lib.lens (x :: r) = x.length + Lib.lens r := by simp [Lib.lens]
      simp only [ZZ, YY, Zd, ite_true, ite_false, forall_const, reduceCtorEq, Nat.reduceAdd, Nat.reduceMul, Nat.reduceLeDiff, Nat.reduceLT, Nat.reduceEqDiff, putSb, Int.toNat_zero, hg0]
      refine ⟨⟨by omega, by omega⟩, by omega, ?_⟩
      refine useBS 1000 [] x (.inr ⟨rfl, rfl⟩) (by simp) (by simp; omega) ?_
      simp only [ZZ, YY, Zd, ite_true, ite_false, forall_const, reduceCtorEq, Nat.reduceAdd, Nat.reduceMul, Nat.reduceLeDiff, Nat.reduceLT, Nat.reduceEqDiff, putSb]
      refine ⟨⟨by omega, by omega⟩, ?_⟩
      have hd : (es.take es.length).drop 1 = strE r := by rw [List.take_length, ← hes]; simp [strE]
      simp only [Int.toNat_one, hd, strE_len]
      refine loop_intro (fun n fr L => ∃ (k : Nat) (s : List UInt8), k ≤ r.length ∧ n = r.length - k ∧ (s = x ++ Lib.joinTail sep (r.take k)) ∧ fr = [.any, .p (.str sep), .any, .any, .any, .any, .any, .any, .adr (.l 8) 0, .any, .any, .any, .any, .any, .any, .any, .any, .any, .any, .any, .any, .any, .any, .any, .any, .any, .any, .any, .any, .any, .any, .any, .any, .any, .any, .any, .any, .any, .any, .any, .any, .any, .any, .any, .any, .any, .any, .any, .any, .any, .any, .any, .any, .any, .any, .any, .any, .any, .any, .any, .any, .any, .any, .p (.sl 1 (strE r)), .p (int (r.length : Nat)), .p (int (k : Nat)), .any, .any, .any, .any, .any, .any, .any, .any, .any] ∧ L = [(.l 8, .box [.adr (.l 8) 0, .row (.l 1000)] tSb), (.l 1000, .row (bytC s) tU8 1 true)]) (r.length) [.any, .p (.str sep), .any, .any, .any, .any, .any, .any, .adr (.l 8) 0, .any, .any, .any, .any, .any, .any, .any, .any, .any, .any, .any, .any, .any, .any, .any, .any, .any, .any, .any, .any, .any, .any, .any, .any, .any, .any, .any, .any, .any, .any, .any, .any, .any, .any, .any, .any, .any, .any, .any, .any, .any, .any, .any, .any, .any, .any, .any, .any, .any, .any, .any, .any, .any, .any, .p (.sl 1 (strE r)), .p (int (r.length : Nat)), .p (int (0 : Nat)), .any, .any, .any, .any, .any, .any, .any, .any, .any] [(.l 8, .box [.adr (.l 8) 0, .row (.l 1000)] tSb), (.l 1000, .row (bytC x) tU8 1 true)] (by (simp only [ZZ, YY, Zd, ite_true, ite_false, forall_const, reduceCtorEq, Nat.reduceAdd, Nat.reduceMul, Nat.reduceLeDiff, Nat.reduceLT, Nat.reduceEqDiff]; try trivial)) (by (simp only [ZZ, YY, Zd, ite_true, ite_false, forall_const, reduceCtorEq, Nat.reduceAdd, Nat.reduceMul, Nat.reduceLeDiff, Nat.reduceLT, Nat.reduceEqDiff]; try trivial)) ⟨0, x, by omega, by omega, by simp [Lib.joinTail], rfl, rfl⟩ ?_
      rintro n fr L ⟨k, s, hk, rfl, hs, rfl, rfl⟩
      simp only [ir_strings_Join_L1, ZZ, YY, Zd, ite_true, ite_false, forall_const, reduceCtorEq, Nat.reduceAdd, Nat.reduceMul, Nat.reduceLeDiff, Nat.reduceLT, Nat.reduceEqDiff]
      refine br ?_ ?_
      · intro h
        have hlt : k < r.length := by have := of_decide_eq_true h; omega
        obtain ⟨y, hy⟩ : ∃ y, r[k]? = some y := ⟨_, List.getElem?_eq_getElem hlt⟩
        have hg := strE_get hy
        have hj1 := Lib.joinTail_take_succ sep r k y hy
        have hj2 := Lib.joinTail_take_le sep r (k + 1)
        have hj3 := Lib.joinTail_length sep r
        have hj4 : (Lib.joinTail sep (r.take (k + 1))).length = (Lib.joinTail sep (r.take k)).length + sep.length + y.length := by rw [hj1]; simp; omega
        have hsl : s.length = x.length + (Lib.joinTail sep (r.take k)).length := by rw [hs]; simp
        simp only [ZZ, YY, Zd, ite_true, ite_false, forall_const, reduceCtorEq, Nat.reduceAdd, Nat.reduceMul, Nat.reduceLeDiff, Nat.reduceLT, Nat.reduceEqDiff, strE_len, hg]
        refine ⟨⟨by omega, by omega⟩, by omega, ?_⟩
        refine useBS 1000 s sep (.inr ⟨rfl, rfl⟩) (by simp) (by omega) ?_
        simp only [ZZ, YY, Zd, ite_true, ite_false, forall_const, reduceCtorEq, Nat.reduceAdd, Nat.reduceMul, Nat.reduceLeDiff, Nat.reduceLT, Nat.reduceEqDiff, putSb]
        refine useBS 1000 (s ++ sep) y (.inr ⟨rfl, rfl⟩) (by simp) (by simp; omega) ?_
        simp only [ZZ, YY, Zd, ite_true, ite_false, forall_const, reduceCtorEq, Nat.reduceAdd, Nat.reduceMul, Nat.reduceLeDiff, Nat.reduceLT, Nat.reduceEqDiff, putSb]
        refine ⟨i64_of (by omega) (by omega), ?_⟩
        refine end_round (r.length - (k + 1)) [.any, .p (.str sep), .any, .any, .any, .any, .any, .any, .adr (.l 8) 0, .any, .any, .any, .any, .any, .any, .any, .any, .any, .any, .any, .any, .any, .any, .any, .any, .any, .any, .any, .any, .any, .any, .any, .any, .any, .any, .any, .any, .any, .any, .any, .any, .any, .any, .any, .any, .any, .any, .any, .any, .any, .any, .any, .any, .any, .any, .any, .any, .any, .any, .any, .any, .any, .any, .p (.sl 1 (strE r)), .p (int (r.length : Nat)), .p (int ((k + 1) : Nat)), .any, .any, .any, .any, .any, .any, .any, .any, .any] [(.l 8, .box [.adr (.l 8) 0, .row (.l 1000)] tSb), (.l 1000, .row (bytC (s ++ sep ++ y)) tU8 1 true)] (by omega) (by (simp only [ZZ, YY, Zd, ite_true, ite_false, forall_const, reduceCtorEq, Nat.reduceAdd, Nat.reduceMul, Nat.reduceLeDiff, Nat.reduceLT, Nat.reduceEqDiff]; try trivial)) (by (simp only [ZZ, YY, Zd, ite_true, ite_false, forall_const, reduceCtorEq, Nat.reduceAdd, Nat.reduceMul, Nat.reduceLeDiff, Nat.reduceLT, Nat.reduceEqDiff]; try trivial)) ⟨k + 1, s ++ sep ++ y, by omega, rfl, by rw [hj1, hs]; simp, rfl, rfl⟩
      · intro h
        have hge : k = r.length := by have := of_decide_eq_false h; omega
        subst hge
        simp only [ZZ, YY, Zd, ite_true, ite_false, forall_const, reduceCtorEq, Nat.reduceAdd, Nat.reduceMul, Nat.reduceLeDiff, Nat.reduceLT, Nat.reduceEqDiff]
        refine useBT 1000 s (.inr ⟨rfl, rfl⟩) (by simp) ?_
        simp only [ZZ, YY, Zd, ite_true, ite_false, forall_const, reduceCtorEq, Nat.reduceAdd, Nat.reduceMul, Nat.reduceLeDiff, Nat.reduceLT, Nat.reduceEqDiff]
        rw [hs, List.take_length, Lib.join_cons]
end
end Go.Proofs.YtndjmidmfmcbkaaGreatDoor

/- Phrases: the places of phrases, found one by one or painted (plain). -/
namespace Go.Proofs.YtndjmidmfmcbkaaGreatDoor
set_option linter.unusedVariables false
set_option linter.unusedSimpArgs false
set_option linter.defProp false

end Go.Proofs.YtndjmidmfmcbkaaGreatDoor

/- Memos and phrases: what makes them, Find, and the reference's FindOf. -/
namespace Go.Proofs.YtndjmidmfmcbkaaGreatDoor
open Go.RowKit
set_option linter.unusedVariables false
set_option linter.unusedSimpArgs false
set_option linter.defProp false

section
variable {E : Envt}
end
end Go.Proofs.YtndjmidmfmcbkaaGreatDoor

/- Memos, Find and the reference's FindOf. -/
namespace Go.Proofs.YtndjmidmfmcbkaaGreatDoor
open Go.RowKit
set_option linter.unusedVariables false
set_option linter.unusedSimpArgs false
set_option linter.defProp false




section
variable {E : Envt}
end
theorem bodyE_zero {s : List UInt8} (h : bodyE s = 0) : s.length ≤ 20000 ∧ textE s = true := by
  unfold bodyE at h
  split at h
  · cases h
  · split at h
    · rename_i h1 h2; exact ⟨by omega, h2⟩
    · cases h
end Go.Proofs.YtndjmidmfmcbkaaGreatDoor

/- Code points: what is covered as a whole (plain). -/
namespace Go.Proofs.YtndjmidmfmcbkaaGreatDoor
set_option linter.unusedVariables false
set_option linter.unusedSimpArgs false
set_option linter.defProp false

end Go.Proofs.YtndjmidmfmcbkaaGreatDoor

/- Sets as maps; the ends of words; what is seen and what leaks (plain). -/
namespace Go.Proofs.YtndjmidmfmcbkaaGreatDoor
set_option linter.unusedVariables false
set_option linter.unusedSimpArgs false
set_option linter.defProp false

theorem mpF_mpS : ∀ (kv : List (List UInt8 × PV)) (s t : List UInt8) (v : PV), mpF (mpS kv s v) t = if s = t then some v else mpF kv t
  | [], s, t, v => by simp [mpS, mpF]
  | p :: r, s, t, v => by
    simp only [mpS]
    split
    · rename_i h
      by_cases hs : s = t
      · simp [mpF, hs]
      · simp [mpF, hs, h]
    · rename_i h
      simp only [mpF, mpF_mpS r s t v]
      by_cases hp : p.1 = t
      · have : ¬ s = t := fun e => h (hp.trans e.symm)
        simp [hp, this]
      · simp [hp]
/-- A map that is a set. -/
def setOf (kv : List (List UInt8 × PV)) (W : List (List UInt8)) : Prop := ∀ w, mpD kv w (.bool false) = .bool (decide (w ∈ W))
theorem setOf_nil : setOf [] [] := fun w => by simp [mpD, mpF]
theorem setOf_put {kv : List (List UInt8 × PV)} {W : List (List UInt8)} (h : setOf kv W) (s : List UInt8) : setOf (mpS kv s (.bool true)) (W ++ [s]) := fun w => by
  have h := h w
  unfold mpD at h ⊢
  rw [mpF_mpS]
  by_cases hs : s = w
  · simp [hs]
  · have hw : ¬ w = s := fun e => hs e.symm
    rw [if_neg hs, h]
    simp [hw]

end Go.Proofs.YtndjmidmfmcbkaaGreatDoor

/- Widen and what is covered: the walks. -/
namespace Go.Proofs.YtndjmidmfmcbkaaGreatDoor
open Go.RowKit
set_option linter.unusedVariables false
set_option linter.unusedSimpArgs false
set_option linter.defProp false

section
variable {P : Program} {E : Envt} {w : World} {U : Nat → Prop}
theorem cells_rep {z b : Nat} : ∀ (es : List (List PV)) (vs : List Value) (off : Nat), (∀ x ∈ es, x.length = z) → PRepL w U es.flatten vs → (∀ v ∈ vs, v.oneCell' = true) → (∀ j u, vs[j]? = some u → w.cell? ⟨b, off + j, none⟩ = some u) → PRepE w U b z off es := by
  intro es
  induction es with
  | nil => intros; simp [PRepE]
  | cons x r ih =>
    intro vs off hz hv h1 hc
    simp only [PRepE]
    have hx := hz x (by simp)
    simp only [List.flatten_cons] at hv
    have ha := hv.take x.length
    have hb := hv.drop x.length
    rw [List.take_left] at ha
    rw [List.drop_left] at hb
    refine ⟨hx, PRepC.of ha (fun v hv => h1 v (List.mem_of_mem_take hv)) (fun j u hu => hc j u (by rw [List.getElem?_take] at hu; split at hu; exact hu; cases hu)), ih _ (off + z) (fun y hy => hz y (by simp [hy])) hb (fun v hv => h1 v (List.mem_of_mem_drop hv)) (fun j u hu => ?_)⟩
    rw [List.getElem?_drop] at hu
    have := hc _ u hu
    rwa [hx, ← Nat.add_assoc] at this
/-- A fresh row as a plain slice. -/
theorem plainF {f : FuncId} {args : List PV} {e z : Nat} {φ : List (List PV) → Prop} (h : FCall P E f args e z φ) : PCall P E f args (fun x => ∃ es, x = .sl z es ∧ φ es) := by
  intro w U vs hU hE hEb hA
  refine (h w U vs undef hU hE (fun c hc => ⟨hEb c hc, fun h => by cases h⟩) hA trivial).mono ?_
  rintro e' w' ⟨v, r, os', rfl, ⟨es, rfl, hφ⟩, ⟨us, hrow, h1, hl, hz, hb⟩, hg⟩
  refine ⟨v, .sl z es, rfl, ⟨es, rfl, hφ⟩, ?_, hg⟩
  have hcl := fun g m c hv => hrow.cells (g := g) (m := m) (c := c) hv
  rcases hrow.2 with ⟨rfl, g2⟩ | ⟨g, cap, cur, fz, rfl, k2, k3, _⟩
  · exact ⟨none, 0, by rw [g2], by omega, fun hne => absurd (List.eq_nil_of_length_eq_zero g2) hne⟩
  · refine ⟨_, cap, rfl, k3, fun _ => ⟨g, 0, rfl, (Array.getElem?_eq_some_iff.1 k2).1, fun hu => ?_, ?_⟩⟩
    · have h1 := hU g hu
      have h2 := hb g rfl
      omega
    · refine cells_rep es us 0 hz (PRepL.mono (fun c _ hu => ⟨rfl, fun h => hu (.inl h)⟩) _ _ hl) h1 (fun j u hu => ?_)
      rw [Nat.zero_add]
      exact hcl g _ _ rfl j u hu
theorem plainF1 {f : FuncId} {args : List PV} {e z : Nat} {es : List (List PV)} (h : FCall P E f args e z (· = es)) : PCall P E f args (· = .sl z es) := by
  intro w U vs hU hE hEb hA
  refine (plainF h w U vs hU hE hEb hA).mono ?_
  rintro e' w' ⟨v, x, h1, ⟨es', rfl, rfl⟩, h2⟩
  exact ⟨v, _, h1, rfl, h2⟩
end



section
variable {E : Envt}
end
end Go.Proofs.YtndjmidmfmcbkaaGreatDoor

/- slices.Equal of strings. -/
namespace Go.Proofs.YtndjmidmfmcbkaaGreatDoor
set_option linter.unusedVariables false
set_option linter.unusedSimpArgs false
set_option linter.defProp false
/- slices.Equal[[]string,string] -/
def ir_slices_Equal_string_string_L0 : IC :=
  (.seq (.reg [⟨some 14, .bin .lss (.t 13) (.t 12), none⟩])
    (.seq (.cond (.t 14) .skip (.exit 0))
    (.seq (.block 1 (.seq (.reg [⟨some 15, .mov (.t 13), none⟩,
      ⟨some 5, .mov (.t 15), none⟩])
    (.seq (.drg [⟨some 16, .mov (.t 0), none⟩,
      ⟨some 17, .mov (.t 5), none⟩,
      ⟨some 18, .ixa 1 (.t 16) (.t 17), none⟩,
      ⟨some 19, .ld 1 false (.t 18), none⟩,
      ⟨some 20, .mov (.t 1), none⟩,
      ⟨some 21, .mov (.t 5), none⟩,
      ⟨some 22, .ixa 1 (.t 20) (.t 21), none⟩,
      ⟨some 23, .ld 1 false (.t 22), none⟩,
      ⟨some 24, .bin .neq (.t 19) (.t 23), none⟩])
    (.cond (.t 24) (.seq (.reg [⟨some 4, .mov (.c (.bool false)), none⟩])
    .ret) .skip))))
    (.reg [⟨some 25, .bin .add (.t 13) (.c (.int .i64 1)), none⟩,
      ⟨some 13, .mov (.t 25), none⟩]))))
def ir_slices_Equal_string_string : IC :=
  (.seq (.reg [⟨some 4, .mov (.c (.bool false)), none⟩])
    (.seq (.seq (.reg [⟨some 6, .mov (.t 0), none⟩,
      ⟨some 7, .len (.t 6), none⟩,
      ⟨some 8, .mov (.t 1), none⟩,
      ⟨some 9, .len (.t 8), none⟩,
      ⟨some 10, .bin .neq (.t 7) (.t 9), none⟩])
    (.cond (.t 10) (.seq (.reg [⟨some 4, .mov (.c (.bool false)), none⟩])
    .ret) .skip))
    (.seq (.seq (.reg [⟨some 11, .mov (.t 0), none⟩,
      ⟨some 12, .len (.t 11), none⟩,
      ⟨some 13, .mov (.c (.int .i64 0)), none⟩])
    (.block 0 (.loop ir_slices_Equal_string_string_L0)))
    (.seq (.reg [⟨some 4, .mov (.c (.bool true)), none⟩])
    .ret))))
def rs_slices_Equal_string_string : List IRes := [.t 4]
theorem ck_slices_Equal_string_string : chkF Tryz.prog Tryz.f41 ir_slices_Equal_string_string rs_slices_Equal_string_string 26 = true := by kernel_rfl

section
variable {E : Envt}
theorem EqualT_ok (l m : List (List UInt8)) (hl : l.length ≤ 1000000000) : PCall Tryz.prog E 41 [strs l, strs m] (· = .bool (decide (l = m))) := by
  refine pcallF mixed Tryz.func41 ck_slices_Equal_string_string ?_
  simp only [a0, l0, OS.ao, List.map_cons, List.map_nil, List.length_cons, List.length_nil, List.cons_append, List.nil_append, Nat.reduceSub, Nat.reduceAdd, List.replicate_succ, List.replicate_zero, ir_slices_Equal_string_string, rs_slices_Equal_string_string, ZZ, YY, Zd, ite_true, ite_false, forall_const, reduceCtorEq, Nat.reduceAdd, Nat.reduceMul, Nat.reduceLeDiff, Nat.reduceLT, Nat.reduceEqDiff]
  simp only [strs, ZZ, YY, Zd, ite_true, ite_false, forall_const, reduceCtorEq, Nat.reduceAdd, Nat.reduceMul, Nat.reduceLeDiff, Nat.reduceLT, Nat.reduceEqDiff]
  have hln : (l.map fun x => [PV.str x]).length = l.length := by simp
  have hlm : (m.map fun x => [PV.str x]).length = m.length := by simp
  have hget : ∀ k x, l[k]? = some x → (l.map fun x => [PV.str x]).getD k [] = [.str x] := fun k p hp => getD_map hp
  have hgem : ∀ k x, m[k]? = some x → (m.map fun x => [PV.str x]).getD k [] = [.str x] := fun k p hp => getD_map hp
  generalize (l.map fun x => [PV.str x]) = es at *
  generalize (m.map fun x => [PV.str x]) = fs at *
  simp only [ZZ, YY, Zd, ite_true, ite_false, forall_const, reduceCtorEq, Nat.reduceAdd, Nat.reduceMul, Nat.reduceLeDiff, Nat.reduceLT, Nat.reduceEqDiff, hln, hlm]
  refine br ?_ ?_
  · intro h
    have : ¬ l = m := by rintro rfl; simp at h
    simp only [ZZ, YY, Zd, ite_true, ite_false, forall_const, reduceCtorEq, Nat.reduceAdd, Nat.reduceMul, Nat.reduceLeDiff, Nat.reduceLT, Nat.reduceEqDiff]
    simp [this]
  intro h
  have hlen : l.length = m.length := by have : (l.length : Int) = m.length := by simpa using h
                                        omega
  simp only [ZZ, YY, Zd, ite_true, ite_false, forall_const, reduceCtorEq, Nat.reduceAdd, Nat.reduceMul, Nat.reduceLeDiff, Nat.reduceLT, Nat.reduceEqDiff]
  refine loop_intro (fun n fr L => ∃ (k : Nat), k ≤ l.length ∧ n = l.length - k ∧ (l.take k = m.take k) ∧ fr = [.p (.sl 1 es), .p (.sl 1 fs), .any, .any, .any, .any, .any, .any, .any, .any, .any, .any, .p (int (l.length : Nat)), .p (int (k : Nat)), .any, .any, .any, .any, .any, .any, .any, .any, .any, .any, .any, .any] ∧ L = []) (l.length) [.p (.sl 1 es), .p (.sl 1 fs), .any, .any, .any, .any, .any, .any, .any, .any, .any, .any, .p (int (l.length : Nat)), .p (int (0 : Nat)), .any, .any, .any, .any, .any, .any, .any, .any, .any, .any, .any, .any] [] (by simp only [hln, ZZ, YY, Zd, ite_true, ite_false, forall_const, reduceCtorEq, Nat.reduceAdd, Nat.reduceMul, Nat.reduceLeDiff, Nat.reduceLT, Nat.reduceEqDiff]; try trivial) (by (simp only [ZZ, YY, Zd, ite_true, ite_false, forall_const, reduceCtorEq, Nat.reduceAdd, Nat.reduceMul, Nat.reduceLeDiff, Nat.reduceLT, Nat.reduceEqDiff]; try trivial)) ⟨0, by omega, by omega, by simp, rfl, rfl⟩ ?_
  rintro n fr L ⟨k, hk, rfl, hf, rfl, rfl⟩
  simp only [ir_slices_Equal_string_string_L0, ZZ, YY, Zd, ite_true, ite_false, forall_const, reduceCtorEq, Nat.reduceAdd, Nat.reduceMul, Nat.reduceLeDiff, Nat.reduceLT, Nat.reduceEqDiff]
  refine br ?_ ?_
  · intro h
    have hlt : k < l.length := by have := of_decide_eq_true h; omega
    obtain ⟨x, hx⟩ : ∃ x, l[k]? = some x := ⟨_, List.getElem?_eq_getElem hlt⟩
    obtain ⟨y, hy⟩ : ∃ y, m[k]? = some y := ⟨_, List.getElem?_eq_getElem (by omega)⟩
    have hg := hget k x hx
    have hg2 := hgem k y hy
    simp only [ZZ, YY, Zd, ite_true, ite_false, forall_const, reduceCtorEq, Nat.reduceAdd, Nat.reduceMul, Nat.reduceLeDiff, Nat.reduceLT, Nat.reduceEqDiff]
    refine drg0 ?_
    simp only [ZZ, YY, Zd, ite_true, ite_false, forall_const, reduceCtorEq, Nat.reduceAdd, Nat.reduceMul, Nat.reduceLeDiff, Nat.reduceLT, Nat.reduceEqDiff, hg, hg2, hln, hlm]
    ((repeat' (with_reducible apply And.intro)) <;> try ((first | first | assumption | trivial | exact (fun hq => by rw [hq]; rfl) | exact i64_of (by omega) (by omega) | omega | (simp; done) | (simp; omega) | (intro hsc; have hs0 := hsc; (try have hsd := of_decide_eq_true hsc); (try simp only [Bool.not_eq_true', Bool.or_eq_false_iff, Bool.and_eq_true, Bool.or_eq_true, decide_eq_true_eq, decide_eq_false_iff_not] at hsc); (repeat' (with_reducible apply And.intro)) <;> (first | assumption | trivial | exact (fun hq => by rw [hq]; rfl) | exact i64_of (by omega) (by omega) | omega | (simp; done) | (simp; omega) | (intro hse; simp [hse, hs0]; done) | (intro hse; simp only [hse, hs0, Bool.true_and, Bool.and_true, Bool.not_false, Bool.not_true, Bool.and_self]; done))))))
    refine br ?_ ?_
    · intro h2
      have : ¬ l = m := by
        rintro rfl
        rw [hx] at hy
        cases hy
        simp at h2
      simp only [ZZ, YY, Zd, ite_true, ite_false, forall_const, reduceCtorEq, Nat.reduceAdd, Nat.reduceMul, Nat.reduceLeDiff, Nat.reduceLT, Nat.reduceEqDiff]
      simp [this]
    · intro h2
      have hxy : x = y := by simpa using h2
      simp only [ZZ, YY, Zd, ite_true, ite_false, forall_const, reduceCtorEq, Nat.reduceAdd, Nat.reduceMul, Nat.reduceLeDiff, Nat.reduceLT, Nat.reduceEqDiff]
      ((repeat' (with_reducible apply And.intro)) <;> try ((first | first | assumption | trivial | exact (fun hq => by rw [hq]; rfl) | exact i64_of (by omega) (by omega) | omega | (simp; done) | (simp; omega) | (intro hsc; have hs0 := hsc; (try have hsd := of_decide_eq_true hsc); (try simp only [Bool.not_eq_true', Bool.or_eq_false_iff, Bool.and_eq_true, Bool.or_eq_true, decide_eq_true_eq, decide_eq_false_iff_not] at hsc); (repeat' (with_reducible apply And.intro)) <;> (first | assumption | trivial | exact (fun hq => by rw [hq]; rfl) | exact i64_of (by omega) (by omega) | omega | (simp; done) | (simp; omega) | (intro hse; simp [hse, hs0]; done) | (intro hse; simp only [hse, hs0, Bool.true_and, Bool.and_true, Bool.not_false, Bool.not_true, Bool.and_self]; done))))))
      refine end_round (l.length - (k + 1)) [.p (.sl 1 es), .p (.sl 1 fs), .any, .any, .any, .any, .any, .any, .any, .any, .any, .any, .p (int (l.length : Nat)), .p (int ((k + 1) : Nat)), .any, .any, .any, .any, .any, .any, .any, .any, .any, .any, .any, .any] [] (by omega) (by (simp only [ZZ, YY, Zd, ite_true, ite_false, forall_const, reduceCtorEq, Nat.reduceAdd, Nat.reduceMul, Nat.reduceLeDiff, Nat.reduceLT, Nat.reduceEqDiff]; try trivial)) (by (simp only [ZZ, YY, Zd, ite_true, ite_false, forall_const, reduceCtorEq, Nat.reduceAdd, Nat.reduceMul, Nat.reduceLeDiff, Nat.reduceLT, Nat.reduceEqDiff]; try trivial)) ⟨k + 1, by omega, rfl, by rw [List.take_add_one, List.take_add_one, hf, hx, hy, hxy], rfl, rfl⟩
  · intro h
    have hge : l.length ≤ k := by have := of_decide_eq_false h; omega
    simp only [ZZ, YY, Zd, ite_true, ite_false, forall_const, reduceCtorEq, Nat.reduceAdd, Nat.reduceMul, Nat.reduceLeDiff, Nat.reduceLT, Nat.reduceEqDiff]
    rw [List.take_of_length_le hge, List.take_of_length_le (by omega)] at hf
    simp [hf]
end
end Go.Proofs.YtndjmidmfmcbkaaGreatDoor

/- Terms: their checks, on both sides; the terms of a string. -/
namespace Go.Proofs.YtndjmidmfmcbkaaGreatDoor
open Go.RowKit
set_option linter.unusedVariables false
set_option linter.unusedSimpArgs false
set_option linter.defProp false



def joinF (l : List (List UInt8)) : List UInt8 := Lib.join l [32]
theorem lens_bd (m : Nat) : ∀ l : List (List UInt8), (∀ x ∈ l, x.length ≤ m) → Lib.lens l ≤ l.length * m
  | [], _ => by simp [Lib.lens]
  | x :: r, h => by
    have := lens_bd m r (fun y hy => h y (by simp [hy]))
    have := h x (by simp)
    simp only [Lib.lens, List.map_cons, List.sum_cons, List.length_cons, Nat.succ_mul] at *
    omega
theorem joinF_bd (l : List (List UInt8)) (m : Nat) (h : ∀ x ∈ l, x.length ≤ m) : (joinF l).length ≤ l.length * (m + 1) := by
  cases l with
  | nil => simp [joinF, Lib.join_nil]
  | cons x r =>
    have := lens_bd m (x :: r) h
    rw [joinF, Lib.join_length, Nat.mul_add]
    simp only [List.length_cons, List.length_nil] at *
    omega
theorem JoinF_ok {E : Envt} (l : List (List UInt8)) (hl : l.length ≤ 1000000000) (hlen : (joinF l).length ≤ 1000000000) : PCall Tryz.prog E 90 [.sl 1 (strE l), .str [32]] (· = .str (joinF l)) := Join_ok l [32] hl hlen
section
end
end Go.Proofs.YtndjmidmfmcbkaaGreatDoor

/- slices.DeleteFunc of the strings that a call owns; strings without more blanks than one. -/
namespace Go.Proofs.YtndjmidmfmcbkaaGreatDoor
open Go.Shelf Go.RowKit Go.Lib Go.Sort
set_option linter.unusedVariables false
set_option linter.unusedSimpArgs false
set_option linter.defProp false

def sE (l : List UInt8) : Value := .string ⟨l.toArray⟩
theorem sE_one : OneCell sE := fun _ => rfl
theorem strE_vals {w : World} {U : Nat → Prop} : ∀ {l : List (List UInt8)} {vs : List Value}, PRepL w U (strE l).flatten vs ↔ vs = l.map sE
  | [], vs => by simp [strE, PRepL]
  | c :: r, vs => by
    have ih : ∀ vs, PRepL w U (strE r).flatten vs ↔ vs = r.map sE := fun vs => strE_vals
    simp only [strE, List.map_cons, List.flatten_cons, List.cons_append, List.nil_append, PRepL, PRep] at ih ⊢
    constructor
    · rintro ⟨v, r', rfl, rfl, h⟩
      rw [(ih r').1 h]
      rfl
    · rintro rfl
      exact ⟨_, _, rfl, rfl, (ih _).2 rfl⟩
theorem repE_sE {w : World} {U : Nat → Prop} {b : Nat} : ∀ (l : List (List UInt8)) (off : Nat), (∀ i u, (l.map sE)[i]? = some u → w.cell? ⟨b, off + i, none⟩ = some u) → PRepE w U b 1 off (strE l)
  | [], off, h => trivial
  | x :: r, off, h => by
    refine ⟨rfl, ⟨⟨.string ⟨x.toArray⟩, by simpa [sE] using h 0 _ rfl, rfl, rfl⟩, trivial⟩, repE_sE r (off + 1) fun i u hu => ?_⟩
    have := h (i + 1) u (by simpa using hu)
    rwa [show off + (i + 1) = off + 1 + i from by omega] at this
/-- A split as a row of one's own. -/
theorem SplitR_ok (s : List UInt8) (c : UInt8) (hs : s.length ≤ 1000000000) : FCall Tryz.prog E0 85 [.str s, .str [c]] tStr 1 (· = strE (splF s c)) := by
  intro w U vs v0 hU hE hEb hA _
  obtain ⟨_, m, hm⟩ := hE
  simp only [PRepL, PRep] at hA
  obtain ⟨v, r, rfl, rfl, v2, r2, rfl, rfl, rfl⟩ := hA
  refine (Any.strings_Split Tryz.laySplit splInfo ⟨s.toArray⟩ ⟨#[c]⟩ m w (by rw [ba_size]; omega) hm (Nat.le_refl 1)).mono ?_
  rintro e w' ⟨rfl, rfl⟩
  have hl := Lib.splitB_all ⟨#[c]⟩ (Nat.le_refl 1) 0 _ (⟨s.toArray⟩ : ByteArray) rfl
  have hle := Lib.countB_le ⟨#[c]⟩ (Nat.le_refl 1) (⟨s.toArray⟩ : ByteArray).size ⟨s.toArray⟩ (Nat.le_refl _)
  rw [ba_size] at hle
  have hln : (strE (splF s c)).length = Lib.countB ⟨s.toArray⟩ ⟨#[c]⟩ + 1 := by simp [splF, hl, strE]
  have hv : ((Lib.splitB ⟨#[c]⟩ 0 (Lib.countB ⟨s.toArray⟩ ⟨#[c]⟩) ⟨s.toArray⟩).map Value.string) = (splF s c).map sE := by simp [splF, sE, Function.comp_def]
  refine ⟨_, .fr (strE (splF s c)) tStr 1, noOS, rfl, ⟨_, rfl, rfl⟩, ⟨(splF s c).map sE, ⟨by rw [hln]; simp [splF, hl], .inr ⟨w.heap.size, Lib.countB ⟨s.toArray⟩ ⟨#[c]⟩ + 1, _, (0, 0), by rw [hln], heap_alloc_new w _, by omega, ?_, ?_, ?_, .inl rfl⟩⟩, ?_, strE_vals.2 rfl, ?_, ?_⟩, ⟨rfl, rfl, rfl, by simp, fun k hk _ => Lib.alloc_old w _ k hk⟩⟩
  · unfold maxLen; omega
  · simp [hl]
  · rw [hv]
    simp only [Nat.mul_one]
    exact List.take_of_length_le (by simp [strE])
  · intro u hu
    simp only [List.mem_map] at hu
    obtain ⟨x, _, rfl⟩ := hu
    rfl
  · intro x hx
    simp only [strE, List.mem_map] at hx
    obtain ⟨y, _, rfl⟩ := hx
    rfl
  · intro b hb
    simp [blk] at hb
    omega

theorem sq1_any (x : List UInt8) (w : World) : Calls Tryz.prog 188 #[sE x] w fun e w' => e = .returned (.bool x.isEmpty) ∧ w' = w := by
  unfold sE
  go_enter Tryz.func188, Tryz.ntmps188
  go_wp2
  go_ret
  exact ⟨rfl, rfl⟩
theorem str_zero : (Tryz.prog.info? 9).map (fun i => (i.zero, i.size)) = some (some (.string ByteArray.empty), 1) := by kernel_rfl
section
variable {E : Envt} {L : Objs} {k : Key} {fr : List AV} {d : Option Nat} {is : List IOper} {Y : List PV} {K : List AV → Objs → Prop}
/-- Some elements of an owned row are struck out: what is left is plain, the row is gone. -/
theorem useDel (i : Nat) (l : List (List UInt8)) (g : FuncId) (p : List UInt8 → Bool) (hl : l ≠ []) (hlen : l.length ≤ 1000000000) (hlk : Zar L k = some (.row (strE l) tStr 1 true)) (hfn : fnB Tryz.prog g = true) (hg : ∀ x w, Calls Tryz.prog g #[sE x] w fun e w' => e = .returned (.bool (p x)) ∧ w' = w)
    (hk : awpOps Tryz.prog E Y is (Zf (fr.map (·.kill (.l i))) d (.p (strs (l.filter fun x => !p x)))) (delO L k) K) : CallOp Tryz.prog E 92 [.row k, .fn g []] L d fr (contO Tryz.prog E Y is K) := by
  refine .inr (.inr ⟨i, ?_⟩)
  intro w X ι vs hs hX hE hEb hA
  simp only [ARepL, ARep] at hA
  obtain ⟨v1, r1, rfl, ⟨rfl, A, n, c, hv⟩, v2, r2, rfl, rfl, rfl⟩ := hA
  obtain ⟨us, u1, u2, u3, u4⟩ := hs.obj k _ hlk
  rw [strE_vals] at u3
  subst u3
  have hown := u1.owns
  rw [strE_len] at hown
  have hne : ι k ≠ .slice none 0 0 := by
    intro e
    rcases hown.2 with ⟨_, h0⟩ | ⟨q, cap, cur, h1, _⟩
    · exact hl (List.eq_nil_of_length_eq_zero h0)
    · rw [e] at h1; cases h1
  obtain ⟨b, cap, hvb, _, hlt, hnc, hcm, _, hH⟩ := Lib.holds_of_ownsRow (enc := sE) hown hne
  rw [hvb] at hown
  have hOb : Own L ι b := ⟨k, _, hlk, by rw [hvb]; rfl⟩
  have hgv : ∀ (W : World) (x : List UInt8), FnGives Tryz.prog g #[] #[sE x] (.bool (p x)) W := fun W x => (hg x W).mono fun e w' ⟨h1, h2⟩ => ⟨h1, 0, by rw [h2]; rfl⟩
  have hcall := AnyE.slices_DeleteFunc Tryz.layDelStr sE sE_one p g #[] (fun args w => run_enter hfn args w) [] (zero_of_info str_zero).1 b 0 cap l.toArray w (fun W x _ => hgv W x) (fun _ _ _ x _ => hgv _ x) hH (by simp; omega) (by simpa using hnc)
  simp only [List.size_toArray, List.toList_toArray] at hcall
  rw [hvb]
  refine hcall.mono ?_
  rintro e w' ⟨rfl, q, rfl⟩
  have hle : (l.filter fun x => !p x).length ≤ l.length := List.length_filter_le _ _
  have hown2 := Lib.ownsRow_putRow (q := q) (k := (l.filter fun x => !p x).length) (ys := (l.filter fun x => !p x) ++ List.replicate (l.length - (l.filter fun x => !p x).length) []) hown (by simp; omega) hle
  rw [List.take_left' rfl] at hown2
  generalize hW : putRow sE (Sort.ahead w q) b 0 ((l.filter fun x => !p x) ++ List.replicate (l.length - (l.filter fun x => !p x).length) []).toArray = w1 at hown2 ⊢
  have hG : Grow w w1 (fun x => x = b) := by
    rw [← hW]
    refine ⟨rfl, rfl, rfl, by simp [putRow, mapBlock, Sort.ahead], fun x hx hn => ?_⟩
    simp [putRow, mapBlock, Sort.ahead, Array.getElem?_modify, show b ≠ x from fun e => hn e.symm]
  have hsub : ∀ j a, Zar (delO L k) j = some a → j ≠ k ∧ Zar L j = some a := by
    intro j a hj
    rw [look_delO] at hj
    by_cases e : j = k
    · rw [if_pos e] at hj; cases hj
    · rw [if_neg e] at hj; exact ⟨e, hj⟩
  have hown3 : ∀ x, Own (delO L k) ι x → Own L ι x := fun x ⟨j, a, h1, h2⟩ => ⟨j, a, (hsub j a h1).2, h2⟩
  have hnb : ¬ (Own (delO L k) ι b ∨ X b) := by
    rintro (⟨j, a, h1, h2⟩ | h)
    · obtain ⟨e, h3⟩ := hsub j a h1
      exact e (hs.inj j k a _ b h3 hlk h2 (by rw [hvb]; rfl))
    · exact (hX b h).2 hOb
  have hgrow : Grow w w1 (Own L ι) := ⟨hG.os, hG.tape, hG.output, hG.size, fun x hx hn => hG.block x hx (fun e => hn (by rw [e]; exact hOb))⟩
  have hkp : Keeps w w1 (fun x => Own L ι x ∨ X x) (fun x => Own (delO L k) ι x ∨ X x) := fun x hx hu => ⟨hgrow.block x hx (fun h => hu (.inl h)), fun h => hu (h.imp (hown3 x) id)⟩
  refine ⟨_, .p (strs (l.filter fun x => !p x)), delO L k, ι, rfl, hk, ?_, ⟨⟨?_, fun j j' a a' x h1 h2 h3 h4 => hs.inj j j' a a' x (hsub j a h1).2 (hsub j' a' h2).2 h3 h4⟩, hgrow, fun x h => .inl (hown3 x h), fun j _ => rfl, fun j hj => ?_⟩⟩
  · rw [strs_eq]
    show PRep w1 _ (.sl 1 (strE _)) _
    refine ⟨some ⟨b, 0, none⟩, cap, by rw [strE_len], by rw [strE_len]; omega, fun _ => ⟨b, 0, rfl, Nat.lt_of_lt_of_le hlt hG.size, hnb, repE_sE _ 0 fun j u hu => ?_⟩⟩
    rw [Nat.zero_add]
    have := hown2.cells (g := b) rfl j u hu
    rw [show ({ block := b, off := 0 } : Addr).add j = ⟨b, j, none⟩ from by cases j <;> simp [Addr.add]] at this
    exact this
  · intro j a h1
    obtain ⟨e, h2⟩ := hsub j a h1
    refine ObjOk.mono hkp (fun x hx => hG.block x ((hs.obj j a h2).blk_lt hx) (fun ex => ?_)) (hs.obj j a h2)
    subst ex
    exact e (hs.inj j k a _ x h2 hlk hx (by rw [hvb]; rfl))
  · obtain ⟨a, ha⟩ := Option.isSome_iff_exists.1 hj
    exact .inl (by rw [(hsub j a ha).2]; rfl)
end
/- paperchase/chaseref1.squeezed -/
def ir_chaseref1_squeezed : IC :=
  (.seq (.reg [⟨some 2, .mov (.c (.str [])), none⟩])
    (.seq (.reg [⟨some 3, .mov (.t 0), none⟩,
      ⟨some 4, .call 85 [.t 3, .c (.str [32])], none⟩,
      ⟨some 5, .call 92 [.t 4, .f 188], none⟩,
      ⟨some 6, .call 90 [.t 5, .c (.str [32])], none⟩,
      ⟨some 2, .mov (.t 6), none⟩])
    .ret))
def rs_chaseref1_squeezed : List IRes := [.t 2]
theorem ck_chaseref1_squeezed : chkF Tryz.prog Tryz.f111 ir_chaseref1_squeezed rs_chaseref1_squeezed 7 = true := by kernel_rfl
/- paperchase/base.Single -/
def ir_base_Single_L0 : IC :=
  (.seq (.reg [⟨some 10, .bin .lss (.t 9) (.t 8), none⟩])
    (.seq (.cond (.t 10) .skip (.exit 0))
    (.seq (.block 1 (.seq (.reg [⟨some 11, .ixa 1 (.t 7) (.t 9), none⟩,
      ⟨some 12, .ld 1 false (.t 11), none⟩,
      ⟨some 5, .mov (.t 12), none⟩])
    (.seq (.reg [⟨some 13, .mov (.t 5), none⟩,
      ⟨some 14, .bin .neq (.t 13) (.c (.str [])), none⟩])
    (.cond (.t 14) (.reg [⟨some 15, .mov (.t 3), none⟩,
      ⟨some 16, .mov (.t 5), none⟩,
      ⟨some 17, .bsl 1 [.t 16], none⟩,
      ⟨some 18, .app 9 1 16 (.t 15) (.t 17), none⟩,
      ⟨some 3, .mov (.t 18), none⟩]) .skip))))
    (.cut (.reg [⟨some 19, .bin .add (.t 9) (.c (.int .i64 1)), none⟩,
      ⟨some 9, .mov (.t 19), none⟩])))))
def ir_base_Single : IC :=
  (.seq (.reg [⟨some 2, .mov (.c (.str [])), none⟩])
    (.seq (.reg [⟨some 3, .nilr 9 1, none⟩])
    (.seq (.seq (.reg [⟨some 6, .mov (.t 0), none⟩,
      ⟨some 7, .call 85 [.t 6, .c (.str [32])], none⟩,
      ⟨some 8, .len (.t 7), none⟩,
      ⟨some 9, .mov (.c (.int .i64 0)), none⟩])
    (.block 0 (.loop ir_base_Single_L0)))
    (.seq (.reg [⟨some 20, .mov (.t 3), none⟩,
      ⟨some 21, .call 90 [.t 20, .c (.str [32])], none⟩,
      ⟨some 2, .mov (.t 21), none⟩])
    .ret))))
def rs_base_Single : List IRes := [.t 2]
theorem ck_base_Single : chkF Tryz.prog Tryz.f184 ir_base_Single rs_base_Single 22 = true := by kernel_rfl

/-- The words of a string between blanks. -/
def bits (s : List UInt8) : List (List UInt8) := (splF s 32).filter fun x => !x.isEmpty
def sqF (s : List UInt8) : List UInt8 := joinF (bits s)
theorem splF_ne (s : List UInt8) (c : UInt8) : splF s c ≠ [] := by
  have hl := Lib.splitB_all ⟨#[c]⟩ (Nat.le_refl 1) 0 _ (⟨s.toArray⟩ : ByteArray) rfl
  intro h
  have := congrArg List.length h
  simp [splF, hl] at this
theorem bits_bd (s : List UInt8) (hs : s.length ≤ 25000) : (bits s).length ≤ 25001 ∧ (joinF (bits s)).length ≤ 900000000 := by
  have h1 : (bits s).length ≤ 25001 := by
    have := List.length_filter_le (fun x : List UInt8 => !x.isEmpty) (splF s 32)
    have := splF_len s 32
    unfold bits
    omega
  have h2 := joinF_bd (bits s) s.length (fun x hx => splF_mem s 32 x (List.mem_filter.1 hx).1)
  have h3 : (bits s).length * (s.length + 1) ≤ 25001 * 25001 := Nat.mul_le_mul h1 (by omega)
  omega
theorem squeezed_ok (s : List UInt8) (hs : s.length ≤ 25000) : PCall Tryz.prog E0 111 [.str s] (· = .str (sqF s)) := by
  refine pcallF mixed Tryz.func111 ck_chaseref1_squeezed ?_
  simp only [a0, l0, OS.ao, List.map_cons, List.map_nil, List.length_cons, List.length_nil, List.cons_append, List.nil_append, Nat.reduceSub, Nat.reduceAdd, List.replicate_succ, List.replicate_zero, ir_chaseref1_squeezed, rs_chaseref1_squeezed, ZZ, YY, Zd, ite_true, ite_false, forall_const, reduceCtorEq, Nat.reduceAdd, Nat.reduceMul, Nat.reduceLeDiff, Nat.reduceLT, Nat.reduceEqDiff]
  refine useF (SplitR_ok s 32 (by omega)) rfl rfl ?_
  rintro es rfl
  simp only [ZZ, YY, Zd, ite_true, ite_false, forall_const, reduceCtorEq, Nat.reduceAdd, Nat.reduceMul, Nat.reduceLeDiff, Nat.reduceLT, Nat.reduceEqDiff]
  refine useDel 1000 (splF s 32) 188 List.isEmpty (splF_ne s 32) (by have := splF_len s 32; omega) rfl (by kernel_rfl) sq1_any ?_
  rw [strs_eq]
  simp only [ZZ, YY, Zd, ite_true, ite_false, forall_const, reduceCtorEq, Nat.reduceAdd, Nat.reduceMul, Nat.reduceLeDiff, Nat.reduceLT, Nat.reduceEqDiff]
  refine use1 (JoinF_ok (bits s) (by have := bits_bd s hs; omega) (by have := bits_bd s hs; omega)) rfl (.inl rfl) ?_
  simp only [ZZ, YY, Zd, ite_true, ite_false, forall_const, reduceCtorEq, Nat.reduceAdd, Nat.reduceMul, Nat.reduceLeDiff, Nat.reduceLT, Nat.reduceEqDiff]
  rfl
theorem Single_ok (s : List UInt8) (hs : s.length ≤ 25000) : PCall Tryz.prog E0 184 [.str s] (· = .str (sqF s)) := by
  refine pcallF mixed Tryz.func184 ck_base_Single ?_
  simp only [a0, l0, OS.ao, List.map_cons, List.map_nil, List.length_cons, List.length_nil, List.cons_append, List.nil_append, Nat.reduceSub, Nat.reduceAdd, List.replicate_succ, List.replicate_zero, ir_base_Single, rs_base_Single, ZZ, YY, Zd, ite_true, ite_false, forall_const, reduceCtorEq, Nat.reduceAdd, Nat.reduceMul, Nat.reduceLeDiff, Nat.reduceLT, Nat.reduceEqDiff]
  refine use1 (Split_ok s 32 (by omega)) rfl (.inl rfl) ?_
  rw [strs_eq]
  have hlen := splF_len s 32
  have hB : sqF s = joinF ((splF s 32).filter fun x => !x.isEmpty) := rfl
  have hbd := bits_bd s hs
  unfold bits at hbd
  rw [hB]
  generalize splF s 32 = ls at *
  simp only [ZZ, YY, Zd, ite_true, ite_false, forall_const, reduceCtorEq, Nat.reduceAdd, Nat.reduceMul, Nat.reduceLeDiff, Nat.reduceLT, Nat.reduceEqDiff, strE_len]
  refine loop_intro (fun n fr L => ∃ (k : Nat) (l : List (List UInt8)), k ≤ ls.length ∧ n = ls.length - k ∧ (l = (ls.take k).filter (fun x => !x.isEmpty)) ∧ fr = [.any, .any, .any, .row (.l 3), .any, .any, .any, .p (.sl 1 (strE ls)), .p (int (ls.length : Nat)), .p (int (k : Nat)), .any, .any, .any, .any, .any, .any, .any, .any, .any, .any, .any, .any] ∧ L = [(.l 3, .row (strE l) tStr 1 true)]) (ls.length) [.any, .any, .any, .row (.l 3), .any, .any, .any, .p (.sl 1 (strE ls)), .p (int (ls.length : Nat)), .p (int (0 : Nat)), .any, .any, .any, .any, .any, .any, .any, .any, .any, .any, .any, .any] [(.l 3, .row (strE []) tStr 1 true)] (by simp only [ZZ, YY, Zd, ite_true, ite_false, forall_const, reduceCtorEq, Nat.reduceAdd, Nat.reduceMul, Nat.reduceLeDiff, Nat.reduceLT, Nat.reduceEqDiff, strE_len]; try trivial) (by (simp only [ZZ, YY, Zd, ite_true, ite_false, forall_const, reduceCtorEq, Nat.reduceAdd, Nat.reduceMul, Nat.reduceLeDiff, Nat.reduceLT, Nat.reduceEqDiff]; try trivial)) ⟨0, [], by omega, by omega, by simp, rfl, rfl⟩ ?_
  rintro n fr L ⟨k, l, hk, rfl, hl2, rfl, rfl⟩
  simp only [ir_base_Single_L0, ZZ, YY, Zd, ite_true, ite_false, forall_const, reduceCtorEq, Nat.reduceAdd, Nat.reduceMul, Nat.reduceLeDiff, Nat.reduceLT, Nat.reduceEqDiff]
  refine br ?_ ?_
  · intro h
    have hlt : k < ls.length := by have := of_decide_eq_true h; omega
    obtain ⟨x, hx⟩ : ∃ x, ls[k]? = some x := ⟨_, List.getElem?_eq_getElem hlt⟩
    have hg := strE_get hx
    have hlk : l.length ≤ ls.length := by rw [hl2]; exact Nat.le_trans (List.length_filter_le _ _) (by simp; omega)
    have hnx : (ls.take (k + 1)).filter (fun x => !x.isEmpty) = if x = [] then l else l ++ [x] := by
      rw [List.take_succ_eq_append_getElem hlt, List.filter_append, ← hl2, (List.getElem?_eq_some_iff.1 hx).2]
      cases x <;> simp
    simp only [ZZ, YY, Zd, ite_true, ite_false, forall_const, reduceCtorEq, Nat.reduceAdd, Nat.reduceMul, Nat.reduceLeDiff, Nat.reduceLT, Nat.reduceEqDiff, hg, strE_len]
    ((repeat' (with_reducible apply And.intro)) <;> try ((first | first | assumption | trivial | exact (fun hq => by rw [hq]; rfl) | exact i64_of (by omega) (by omega) | omega | (simp; done) | (simp; omega) | (intro hsc; have hs0 := hsc; (try have hsd := of_decide_eq_true hsc); (try simp only [Bool.not_eq_true', Bool.or_eq_false_iff, Bool.and_eq_true, Bool.or_eq_true, decide_eq_true_eq, decide_eq_false_iff_not] at hsc); (repeat' (with_reducible apply And.intro)) <;> (first | assumption | trivial | exact (fun hq => by rw [hq]; rfl) | exact i64_of (by omega) (by omega) | omega | (simp; done) | (simp; omega) | (intro hse; simp [hse, hs0]; done) | (intro hse; simp only [hse, hs0, Bool.true_and, Bool.and_true, Bool.not_false, Bool.not_true, Bool.and_self]; done))))))
    refine br ?_ ?_
    · intro hm
      have hm : ¬ x = [] := by simpa using hm
      simp only [ZZ, YY, Zd, ite_true, ite_false, forall_const, reduceCtorEq, Nat.reduceAdd, Nat.reduceMul, Nat.reduceLeDiff, Nat.reduceLT, Nat.reduceEqDiff, strE_len]
      refine ⟨by omega, ?_⟩
      refine cut_same (by simp only [ZZ, YY, Zd, ite_true, ite_false, forall_const, reduceCtorEq, Nat.reduceAdd, Nat.reduceMul, Nat.reduceLeDiff, Nat.reduceLT, Nat.reduceEqDiff]) ?_
      simp only [ZZ, YY, Zd, ite_true, ite_false, forall_const, reduceCtorEq, Nat.reduceAdd, Nat.reduceMul, Nat.reduceLeDiff, Nat.reduceLT, Nat.reduceEqDiff]
      refine ⟨i64_of (by omega) (by omega), ?_⟩
      rw [strE_one, ← strE_app]
      refine end_round (ls.length - (k + 1)) [.any, .any, .any, .row (.l 3), .any, .any, .any, .p (.sl 1 (strE ls)), .p (int (ls.length : Nat)), .p (int ((k + 1) : Nat)), .any, .any, .any, .any, .any, .any, .any, .any, .any, .any, .any, .any] [(.l 3, .row (strE (l ++ [x])) tStr 1 true)] (by omega) (by (simp only [ZZ, YY, Zd, ite_true, ite_false, forall_const, reduceCtorEq, Nat.reduceAdd, Nat.reduceMul, Nat.reduceLeDiff, Nat.reduceLT, Nat.reduceEqDiff]; try trivial)) (by (simp only [ZZ, YY, Zd, ite_true, ite_false, forall_const, reduceCtorEq, Nat.reduceAdd, Nat.reduceMul, Nat.reduceLeDiff, Nat.reduceLT, Nat.reduceEqDiff]; try trivial)) ⟨k + 1, l ++ [x], by omega, rfl, by rw [hnx, if_neg hm], rfl, rfl⟩
    · intro hm
      have hm : x = [] := by simpa using hm
      simp only [ZZ, YY, Zd, ite_true, ite_false, forall_const, reduceCtorEq, Nat.reduceAdd, Nat.reduceMul, Nat.reduceLeDiff, Nat.reduceLT, Nat.reduceEqDiff]
      refine cut_same (by simp only [ZZ, YY, Zd, ite_true, ite_false, forall_const, reduceCtorEq, Nat.reduceAdd, Nat.reduceMul, Nat.reduceLeDiff, Nat.reduceLT, Nat.reduceEqDiff]) ?_
      simp only [ZZ, YY, Zd, ite_true, ite_false, forall_const, reduceCtorEq, Nat.reduceAdd, Nat.reduceMul, Nat.reduceLeDiff, Nat.reduceLT, Nat.reduceEqDiff]
      refine ⟨i64_of (by omega) (by omega), ?_⟩
      refine end_round (ls.length - (k + 1)) [.any, .any, .any, .row (.l 3), .any, .any, .any, .p (.sl 1 (strE ls)), .p (int (ls.length : Nat)), .p (int ((k + 1) : Nat)), .any, .any, .any, .any, .any, .any, .any, .any, .any, .any, .any, .any] [(.l 3, .row (strE l) tStr 1 true)] (by omega) (by (simp only [ZZ, YY, Zd, ite_true, ite_false, forall_const, reduceCtorEq, Nat.reduceAdd, Nat.reduceMul, Nat.reduceLeDiff, Nat.reduceLT, Nat.reduceEqDiff]; try trivial)) (by (simp only [ZZ, YY, Zd, ite_true, ite_false, forall_const, reduceCtorEq, Nat.reduceAdd, Nat.reduceMul, Nat.reduceLeDiff, Nat.reduceLT, Nat.reduceEqDiff]; try trivial)) ⟨k + 1, l, by omega, rfl, by rw [hnx, if_pos hm], rfl, rfl⟩
  · intro h
    have hge : k = ls.length := by have := of_decide_eq_false h; omega
    subst hge
    rw [List.take_length] at hl2
    subst hl2
    simp only [ZZ, YY, Zd, ite_true, ite_false, forall_const, reduceCtorEq, Nat.reduceAdd, Nat.reduceMul, Nat.reduceLeDiff, Nat.reduceLT, Nat.reduceEqDiff]
    refine use1 (JoinF_ok (ls.filter fun x => !x.isEmpty) (by omega) (by omega)) rfl (.inr rfl) ?_
    simp only [ZZ, YY, Zd, ite_true, ite_false, forall_const, reduceCtorEq, Nat.reduceAdd, Nat.reduceMul, Nat.reduceLeDiff, Nat.reduceLT, Nat.reduceEqDiff]
end Go.Proofs.YtndjmidmfmcbkaaGreatDoor

/- Bodies: their fault, lines, blanks, attributions. -/
namespace Go.Proofs.YtndjmidmfmcbkaaGreatDoor
open Go.RowKit
set_option linter.unusedVariables false
set_option linter.unusedSimpArgs false
set_option linter.defProp false

/- paperchase/thread.checkBody -/
def ir_thread_checkBody : IC :=
  (.seq (.reg [⟨some 2, .mov (.c (.int .i64 0)), none⟩])
    (.seq (.reg [⟨some 3, .mov (.t 0), none⟩,
      ⟨some 4, .sln (.t 3), none⟩,
      ⟨some 5, .bin .gtr (.t 4) (.c (.int .i64 20000)), none⟩,
      ⟨some 6, .call 74 [.t 5, .c (.int .i64 2)], none⟩,
      ⟨some 7, .mov (.t 0), none⟩,
      ⟨some 8, .call 180 [.t 7], none⟩,
      ⟨some 9, .not (.t 8), none⟩,
      ⟨some 10, .call 74 [.t 9, .c (.int .i64 3)], none⟩,
      ⟨some 11, .bsl 1 [.t 6, .t 10], none⟩,
      ⟨some 12, .call 73 [.t 11], none⟩,
      ⟨some 2, .mov (.t 12), none⟩])
    .ret))
def rs_thread_checkBody : List IRes := [.t 2]
theorem ck_thread_checkBody : chkF Tryz.prog Tryz.f102 ir_thread_checkBody rs_thread_checkBody 13 = true := by kernel_rfl
/- paperchase/base.Lines -/
def ir_base_Lines : IC :=
  (.seq (.reg [⟨some 2, .mov (.c (.nl 1)), none⟩,
      ⟨some 3, .mov (.c (.bool false)), none⟩])
    (.seq (.seq (.reg [⟨some 6, .mov (.t 0), none⟩,
      ⟨some 7, .bin .eql (.t 6) (.c (.str [])), none⟩])
    (.cond (.t 7) (.seq (.reg [⟨some 2, .mov (.c (.nl 1)), none⟩,
      ⟨some 3, .mov (.c (.bool true)), none⟩])
    .ret) .skip))
    (.seq (.reg [⟨some 9, .mov (.t 0), none⟩,
      ⟨some 10, .call 163 [.t 9, .c (.str [10])], none⟩,
      ⟨some 8, .mov (.t 10), none⟩,
      ⟨some 11, .ext 0 (.t 8), none⟩,
      ⟨some 12, .ext 1 (.t 8), none⟩,
      ⟨some 4, .mov (.t 11), none⟩,
      ⟨some 5, .mov (.t 12), none⟩])
    (.seq (.reg [⟨some 13, .mov (.t 4), none⟩,
      ⟨some 14, .call 85 [.t 13, .c (.str [10])], none⟩,
      ⟨some 15, .mov (.t 5), none⟩,
      ⟨some 2, .mov (.t 14), none⟩,
      ⟨some 3, .mov (.t 15), none⟩])
    .ret))))
def rs_base_Lines : List IRes := [.t 2, .t 3]
theorem ck_base_Lines : chkF Tryz.prog Tryz.f181 ir_base_Lines rs_base_Lines 16 = true := by kernel_rfl
/- paperchase/thread.blank -/
def ir_thread_blank : IC :=
  (.seq (.reg [⟨some 2, .mov (.c (.bool false)), none⟩])
    (.seq (.reg [⟨some 3, .mov (.t 0), none⟩,
      ⟨some 4, .call 94 [.t 3, .c (.str [32])], none⟩,
      ⟨some 5, .bin .eql (.t 4) (.c (.str [])), none⟩,
      ⟨some 2, .mov (.t 5), none⟩])
    .ret))
def rs_thread_blank : List IRes := [.t 2]
theorem ck_thread_blank : chkF Tryz.prog Tryz.f104 ir_thread_blank rs_thread_blank 6 = true := by kernel_rfl
/- paperchase/thread.says -/
def ir_thread_says_L0 : IC :=
  (.seq (.reg [⟨some 10, .bin .lss (.t 9) (.t 8), none⟩])
    (.seq (.cond (.t 10) .skip (.exit 0))
    (.seq (.block 1 (.seq (.reg [⟨some 11, .ixa 1 (.t 7) (.t 9), none⟩,
      ⟨some 12, .ld 1 false (.t 11), none⟩,
      ⟨some 4, .mov (.t 12), none⟩])
    (.seq (.reg [⟨some 14, .mov (.t 0), none⟩,
      ⟨some 15, .mov (.t 4), none⟩,
      ⟨some 16, .call 163 [.t 14, .t 15], none⟩,
      ⟨some 13, .mov (.t 16), none⟩,
      ⟨some 17, .ext 0 (.t 13), none⟩,
      ⟨some 18, .ext 1 (.t 13), none⟩,
      ⟨some 5, .mov (.t 17), none⟩,
      ⟨some 6, .mov (.t 18), none⟩])
    (.seq (.reg [⟨some 19, .mov (.t 6), none⟩,
      ⟨some 20, .mov (.t 19), none⟩,
      ⟨some 21, .mov (.t 5), (some (20, true))⟩,
      ⟨some 22, .call 104 [.t 21], (some (20, true))⟩,
      ⟨some 23, .not (.t 22), (some (20, true))⟩,
      ⟨some 24, .pick (.t 20) (.t 23) (.c (.bool false)), none⟩])
    (.cond (.t 24) (.seq (.reg [⟨some 2, .mov (.c (.bool true)), none⟩])
    .ret) .skip)))))
    (.reg [⟨some 25, .bin .add (.t 9) (.c (.int .i64 1)), none⟩,
      ⟨some 9, .mov (.t 25), none⟩]))))
def ir_thread_says : IC :=
  (.seq (.reg [⟨some 2, .mov (.c (.bool false)), none⟩])
    (.seq (.seq (.reg [⟨some 7, .bsl 1 [.c (.str [119, 114, 111, 116, 101, 58]), .c (.str [115, 99, 104, 114, 105, 101, 98, 58])], none⟩,
      ⟨some 8, .len (.t 7), none⟩,
      ⟨some 9, .mov (.c (.int .i64 0)), none⟩])
    (.block 0 (.loop ir_thread_says_L0)))
    (.seq (.reg [⟨some 26, .mov (.t 0), none⟩,
      ⟨some 27, .bin .eql (.t 26) (.c (.str [45, 45, 45, 45, 45, 79, 114, 105, 103, 105, 110, 97, 108, 32, 77, 101, 115, 115, 97, 103, 101, 45, 45, 45, 45, 45])), none⟩,
      ⟨some 2, .mov (.t 27), none⟩])
    .ret)))
def rs_thread_says : List IRes := [.t 2]
theorem ck_thread_says : chkF Tryz.prog Tryz.f182 ir_thread_says rs_thread_says 28 = true := by kernel_rfl
/- paperchase/chaseref1.linesOf -/
def ir_chaseref1_linesOf : IC :=
  (.seq (.reg [⟨some 2, .mov (.c (.nl 1)), none⟩])
    (.seq (.reg [⟨some 4, .mov (.t 0), none⟩,
      ⟨some 5, .call 85 [.t 4, .c (.str [10])], none⟩,
      ⟨some 3, .mov (.t 5), none⟩])
    (.seq (.reg [⟨some 6, .mov (.t 3), none⟩,
      ⟨some 7, .mov (.t 3), none⟩,
      ⟨some 8, .len (.t 7), none⟩,
      ⟨some 9, .bin .sub (.t 8) (.c (.int .i64 1)), none⟩,
      ⟨some 10, .vsl 1 (.t 6) none (some (.t 9)), none⟩,
      ⟨some 2, .mov (.t 10), none⟩])
    .ret)))
def rs_chaseref1_linesOf : List IRes := [.t 2]
theorem ck_chaseref1_linesOf : chkF Tryz.prog Tryz.f107 ir_chaseref1_linesOf rs_chaseref1_linesOf 11 = true := by kernel_rfl
/- paperchase/chaseref1.attribution -/
def ir_chaseref1_attribution_L0 : IC :=
  (.seq (.reg [⟨some 12, .bin .lss (.t 11) (.t 10), none⟩])
    (.seq (.cond (.t 12) .skip (.exit 0))
    (.seq (.block 1 (.seq (.reg [⟨some 13, .ixa 1 (.t 9) (.t 11), none⟩,
      ⟨some 14, .ld 1 false (.t 13), none⟩,
      ⟨some 4, .mov (.t 14), none⟩])
    (.seq (.reg [⟨some 16, .mov (.t 0), none⟩,
      ⟨some 17, .mov (.t 4), none⟩,
      ⟨some 18, .call 163 [.t 16, .t 17], none⟩,
      ⟨some 15, .mov (.t 18), none⟩,
      ⟨some 19, .ext 0 (.t 15), none⟩,
      ⟨some 20, .ext 1 (.t 15), none⟩,
      ⟨some 5, .mov (.t 19), none⟩,
      ⟨some 6, .mov (.t 20), none⟩])
    (.seq (.reg [⟨some 21, .mov (.t 6), none⟩,
      ⟨some 22, .mov (.t 21), none⟩,
      ⟨some 23, .mov (.t 5), (some (22, true))⟩,
      ⟨some 24, .call 111 [.t 23], (some (22, true))⟩,
      ⟨some 25, .bin .neq (.t 24) (.c (.str [])), (some (22, true))⟩,
      ⟨some 26, .pick (.t 22) (.t 25) (.c (.bool false)), none⟩])
    (.cond (.t 26) (.seq (.reg [⟨some 2, .mov (.c (.bool true)), none⟩])
    .ret) .skip)))))
    (.reg [⟨some 27, .bin .add (.t 11) (.c (.int .i64 1)), none⟩,
      ⟨some 11, .mov (.t 27), none⟩]))))
def ir_chaseref1_attribution : IC :=
  (.seq (.reg [⟨some 2, .mov (.c (.bool false)), none⟩])
    (.seq (.seq (.reg [⟨some 7, .mov (.t 0), none⟩,
      ⟨some 8, .bin .eql (.t 7) (.c (.str [45, 45, 45, 45, 45, 79, 114, 105, 103, 105, 110, 97, 108, 32, 77, 101, 115, 115, 97, 103, 101, 45, 45, 45, 45, 45])), none⟩])
    (.cond (.t 8) (.seq (.reg [⟨some 2, .mov (.c (.bool true)), none⟩])
    .ret) .skip))
    (.seq (.seq (.reg [⟨some 9, .bsl 1 [.c (.str [119, 114, 111, 116, 101, 58]), .c (.str [115, 99, 104, 114, 105, 101, 98, 58])], none⟩,
      ⟨some 10, .len (.t 9), none⟩,
      ⟨some 11, .mov (.c (.int .i64 0)), none⟩])
    (.block 0 (.loop ir_chaseref1_attribution_L0)))
    (.seq (.reg [⟨some 2, .mov (.c (.bool false)), none⟩])
    .ret))))
def rs_chaseref1_attribution : List IRes := [.t 2]
theorem ck_chaseref1_attribution : chkF Tryz.prog Tryz.f110 ir_chaseref1_attribution rs_chaseref1_attribution 28 = true := by kernel_rfl


theorem checkBody_ok (s : List UInt8) (hs : s.length ≤ 1000000000) : PCall Tryz.prog E0 102 [.str s] (· = int (bodyE s)) := by
  refine pcallF mixed Tryz.func102 ck_thread_checkBody ?_
  simp only [a0, l0, OS.ao, List.map_cons, List.map_nil, List.length_cons, List.length_nil, List.cons_append, List.nil_append, Nat.reduceSub, Nat.reduceAdd, List.replicate_succ, List.replicate_zero, ir_thread_checkBody, rs_thread_checkBody, ZZ, YY, Zd, ite_true, ite_false, forall_const, reduceCtorEq, Nat.reduceAdd, Nat.reduceMul, Nat.reduceLeDiff, Nat.reduceLT, Nat.reduceEqDiff]
  refine use1 (When_ok _ 2) rfl (.inl rfl) ?_
  simp only [ZZ, YY, Zd, ite_true, ite_false, forall_const, reduceCtorEq, Nat.reduceAdd, Nat.reduceMul, Nat.reduceLeDiff, Nat.reduceLT, Nat.reduceEqDiff]
  refine use1 (Text_ok s hs) rfl (.inl rfl) ?_
  simp only [ZZ, YY, Zd, ite_true, ite_false, forall_const, reduceCtorEq, Nat.reduceAdd, Nat.reduceMul, Nat.reduceLeDiff, Nat.reduceLT, Nat.reduceEqDiff]
  refine use1 (When_ok _ 3) rfl (.inl rfl) ?_
  simp only [ZZ, YY, Zd, ite_true, ite_false, forall_const, reduceCtorEq, Nat.reduceAdd, Nat.reduceMul, Nat.reduceLeDiff, Nat.reduceLT, Nat.reduceEqDiff]
  refine use1 (First_ok [largeE s, whenE (!textE s) 3] (by simp)) rfl (.inl rfl) ?_
  simp only [ZZ, YY, Zd, ite_true, ite_false, forall_const, reduceCtorEq, Nat.reduceAdd, Nat.reduceMul, Nat.reduceLeDiff, Nat.reduceLT, Nat.reduceEqDiff]
  unfold bodyE largeE whenE
  by_cases h1 : 20000 < s.length
  · simp [firstE, h1, show (20000 : Int) < s.length by omega]
  · by_cases h2 : textE s = true
    · simp [firstE, h1, h2, show ¬ (20000 : Int) < s.length by omega]
    · simp [firstE, h1, h2, show ¬ (20000 : Int) < s.length by omega]
def linesF (s : List UInt8) : List (List UInt8) × Bool := if s = [] then ([], true) else (splF (cutSufF s [10]).1 10, (cutSufF s [10]).2)
theorem cutSuf_len (s p : List UInt8) : (cutSufF s p).1.length ≤ s.length := by
  unfold cutSufF
  split <;> simp
theorem Lines_ok (s : List UInt8) (hs : s.length ≤ 1000000000) : PCall Tryz.prog E0 181 [.str s] (· = .tup [strs (linesF s).1, .bool (linesF s).2]) := by
  refine pcallF mixed Tryz.func181 ck_base_Lines ?_
  simp only [a0, l0, OS.ao, List.map_cons, List.map_nil, List.length_cons, List.length_nil, List.cons_append, List.nil_append, Nat.reduceSub, Nat.reduceAdd, List.replicate_succ, List.replicate_zero, ir_base_Lines, rs_base_Lines, ZZ, YY, Zd, ite_true, ite_false, forall_const, reduceCtorEq, Nat.reduceAdd, Nat.reduceMul, Nat.reduceLeDiff, Nat.reduceLT, Nat.reduceEqDiff]
  refine br ?_ ?_
  · intro h
    have h : s = [] := by simpa using h
    simp only [ZZ, YY, Zd, ite_true, ite_false, forall_const, reduceCtorEq, Nat.reduceAdd, Nat.reduceMul, Nat.reduceLeDiff, Nat.reduceLT, Nat.reduceEqDiff]
    rw [linesF, if_pos h]
    rfl
  · intro h
    have h : ¬ s = [] := by simpa using h
    simp only [ZZ, YY, Zd, ite_true, ite_false, forall_const, reduceCtorEq, Nat.reduceAdd, Nat.reduceMul, Nat.reduceLeDiff, Nat.reduceLT, Nat.reduceEqDiff]
    refine use1 (CutSuffix_ok s [10] hs (by decide)) rfl (.inl rfl) ?_
    simp only [ZZ, YY, Zd, ite_true, ite_false, forall_const, reduceCtorEq, Nat.reduceAdd, Nat.reduceMul, Nat.reduceLeDiff, Nat.reduceLT, Nat.reduceEqDiff]
    refine use1 (Split_ok (cutSufF s [10]).1 10 (by have := cutSuf_len s [10]; omega)) rfl (.inl rfl) ?_
    simp only [ZZ, YY, Zd, ite_true, ite_false, forall_const, reduceCtorEq, Nat.reduceAdd, Nat.reduceMul, Nat.reduceLeDiff, Nat.reduceLT, Nat.reduceEqDiff]
    rw [linesF, if_neg h]
    rfl
section
variable {E : Envt}
def blankF (s : List UInt8) : Bool := decide (Lib.trimS s [32] = [])
theorem blank_ok (s : List UInt8) (hs : s.length ≤ 1000000000) : PCall Tryz.prog E 104 [.str s] (· = .bool (blankF s)) := by
  refine pcallF mixed Tryz.func104 ck_thread_blank ?_
  simp only [a0, l0, OS.ao, List.map_cons, List.map_nil, List.length_cons, List.length_nil, List.cons_append, List.nil_append, Nat.reduceSub, Nat.reduceAdd, List.replicate_succ, List.replicate_zero, ir_thread_blank, rs_thread_blank, ZZ, YY, Zd, ite_true, ite_false, forall_const, reduceCtorEq, Nat.reduceAdd, Nat.reduceMul, Nat.reduceLeDiff, Nat.reduceLT, Nat.reduceEqDiff]
  refine use1 (TrimSet_ok s [32] hs (by decide) (by decide)) rfl (.inl rfl) ?_
  simp only [ZZ, YY, Zd, ite_true, ite_false, forall_const, reduceCtorEq, Nat.reduceAdd, Nat.reduceMul, Nat.reduceLeDiff, Nat.reduceLT, Nat.reduceEqDiff]
  rfl
abbrev origS : List UInt8 := [45, 45, 45, 45, 45, 79, 114, 105, 103, 105, 110, 97, 108, 32, 77, 101, 115, 115, 97, 103, 101, 45, 45, 45, 45, 45]
def wsQ : List (List UInt8) := [[119, 114, 111, 116, 101, 58], [115, 99, 104, 114, 105, 101, 98, 58]]
def hitF (s w : List UInt8) : Bool := (cutSufF s w).2 && !blankF (cutSufF s w).1
def saysF (s : List UInt8) : Bool := (wsQ.any (hitF s)) || decide (s = origS)
theorem wsQ_bd : ∀ w ∈ wsQ, w.length ≤ 10 := by decide
theorem wsQ_len : wsQ.length = 2 := rfl
theorem says_ok (s : List UInt8) (hs : s.length ≤ 1000000000) : PCall Tryz.prog E 182 [.str s] (· = .bool (saysF s)) := by
  refine pcallF mixed Tryz.func182 ck_thread_says ?_
  simp only [a0, l0, OS.ao, List.map_cons, List.map_nil, List.length_cons, List.length_nil, List.cons_append, List.nil_append, Nat.reduceSub, Nat.reduceAdd, List.replicate_succ, List.replicate_zero, ir_thread_says, rs_thread_says, ZZ, YY, Zd, ite_true, ite_false, forall_const, reduceCtorEq, Nat.reduceAdd, Nat.reduceMul, Nat.reduceLeDiff, Nat.reduceLT, Nat.reduceEqDiff]
  rw [show ([[PV.str [119, 114, 111, 116, 101, 58]], [PV.str [115, 99, 104, 114, 105, 101, 98, 58]]] : List (List PV)) = strE wsQ from rfl]
  rw [show ((2 : Nat) : Int) = (wsQ.length : Nat) from rfl]
  have hbd := wsQ_bd
  have hwl := wsQ_len
  unfold saysF
  generalize wsQ = ws at *
  refine loop_intro (fun n fr L => ∃ (k : Nat), k ≤ ws.length ∧ n = ws.length - k ∧ ((ws.take k).any (hitF s) = false) ∧ fr = [.p (.str s), .any, .any, .any, .any, .any, .any, .p (.sl 1 (strE ws)), .p (int (ws.length : Nat)), .p (int (k : Nat)), .any, .any, .any, .any, .any, .any, .any, .any, .any, .any, .any, .any, .any, .any, .any, .any, .any, .any] ∧ L = []) (ws.length) [.p (.str s), .any, .any, .any, .any, .any, .any, .p (.sl 1 (strE ws)), .p (int (ws.length : Nat)), .p (int (0 : Nat)), .any, .any, .any, .any, .any, .any, .any, .any, .any, .any, .any, .any, .any, .any, .any, .any, .any, .any] [] (by simp only [ZZ, YY, Zd, ite_true, ite_false, forall_const, reduceCtorEq, Nat.reduceAdd, Nat.reduceMul, Nat.reduceLeDiff, Nat.reduceLT, Nat.reduceEqDiff, strE_len]; try trivial) (by (simp only [ZZ, YY, Zd, ite_true, ite_false, forall_const, reduceCtorEq, Nat.reduceAdd, Nat.reduceMul, Nat.reduceLeDiff, Nat.reduceLT, Nat.reduceEqDiff]; try trivial)) ⟨0, by omega, by omega, by simp, rfl, rfl⟩ ?_
  rintro n fr L ⟨k, hk, rfl, hno, rfl, rfl⟩
  simp only [ir_thread_says_L0, ZZ, YY, Zd, ite_true, ite_false, forall_const, reduceCtorEq, Nat.reduceAdd, Nat.reduceMul, Nat.reduceLeDiff, Nat.reduceLT, Nat.reduceEqDiff]
  refine br ?_ ?_
  · intro h
    have hlt : k < ws.length := by have := of_decide_eq_true h; omega
    obtain ⟨x, hx⟩ : ∃ x, ws[k]? = some x := ⟨_, List.getElem?_eq_getElem hlt⟩
    have hg := strE_get hx
    have hxb := hbd x (List.mem_of_getElem? hx)
    have hnx : (ws.take (k + 1)).any (hitF s) = hitF s x := by
      rw [List.take_succ_eq_append_getElem hlt, List.any_append, hno, (List.getElem?_eq_some_iff.1 hx).2]
      simp
    simp only [ZZ, YY, Zd, ite_true, ite_false, forall_const, reduceCtorEq, Nat.reduceAdd, Nat.reduceMul, Nat.reduceLeDiff, Nat.reduceLT, Nat.reduceEqDiff, hg, strE_len]
    ((repeat' (with_reducible apply And.intro)) <;> try ((first | first | assumption | trivial | exact (fun hq => by rw [hq]; rfl) | exact i64_of (by omega) (by omega) | omega | (simp; done) | (simp; omega) | (intro hsc; have hs0 := hsc; (try have hsd := of_decide_eq_true hsc); (try simp only [Bool.not_eq_true', Bool.or_eq_false_iff, Bool.and_eq_true, Bool.or_eq_true, decide_eq_true_eq, decide_eq_false_iff_not] at hsc); (repeat' (with_reducible apply And.intro)) <;> (first | assumption | trivial | exact (fun hq => by rw [hq]; rfl) | exact i64_of (by omega) (by omega) | omega | (simp; done) | (simp; omega) | (intro hse; simp [hse, hs0]; done) | (intro hse; simp only [hse, hs0, Bool.true_and, Bool.and_true, Bool.not_false, Bool.not_true, Bool.and_self]; done))))))
    refine use1 (CutSuffix_ok s x hs (by omega)) rfl (.inl rfl) ?_
    simp only [ZZ, YY, Zd, ite_true, ite_false, forall_const, reduceCtorEq, Nat.reduceAdd, Nat.reduceMul, Nat.reduceLeDiff, Nat.reduceLT, Nat.reduceEqDiff]
    refine useG (fun _ => blank_ok (cutSufF s x).1 (by have := cutSuf_len s x; omega)) rfl (.inl rfl) ?_
    simp only [ZZ, YY, Zd, ite_true, ite_false, forall_const, reduceCtorEq, Nat.reduceAdd, Nat.reduceMul, Nat.reduceLeDiff, Nat.reduceLT, Nat.reduceEqDiff]
    refine br ?_ ?_
    · intro hm
      have hm : hitF s x = true := hm
      have ha : ws.any (hitF s) = true := List.any_eq_true.2 ⟨x, List.mem_of_getElem? hx, hm⟩
      simp only [ZZ, YY, Zd, ite_true, ite_false, forall_const, reduceCtorEq, Nat.reduceAdd, Nat.reduceMul, Nat.reduceLeDiff, Nat.reduceLT, Nat.reduceEqDiff]
      simp [ha]
    · intro hm
      have hm : hitF s x = false := hm
      simp only [ZZ, YY, Zd, ite_true, ite_false, forall_const, reduceCtorEq, Nat.reduceAdd, Nat.reduceMul, Nat.reduceLeDiff, Nat.reduceLT, Nat.reduceEqDiff]
      refine ⟨i64_of (by omega) (by omega), ?_⟩
      refine end_round (ws.length - (k + 1)) [.p (.str s), .any, .any, .any, .any, .any, .any, .p (.sl 1 (strE ws)), .p (int (ws.length : Nat)), .p (int ((k + 1) : Nat)), .any, .any, .any, .any, .any, .any, .any, .any, .any, .any, .any, .any, .any, .any, .any, .any, .any, .any] [] (by omega) (by (simp only [ZZ, YY, Zd, ite_true, ite_false, forall_const, reduceCtorEq, Nat.reduceAdd, Nat.reduceMul, Nat.reduceLeDiff, Nat.reduceLT, Nat.reduceEqDiff]; try trivial)) (by (simp only [ZZ, YY, Zd, ite_true, ite_false, forall_const, reduceCtorEq, Nat.reduceAdd, Nat.reduceMul, Nat.reduceLeDiff, Nat.reduceLT, Nat.reduceEqDiff]; try trivial)) ⟨k + 1, by omega, rfl, by rw [hnx, hm], rfl, rfl⟩
  · intro h
    have hge : ws.length ≤ k := by have := of_decide_eq_false h; omega
    rw [List.take_of_length_le hge] at hno
    simp only [ZZ, YY, Zd, ite_true, ite_false, forall_const, reduceCtorEq, Nat.reduceAdd, Nat.reduceMul, Nat.reduceLeDiff, Nat.reduceLT, Nat.reduceEqDiff]
    rw [hno]
    rfl
end
def rlinesF (s : List UInt8) : List (List UInt8) := (splF s 10).take ((splF s 10).length - 1)
theorem linesOf_ok (s : List UInt8) (hs : s.length ≤ 1000000000) : PCall Tryz.prog E0 107 [.str s] (· = strs (rlinesF s)) := by
  refine pcallF mixed Tryz.func107 ck_chaseref1_linesOf ?_
  simp only [a0, l0, OS.ao, List.map_cons, List.map_nil, List.length_cons, List.length_nil, List.cons_append, List.nil_append, Nat.reduceSub, Nat.reduceAdd, List.replicate_succ, List.replicate_zero, ir_chaseref1_linesOf, rs_chaseref1_linesOf, ZZ, YY, Zd, ite_true, ite_false, forall_const, reduceCtorEq, Nat.reduceAdd, Nat.reduceMul, Nat.reduceLeDiff, Nat.reduceLT, Nat.reduceEqDiff]
  refine use1 (Split_ok s 10 hs) rfl (.inl rfl) ?_
  rw [strs_eq]
  have h1 := splF_len s 10
  have h2 := splF_ne s 10
  have h3 : 0 < (splF s 10).length := List.length_pos_iff.2 h2
  have h4 : (((splF s 10).length : Int) - 1).toNat = (splF s 10).length - 1 := by omega
  have h5 : strs (rlinesF s) = .sl 1 ((strE (splF s 10)).take ((splF s 10).length - 1)) := by rw [strs_eq, rlinesF, strE, List.map_take]; rfl
  rw [h5]
  simp only [ZZ, YY, Zd, ite_true, ite_false, forall_const, reduceCtorEq, Nat.reduceAdd, Nat.reduceMul, Nat.reduceLeDiff, Nat.reduceLT, Nat.reduceEqDiff, strE_len, h4]
  exact ⟨i64_of (by omega) (by omega), by omega, by omega⟩
def rhitF (s w : List UInt8) : Bool := (cutSufF s w).2 && !decide (sqF (cutSufF s w).1 = [])
def attrF (s : List UInt8) : Bool := decide (s = origS) || (wsQ.any (rhitF s))
theorem attribution_ok (s : List UInt8) (hs : s.length ≤ 25000) : PCall Tryz.prog E0 110 [.str s] (· = .bool (attrF s)) := by
  refine pcallF mixed Tryz.func110 ck_chaseref1_attribution ?_
  simp only [a0, l0, OS.ao, List.map_cons, List.map_nil, List.length_cons, List.length_nil, List.cons_append, List.nil_append, Nat.reduceSub, Nat.reduceAdd, List.replicate_succ, List.replicate_zero, ir_chaseref1_attribution, rs_chaseref1_attribution, ZZ, YY, Zd, ite_true, ite_false, forall_const, reduceCtorEq, Nat.reduceAdd, Nat.reduceMul, Nat.reduceLeDiff, Nat.reduceLT, Nat.reduceEqDiff]
  refine br ?_ ?_
  · intro h
    have h : s = origS := by simpa using h
    simp only [ZZ, YY, Zd, ite_true, ite_false, forall_const, reduceCtorEq, Nat.reduceAdd, Nat.reduceMul, Nat.reduceLeDiff, Nat.reduceLT, Nat.reduceEqDiff]
    simp [attrF, h]
  intro h
  have h : ¬ s = origS := by simpa using h
  have hF : attrF s = wsQ.any (rhitF s) := by simp [attrF, h]
  rw [hF]
  simp only [ZZ, YY, Zd, ite_true, ite_false, forall_const, reduceCtorEq, Nat.reduceAdd, Nat.reduceMul, Nat.reduceLeDiff, Nat.reduceLT, Nat.reduceEqDiff]
  rw [show ([[PV.str [119, 114, 111, 116, 101, 58]], [PV.str [115, 99, 104, 114, 105, 101, 98, 58]]] : List (List PV)) = strE wsQ from rfl]
  rw [show ((2 : Nat) : Int) = (wsQ.length : Nat) from rfl]
  have hbd := wsQ_bd
  have hwl := wsQ_len
  clear hF h
  generalize wsQ = ws at *
  refine loop_intro (fun n fr L => ∃ (k : Nat), k ≤ ws.length ∧ n = ws.length - k ∧ ((ws.take k).any (rhitF s) = false) ∧ fr = [.p (.str s), .any, .any, .any, .any, .any, .any, .any, .any, .p (.sl 1 (strE ws)), .p (int (ws.length : Nat)), .p (int (k : Nat)), .any, .any, .any, .any, .any, .any, .any, .any, .any, .any, .any, .any, .any, .any, .any, .any] ∧ L = []) (ws.length) [.p (.str s), .any, .any, .any, .any, .any, .any, .any, .any, .p (.sl 1 (strE ws)), .p (int (ws.length : Nat)), .p (int (0 : Nat)), .any, .any, .any, .any, .any, .any, .any, .any, .any, .any, .any, .any, .any, .any, .any, .any] [] (by simp only [ZZ, YY, Zd, ite_true, ite_false, forall_const, reduceCtorEq, Nat.reduceAdd, Nat.reduceMul, Nat.reduceLeDiff, Nat.reduceLT, Nat.reduceEqDiff, strE_len]; try trivial) (by (simp only [ZZ, YY, Zd, ite_true, ite_false, forall_const, reduceCtorEq, Nat.reduceAdd, Nat.reduceMul, Nat.reduceLeDiff, Nat.reduceLT, Nat.reduceEqDiff]; try trivial)) ⟨0, by omega, by omega, by simp, rfl, rfl⟩ ?_
  rintro n fr L ⟨k, hk, rfl, hno, rfl, rfl⟩
  simp only [ir_chaseref1_attribution_L0, ZZ, YY, Zd, ite_true, ite_false, forall_const, reduceCtorEq, Nat.reduceAdd, Nat.reduceMul, Nat.reduceLeDiff, Nat.reduceLT, Nat.reduceEqDiff]
  refine br ?_ ?_
  · intro h
    have hlt : k < ws.length := by have := of_decide_eq_true h; omega
    obtain ⟨x, hx⟩ : ∃ x, ws[k]? = some x := ⟨_, List.getElem?_eq_getElem hlt⟩
    have hg := strE_get hx
    have hxb := hbd x (List.mem_of_getElem? hx)
    have hnx : (ws.take (k + 1)).any (rhitF s) = rhitF s x := by
      rw [List.take_succ_eq_append_getElem hlt, List.any_append, hno, (List.getElem?_eq_some_iff.1 hx).2]
      simp
    simp only [ZZ, YY, Zd, ite_true, ite_false, forall_const, reduceCtorEq, Nat.reduceAdd, Nat.reduceMul, Nat.reduceLeDiff, Nat.reduceLT, Nat.reduceEqDiff, hg, strE_len]
    ((repeat' (with_reducible apply And.intro)) <;> try ((first | first | assumption | trivial | exact (fun hq => by rw [hq]; rfl) | exact i64_of (by omega) (by omega) | omega | (simp; done) | (simp; omega) | (intro hsc; have hs0 := hsc; (try have hsd := of_decide_eq_true hsc); (try simp only [Bool.not_eq_true', Bool.or_eq_false_iff, Bool.and_eq_true, Bool.or_eq_true, decide_eq_true_eq, decide_eq_false_iff_not] at hsc); (repeat' (with_reducible apply And.intro)) <;> (first | assumption | trivial | exact (fun hq => by rw [hq]; rfl) | exact i64_of (by omega) (by omega) | omega | (simp; done) | (simp; omega) | (intro hse; simp [hse, hs0]; done) | (intro hse; simp only [hse, hs0, Bool.true_and, Bool.and_true, Bool.not_false, Bool.not_true, Bool.and_self]; done))))))
    refine use1 (CutSuffix_ok s x (by omega) (by omega)) rfl (.inl rfl) ?_
    simp only [ZZ, YY, Zd, ite_true, ite_false, forall_const, reduceCtorEq, Nat.reduceAdd, Nat.reduceMul, Nat.reduceLeDiff, Nat.reduceLT, Nat.reduceEqDiff]
    refine useG (fun _ => squeezed_ok (cutSufF s x).1 (by have := cutSuf_len s x; omega)) rfl (.inl rfl) ?_
    simp only [ZZ, YY, Zd, ite_true, ite_false, forall_const, reduceCtorEq, Nat.reduceAdd, Nat.reduceMul, Nat.reduceLeDiff, Nat.reduceLT, Nat.reduceEqDiff]
    refine br ?_ ?_
    · intro hm
      have hm : rhitF s x = true := hm
      have ha : ws.any (rhitF s) = true := List.any_eq_true.2 ⟨x, List.mem_of_getElem? hx, hm⟩
      simp only [ZZ, YY, Zd, ite_true, ite_false, forall_const, reduceCtorEq, Nat.reduceAdd, Nat.reduceMul, Nat.reduceLeDiff, Nat.reduceLT, Nat.reduceEqDiff]
      simp [ha]
    · intro hm
      have hm : rhitF s x = false := hm
      simp only [ZZ, YY, Zd, ite_true, ite_false, forall_const, reduceCtorEq, Nat.reduceAdd, Nat.reduceMul, Nat.reduceLeDiff, Nat.reduceLT, Nat.reduceEqDiff]
      refine ⟨i64_of (by omega) (by omega), ?_⟩
      refine end_round (ws.length - (k + 1)) [.p (.str s), .any, .any, .any, .any, .any, .any, .any, .any, .p (.sl 1 (strE ws)), .p (int (ws.length : Nat)), .p (int ((k + 1) : Nat)), .any, .any, .any, .any, .any, .any, .any, .any, .any, .any, .any, .any, .any, .any, .any, .any] [] (by omega) (by (simp only [ZZ, YY, Zd, ite_true, ite_false, forall_const, reduceCtorEq, Nat.reduceAdd, Nat.reduceMul, Nat.reduceLeDiff, Nat.reduceLT, Nat.reduceEqDiff]; try trivial)) (by (simp only [ZZ, YY, Zd, ite_true, ite_false, forall_const, reduceCtorEq, Nat.reduceAdd, Nat.reduceMul, Nat.reduceLeDiff, Nat.reduceLT, Nat.reduceEqDiff]; try trivial)) ⟨k + 1, by omega, rfl, by rw [hnx, hm], rfl, rfl⟩
  · intro h
    have hge : ws.length ≤ k := by have := of_decide_eq_false h; omega
    rw [List.take_of_length_le hge] at hno
    simp only [ZZ, YY, Zd, ite_true, ite_false, forall_const, reduceCtorEq, Nat.reduceAdd, Nat.reduceMul, Nat.reduceLeDiff, Nat.reduceLT, Nat.reduceEqDiff]
    rw [hno]
end Go.Proofs.YtndjmidmfmcbkaaGreatDoor
