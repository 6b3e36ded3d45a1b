
/- Own texts, put together: P1 G1 P2 N3 P3. -/
import Derived.Test.YthfpehmbellmcaaDoorZ5
import Derived.Test.YthfpehmbellmcaaDoorZ3
import Derived.Test.YthfpehmbellmcaaDoorRep
import Derived.Test.YthfpehmbellmcaaDoorZ4
/- Tables of strings: their checks, on both sides. -/
namespace Go.Proofs.YthfpehmbellmcaaDoor
open Go.RowKit
set_option linter.unusedVariables false
set_option linter.unusedSimpArgs false
set_option linter.defProp false

/- paperchase/produce.rowsError -/
def ir_produce_rowsError_L0 : IC :=
  (.seq (.reg [⟨some 11, .bin .lss (.t 10) (.t 9), none⟩])
    (.seq (.cond (.t 11) .skip (.exit 0))
    (.seq (.block 1 (.seq (.reg [⟨some 12, .ixa 1 (.t 8) (.t 10), none⟩,
      ⟨some 13, .ld 1 false (.t 12), none⟩,
      ⟨some 4, .mov (.t 13), none⟩])
    (.seq (.seq (.reg [⟨some 14, .mov (.t 4), none⟩,
      ⟨some 15, .len (.t 14), none⟩,
      ⟨some 16, .call 34 [.t 15, .c (.int .i64 1), .c (.int .i64 30)], none⟩,
      ⟨some 17, .not (.t 16), none⟩,
      ⟨some 18, .mov (.t 17), none⟩,
      ⟨some 19, .mov (.t 4), (some (18, false))⟩,
      ⟨some 20, .len (.t 19), (some (18, false))⟩,
      ⟨some 21, .mov (.t 0), (some (18, false))⟩,
      ⟨some 22, .ixa 1 (.t 21) (.c (.int .i64 0)), (some (18, false))⟩,
      ⟨some 23, .ld 1 false (.t 22), (some (18, false))⟩,
      ⟨some 24, .len (.t 23), (some (18, false))⟩,
      ⟨some 25, .bin .neq (.t 20) (.t 24), (some (18, false))⟩,
      ⟨some 26, .pick (.t 18) (.c (.bool true)) (.t 25), none⟩])
    (.cond (.t 26) (.seq (.reg [⟨some 2, .mov (.c (.int .i64 3)), none⟩])
    .ret) .skip))
    (.seq (.reg [⟨some 27, .mov (.t 4), none⟩,
      ⟨some 28, .call 37 [.t 27, .f 38], none⟩])
    (.cond (.t 28) (.seq (.reg [⟨some 2, .mov (.c (.int .i64 3)), none⟩])
    .ret) .skip)))))
    (.reg [⟨some 29, .bin .add (.t 10) (.c (.int .i64 1)), none⟩,
      ⟨some 10, .mov (.t 29), none⟩]))))
def ir_produce_rowsError : IC :=
  (.seq (.reg [⟨some 2, .mov (.c (.int .i64 0)), none⟩])
    (.seq (.seq (.reg [⟨some 5, .mov (.t 0), none⟩,
      ⟨some 6, .len (.t 5), none⟩,
      ⟨some 7, .bin .gtr (.t 6) (.c (.int .i64 2001)), none⟩])
    (.cond (.t 7) (.seq (.reg [⟨some 2, .mov (.c (.int .i64 2)), none⟩])
    .ret) .skip))
    (.seq (.seq (.reg [⟨some 8, .mov (.t 0), none⟩,
      ⟨some 9, .len (.t 8), none⟩,
      ⟨some 10, .mov (.c (.int .i64 0)), none⟩])
    (.block 0 (.loop ir_produce_rowsError_L0)))
    (.seq (.reg [⟨some 2, .mov (.c (.int .i64 0)), none⟩])
    .ret))))
def rs_produce_rowsError : List IRes := [.t 2]
theorem ck_produce_rowsError : chkF Tryd.prog Tryd.f26 ir_produce_rowsError rs_produce_rowsError 30 = true := by kernel_rfl
/- paperchase/produce.rowsError$1 -/
def ir_produce_rowsError_1 : IC :=
  (.seq (.reg [⟨some 2, .mov (.c (.bool false)), none⟩])
    (.seq (.reg [⟨some 3, .mov (.t 0), none⟩,
      ⟨some 4, .call 39 [.t 3, .c (.bool true)], none⟩,
      ⟨some 5, .not (.t 4), none⟩,
      ⟨some 2, .mov (.t 5), none⟩])
    .ret))
def rs_produce_rowsError_1 : List IRes := [.t 2]
theorem ck_produce_rowsError_1 : chkF Tryd.prog Tryd.f38 ir_produce_rowsError_1 rs_produce_rowsError_1 6 = true := by kernel_rfl
/- paperchase/chaseref1.LoadFault -/
def ir_chaseref1_LoadFault_L0 : IC :=
  (.seq (.reg [⟨some 11, .bin .lss (.t 10) (.t 9), none⟩])
    (.seq (.cond (.t 11) .skip (.exit 0))
    (.seq (.block 1 (.seq (.reg [⟨some 12, .ixa 1 (.t 8) (.t 10), none⟩,
      ⟨some 13, .ld 1 false (.t 12), none⟩,
      ⟨some 4, .mov (.t 13), none⟩])
    (.seq (.seq (.reg [⟨some 14, .mov (.t 4), none⟩,
      ⟨some 15, .len (.t 14), none⟩,
      ⟨some 16, .bin .eql (.t 15) (.c (.int .i64 0)), none⟩,
      ⟨some 17, .mov (.t 16), none⟩,
      ⟨some 18, .mov (.t 4), (some (17, false))⟩,
      ⟨some 19, .len (.t 18), (some (17, false))⟩,
      ⟨some 20, .bin .gtr (.t 19) (.c (.int .i64 30)), (some (17, false))⟩,
      ⟨some 21, .pick (.t 17) (.c (.bool true)) (.t 20), none⟩,
      ⟨some 22, .mov (.t 21), none⟩,
      ⟨some 23, .mov (.t 4), (some (22, false))⟩,
      ⟨some 24, .len (.t 23), (some (22, false))⟩,
      ⟨some 25, .mov (.t 0), (some (22, false))⟩,
      ⟨some 26, .ixa 1 (.t 25) (.c (.int .i64 0)), (some (22, false))⟩,
      ⟨some 27, .ld 1 false (.t 26), (some (22, false))⟩,
      ⟨some 28, .len (.t 27), (some (22, false))⟩,
      ⟨some 29, .bin .neq (.t 24) (.t 28), (some (22, false))⟩,
      ⟨some 30, .pick (.t 22) (.c (.bool true)) (.t 29), none⟩])
    (.cond (.t 30) (.seq (.reg [⟨some 2, .mov (.c (.int .i64 3)), none⟩])
    .ret) .skip))
    (.seq (.reg [⟨some 31, .mov (.t 4), none⟩,
      ⟨some 32, .call 37 [.t 31, .f 40], none⟩])
    (.cond (.t 32) (.seq (.reg [⟨some 2, .mov (.c (.int .i64 3)), none⟩])
    .ret) .skip)))))
    (.reg [⟨some 33, .bin .add (.t 10) (.c (.int .i64 1)), none⟩,
      ⟨some 10, .mov (.t 33), none⟩]))))
def ir_chaseref1_LoadFault : IC :=
  (.seq (.reg [⟨some 2, .mov (.c (.int .i64 0)), none⟩])
    (.seq (.seq (.reg [⟨some 5, .mov (.t 0), none⟩,
      ⟨some 6, .len (.t 5), none⟩,
      ⟨some 7, .bin .gtr (.t 6) (.c (.int .i64 2001)), none⟩])
    (.cond (.t 7) (.seq (.reg [⟨some 2, .mov (.c (.int .i64 2)), none⟩])
    .ret) .skip))
    (.seq (.seq (.reg [⟨some 8, .mov (.t 0), none⟩,
      ⟨some 9, .len (.t 8), none⟩,
      ⟨some 10, .mov (.c (.int .i64 0)), none⟩])
    (.block 0 (.loop ir_chaseref1_LoadFault_L0)))
    (.seq (.reg [⟨some 2, .mov (.c (.int .i64 0)), none⟩])
    .ret))))
def rs_chaseref1_LoadFault : List IRes := [.t 2]
theorem ck_chaseref1_LoadFault : chkF Tryd.prog Tryd.f30 ir_chaseref1_LoadFault rs_chaseref1_LoadFault 34 = true := by kernel_rfl
/- paperchase/chaseref1.LoadFault$1 -/
def ir_chaseref1_LoadFault_1 : IC :=
  (.seq (.reg [⟨some 2, .mov (.c (.bool false)), none⟩])
    (.seq (.reg [⟨some 3, .mov (.t 0), none⟩,
      ⟨some 4, .call 41 [.t 3, .c (.bool true)], none⟩,
      ⟨some 5, .not (.t 4), none⟩,
      ⟨some 2, .mov (.t 5), none⟩])
    .ret))
def rs_chaseref1_LoadFault_1 : List IRes := [.t 2]
theorem ck_chaseref1_LoadFault_1 : chkF Tryd.prog Tryd.f40 ir_chaseref1_LoadFault_1 rs_chaseref1_LoadFault_1 6 = true := by kernel_rfl
/- paperchase/produce.twice -/
def ir_produce_twice_L0 : IC :=
  (.seq (.reg [⟨some 10, .bin .lss (.t 9) (.t 8), none⟩])
    (.seq (.cond (.t 10) .skip (.exit 0))
    (.seq (.block 1 (.seq (.reg [⟨some 11, .ixa 1 (.t 7) (.t 9), none⟩,
      ⟨some 12, .ld 1 false (.t 11), none⟩,
      ⟨some 5, .mov (.t 12), none⟩])
    (.seq (.seq (.reg [⟨some 13, .mov (.t 3), none⟩,
      ⟨some 14, .mov (.t 5), none⟩,
      ⟨some 15, .mpl false (.bool false) (.t 13) (.t 14), none⟩])
    (.cond (.t 15) (.seq (.reg [⟨some 2, .mov (.c (.bool true)), none⟩])
    .ret) .skip))
    (.reg [⟨some 16, .mov (.t 3), none⟩,
      ⟨some 17, .mov (.t 5), none⟩,
      ⟨none, .mpu (.t 16) (.t 17) (.c (.bool true)), none⟩]))))
    (.reg [⟨some 18, .bin .add (.t 9) (.c (.int .i64 1)), none⟩,
      ⟨some 9, .mov (.t 18), none⟩]))))
def ir_produce_twice : IC :=
  (.seq (.reg [⟨some 2, .mov (.c (.bool false)), none⟩])
    (.seq (.reg [⟨some 6, .mkm 9 4, none⟩,
      ⟨some 3, .mov (.t 6), none⟩])
    (.seq (.seq (.reg [⟨some 7, .mov (.t 0), none⟩,
      ⟨some 8, .len (.t 7), none⟩,
      ⟨some 9, .mov (.c (.int .i64 0)), none⟩])
    (.block 0 (.loop ir_produce_twice_L0)))
    (.seq (.reg [⟨some 2, .mov (.c (.bool false)), none⟩])
    .ret))))
def rs_produce_twice : List IRes := [.t 2]
theorem ck_produce_twice : chkF Tryd.prog Tryd.f28 ir_produce_twice rs_produce_twice 19 = true := by kernel_rfl
/- paperchase/produce.keys -/
def ir_produce_keys_L0 : IC :=
  (.seq (.reg [⟨some 10, .bin .lss (.t 9) (.t 8), none⟩])
    (.seq (.cond (.t 10) .skip (.exit 0))
    (.seq (.block 1 (.seq (.reg [⟨some 11, .ixa 1 (.t 7) (.t 9), none⟩,
      ⟨some 12, .ld 1 false (.t 11), none⟩,
      ⟨some 5, .mov (.t 12), none⟩])
    (.reg [⟨some 13, .mov (.t 3), none⟩,
      ⟨some 14, .mov (.t 5), none⟩,
      ⟨some 15, .ixa 1 (.t 14) (.c (.int .i64 0)), none⟩,
      ⟨some 16, .ld 1 false (.t 15), none⟩,
      ⟨some 17, .bsl 1 [.t 16], none⟩,
      ⟨some 18, .app 9 1 16 (.t 13) (.t 17), none⟩,
      ⟨some 3, .mov (.t 18), none⟩])))
    (.reg [⟨some 19, .bin .add (.t 9) (.c (.int .i64 1)), none⟩,
      ⟨some 9, .mov (.t 19), none⟩]))))
def ir_produce_keys : IC :=
  (.seq (.reg [⟨some 2, .mov (.c (.nl 1)), none⟩])
    (.seq (.reg [⟨some 3, .nilr 9 1, none⟩])
    (.seq (.seq (.reg [⟨some 6, .mov (.t 0), none⟩,
      ⟨some 7, .vsl 1 (.t 6) (some (.c (.int .i64 1))) none, none⟩,
      ⟨some 8, .len (.t 7), none⟩,
      ⟨some 9, .mov (.c (.int .i64 0)), none⟩])
    (.block 0 (.loop ir_produce_keys_L0)))
    (.seq (.reg [⟨some 20, .mov (.t 3), none⟩,
      ⟨some 2, .mov (.t 20), none⟩])
    .ret))))
def rs_produce_keys : List IRes := [.t 2]
theorem ck_produce_keys : chkF Tryd.prog Tryd.f17 ir_produce_keys rs_produce_keys 21 = true := by kernel_rfl
/- paperchase/chaseref1.column -/
def ir_chaseref1_column_L0 : IC :=
  (.seq (.reg [⟨some 11, .bin .lss (.t 10) (.t 9), none⟩])
    (.seq (.cond (.t 11) .skip (.exit 0))
    (.seq (.block 1 (.seq (.reg [⟨some 12, .ixa 1 (.t 8) (.t 10), none⟩,
      ⟨some 13, .ld 1 false (.t 12), none⟩,
      ⟨some 7, .mov (.t 13), none⟩])
    (.reg [⟨some 14, .mov (.t 5), none⟩,
      ⟨some 15, .mov (.t 7), none⟩,
      ⟨some 16, .mov (.t 1), none⟩,
      ⟨some 17, .ixa 1 (.t 15) (.t 16), none⟩,
      ⟨some 18, .ld 1 false (.t 17), none⟩,
      ⟨some 19, .bsl 1 [.t 18], none⟩,
      ⟨some 20, .app 9 1 16 (.t 14) (.t 19), none⟩,
      ⟨some 5, .mov (.t 20), none⟩])))
    (.reg [⟨some 21, .bin .add (.t 10) (.c (.int .i64 1)), none⟩,
      ⟨some 10, .mov (.t 21), none⟩]))))
def ir_chaseref1_column : IC :=
  (.seq (.reg [⟨some 4, .mov (.c (.nl 1)), none⟩])
    (.seq (.reg [⟨some 5, .nilr 9 1, none⟩])
    (.seq (.seq (.reg [⟨some 8, .mov (.t 0), none⟩,
      ⟨some 9, .len (.t 8), none⟩,
      ⟨some 10, .mov (.c (.int .i64 0)), none⟩])
    (.block 0 (.loop ir_chaseref1_column_L0)))
    (.seq (.reg [⟨some 22, .mov (.t 5), none⟩,
      ⟨some 4, .mov (.t 22), none⟩])
    .ret))))
def rs_chaseref1_column : List IRes := [.t 4]
theorem ck_chaseref1_column : chkF Tryd.prog Tryd.f32 ir_chaseref1_column rs_chaseref1_column 23 = true := by kernel_rfl

abbrev SRow := List (List UInt8)
abbrev Tab := List SRow
def tbE (t : Tab) : List (List PV) := t.map fun r => [PV.sl 1 (strE r)]
theorem tbE_len (t : Tab) : (tbE t).length = t.length := by simp [tbE]
theorem tbE_get {t : Tab} {k : Nat} {r : SRow} (h : t[k]? = some r) : (tbE t).getD k [] = [.sl 1 (strE r)] := getD_map h
theorem tbE_drop (t : Tab) (k : Nat) : (tbE t).drop k = tbE (t.drop k) := by simp [tbE, List.map_drop]
theorem drop_cons {α : Type} {l : List α} {k : Nat} {x : α} (h : l[k]? = some x) : l.drop k = x :: l.drop (k + 1) := by
  obtain ⟨hl, rfl⟩ := List.getElem?_eq_some_iff.1 h
  exact List.drop_eq_getElem_cons hl
def badR (n : Nat) (r : SRow) : Bool := (!(inE r.length 1 30) || !decide (r.length = n)) || r.any (fun s => !visE s true)
def loadE (t : Tab) : Int := if 2001 < t.length then 2 else if t.any (badR (t.headD []).length) then 3 else 0
/-- What tables may be. -/
def TabB (t : Tab) : Prop := t.length ≤ 1000000 ∧ ∀ r ∈ t, r.length ≤ 1000000 ∧ ∀ s ∈ r, s.length ≤ 1000000
theorem rowsError1_ok (x : List UInt8) (hx : x.length ≤ 1000000) : PCall Tryd.prog E0 38 [.str x] (· = .bool (!visE x true)) := by
  refine pcallF mixed Tryd.func38 ck_produce_rowsError_1 ?_
  simp only [a0, l0, OS.ao, List.map_cons, List.map_nil, List.length_cons, List.length_nil, List.cons_append, List.nil_append, Nat.reduceSub, Nat.reduceAdd, List.replicate_succ, List.replicate_zero, ir_produce_rowsError_1, rs_produce_rowsError_1, ZZ, YY, Ze, ite_true, ite_false, forall_const, reduceCtorEq, Nat.reduceAdd, Nat.reduceMul, Nat.reduceLeDiff, Nat.reduceLT, Nat.reduceEqDiff]
  refine use1 (Visible_ok x true (by omega)) rfl (.inl rfl) ?_
  simp only [ZZ, YY, Ze, ite_true, ite_false, forall_const, reduceCtorEq, Nat.reduceAdd, Nat.reduceMul, Nat.reduceLeDiff, Nat.reduceLT, Nat.reduceEqDiff]
theorem LoadFault1_ok (x : List UInt8) (hx : x.length ≤ 1000000) : PCall Tryd.prog E0 40 [.str x] (· = .bool (!visE x true)) := by
  refine pcallF mixed Tryd.func40 ck_chaseref1_LoadFault_1 ?_
  simp only [a0, l0, OS.ao, List.map_cons, List.map_nil, List.length_cons, List.length_nil, List.cons_append, List.nil_append, Nat.reduceSub, Nat.reduceAdd, List.replicate_succ, List.replicate_zero, ir_chaseref1_LoadFault_1, rs_chaseref1_LoadFault_1, ZZ, YY, Ze, ite_true, ite_false, forall_const, reduceCtorEq, Nat.reduceAdd, Nat.reduceMul, Nat.reduceLeDiff, Nat.reduceLT, Nat.reduceEqDiff]
  refine use1 (wellFormed_ok x true (by omega)) rfl (.inl rfl) ?_
  simp only [ZZ, YY, Ze, ite_true, ite_false, forall_const, reduceCtorEq, Nat.reduceAdd, Nat.reduceMul, Nat.reduceLeDiff, Nat.reduceLT, Nat.reduceEqDiff]
theorem rowsError_ok (t : Tab) (ht : TabB t) : PCall Tryd.prog E0 26 [.sl 1 (tbE t)] (· = int (loadE t)) := by
  obtain ⟨hl, hb⟩ := ht
  refine pcallF mixed Tryd.func26 ck_produce_rowsError ?_
  simp only [a0, l0, OS.ao, List.map_cons, List.map_nil, List.length_cons, List.length_nil, List.cons_append, List.nil_append, Nat.reduceSub, Nat.reduceAdd, List.replicate_succ, List.replicate_zero, ir_produce_rowsError, rs_produce_rowsError, ZZ, YY, Ze, ite_true, ite_false, forall_const, reduceCtorEq, Nat.reduceAdd, Nat.reduceMul, Nat.reduceLeDiff, Nat.reduceLT, Nat.reduceEqDiff]
  simp only [ZZ, YY, Ze, ite_true, ite_false, forall_const, reduceCtorEq, Nat.reduceAdd, Nat.reduceMul, Nat.reduceLeDiff, Nat.reduceLT, Nat.reduceEqDiff, tbE_len]
  refine br ?_ ?_
  · intro h
    have := of_decide_eq_true h
    simp only [ZZ, YY, Ze, ite_true, ite_false, forall_const, reduceCtorEq, Nat.reduceAdd, Nat.reduceMul, Nat.reduceLeDiff, Nat.reduceLT, Nat.reduceEqDiff]
    rw [loadE, if_pos (by omega)]
  intro h
  have h2 : ¬ 2001 < t.length := by have := of_decide_eq_false h; omega
  rw [loadE, if_neg h2]
  have hh0 : ∀ r0, t[0]? = some r0 → (t.headD []).length = r0.length := by
    intro r0 hr0
    cases t with | nil => simp at hr0 | cons a l => simp at hr0; simp [hr0]
  generalize (t.headD []).length = n0 at *
  simp only [ZZ, YY, Ze, ite_true, ite_false, forall_const, reduceCtorEq, Nat.reduceAdd, Nat.reduceMul, Nat.reduceLeDiff, Nat.reduceLT, Nat.reduceEqDiff, tbE_len]
  refine loop_intro (fun n fr L => ∃ (k : Nat), k ≤ t.length ∧ n = t.length - k ∧ (t.any (badR n0) = (t.drop k).any (badR n0)) ∧ fr = [.p (.sl 1 (tbE t)), .any, .any, .any, .any, .any, .any, .any, .p (.sl 1 (tbE t)), .p (int (t.length : Nat)), .p (int (k : Nat)), .any, .any, .any, .any, .any, .any, .any, .any, .any, .any, .any, .any, .any, .any, .any, .any, .any, .any, .any] ∧ L = []) (t.length) [.p (.sl 1 (tbE t)), .any, .any, .any, .any, .any, .any, .any, .p (.sl 1 (tbE t)), .p (int (t.length : Nat)), .p (int (0 : Nat)), .any, .any, .any, .any, .any, .any, .any, .any, .any, .any, .any, .any, .any, .any, .any, .any, .any, .any, .any] [] (by simp only [ZZ, YY, Ze, ite_true, ite_false, forall_const, reduceCtorEq, Nat.reduceAdd, Nat.reduceMul, Nat.reduceLeDiff, Nat.reduceLT, Nat.reduceEqDiff, tbE_len]; try trivial) (by (simp only [ZZ, YY, Ze, ite_true, ite_false, forall_const, reduceCtorEq, Nat.reduceAdd, Nat.reduceMul, Nat.reduceLeDiff, Nat.reduceLT, Nat.reduceEqDiff]; try trivial)) ⟨0, by omega, by omega, by simp, rfl, rfl⟩ ?_
  rintro n fr L ⟨k, hk, rfl, hf, rfl, rfl⟩
  simp only [ir_produce_rowsError_L0, ZZ, YY, Ze, ite_true, ite_false, forall_const, reduceCtorEq, Nat.reduceAdd, Nat.reduceMul, Nat.reduceLeDiff, Nat.reduceLT, Nat.reduceEqDiff]
  refine br ?_ ?_
  · intro h
    have hlt : k < t.length := by have := of_decide_eq_true h; omega
    obtain ⟨r, hr⟩ : ∃ r, t[k]? = some r := ⟨_, List.getElem?_eq_getElem hlt⟩
    obtain ⟨r0, hr0⟩ : ∃ r0, t[0]? = some r0 := ⟨_, List.getElem?_eq_getElem (by omega)⟩
    have hg := tbE_get hr
    have hg0 : (tbE t).getD (Int.toNat 0) [] = _ := tbE_get hr0
    have hh := hh0 r0 hr0
    subst hh
    rw [drop_cons hr, List.any_cons] at hf
    have hbr := hb r (List.mem_of_getElem? hr)
    have hbr0 := hb r0 (List.mem_of_getElem? hr0)
    simp only [ZZ, YY, Ze, ite_true, ite_false, forall_const, reduceCtorEq, Nat.reduceAdd, Nat.reduceMul, Nat.reduceLeDiff, Nat.reduceLT, Nat.reduceEqDiff, hg, tbE_len, strE_len]
    ((repeat' (with_reducible apply And.intro)) <;> try ((first | first | assumption | trivial | exact (fun hq => by rw [hq]; rfl) | exact i64_of (by omega) (by omega) | omega | (simp; done) | (simp; omega) | (intro hsc; have hs0 := hsc; (try have hsd := of_decide_eq_true hsc); (try simp only [Bool.not_eq_true', Bool.or_eq_false_iff, Bool.and_eq_true, Bool.or_eq_true, decide_eq_true_eq, decide_eq_false_iff_not] at hsc); (repeat' (with_reducible apply And.intro)) <;> (first | assumption | trivial | exact (fun hq => by rw [hq]; rfl) | exact i64_of (by omega) (by omega) | omega | (simp; done) | (simp; omega) | (intro hse; simp [hse, hs0]; done) | (intro hse; simp only [hse, hs0, Bool.true_and, Bool.and_true, Bool.not_false, Bool.not_true, Bool.and_self]; done))))))
    refine use1 (In_ok r.length 1 30) rfl (.inl rfl) ?_
    simp only [ZZ, YY, Ze, ite_true, ite_false, forall_const, reduceCtorEq, Nat.reduceAdd, Nat.reduceMul, Nat.reduceLeDiff, Nat.reduceLT, Nat.reduceEqDiff, hg, hg0, tbE_len, strE_len]
    ((repeat' (with_reducible apply And.intro)) <;> try ((first | first | assumption | trivial | exact (fun hq => by rw [hq]; rfl) | exact i64_of (by omega) (by omega) | omega | (simp; done) | (simp; omega) | (intro hsc; have hs0 := hsc; (try have hsd := of_decide_eq_true hsc); (try simp only [Bool.not_eq_true', Bool.or_eq_false_iff, Bool.and_eq_true, Bool.or_eq_true, decide_eq_true_eq, decide_eq_false_iff_not] at hsc); (repeat' (with_reducible apply And.intro)) <;> (first | assumption | trivial | exact (fun hq => by rw [hq]; rfl) | exact i64_of (by omega) (by omega) | omega | (simp; done) | (simp; omega) | (intro hse; simp [hse, hs0]; done) | (intro hse; simp only [hse, hs0, Bool.true_and, Bool.and_true, Bool.not_false, Bool.not_true, Bool.and_self]; done))))))
    have hc : decide (((r.length : Nat) : Int) = (r0.length : Nat)) = decide (r.length = r0.length) := by
      rw [Bool.eq_iff_iff, decide_eq_true_iff, decide_eq_true_iff]; omega
    refine br ?_ ?_
    · intro hx
      have hx : badR r0.length r = true := by rw [badR, ← hc, hx]; rfl
      simp only [ZZ, YY, Ze, ite_true, ite_false, forall_const, reduceCtorEq, Nat.reduceAdd, Nat.reduceMul, Nat.reduceLeDiff, Nat.reduceLT, Nat.reduceEqDiff]
      rw [hf, hx]
      rfl
    intro hx
    simp only [ZZ, YY, Ze, ite_true, ite_false, forall_const, reduceCtorEq, Nat.reduceAdd, Nat.reduceMul, Nat.reduceLeDiff, Nat.reduceLT, Nat.reduceEqDiff]
    refine use1 (ContainsFuncS_ok r 38 (fun s => !visE s true) (by omega) (fun _ => by kernel_rfl) (fun x hx => rowsError1_ok x (hbr.2 x hx))) rfl (.inl rfl) ?_
    have hbad : badR r0.length r = r.any (fun s => !visE s true) := by rw [badR, ← hc, hx]; rfl
    rw [← hbad]
    refine br ?_ ?_
    · intro hx
      simp only [ZZ, YY, Ze, ite_true, ite_false, forall_const, reduceCtorEq, Nat.reduceAdd, Nat.reduceMul, Nat.reduceLeDiff, Nat.reduceLT, Nat.reduceEqDiff]
      rw [hf, hx]
      rfl
    · intro hx
      rw [hx, Bool.false_or] at hf
      simp only [ZZ, YY, Ze, ite_true, ite_false, forall_const, reduceCtorEq, Nat.reduceAdd, Nat.reduceMul, Nat.reduceLeDiff, Nat.reduceLT, Nat.reduceEqDiff]
      ((repeat' (with_reducible apply And.intro)) <;> try ((first | first | assumption | trivial | exact (fun hq => by rw [hq]; rfl) | exact i64_of (by omega) (by omega) | omega | (simp; done) | (simp; omega) | (intro hsc; have hs0 := hsc; (try have hsd := of_decide_eq_true hsc); (try simp only [Bool.not_eq_true', Bool.or_eq_false_iff, Bool.and_eq_true, Bool.or_eq_true, decide_eq_true_eq, decide_eq_false_iff_not] at hsc); (repeat' (with_reducible apply And.intro)) <;> (first | assumption | trivial | exact (fun hq => by rw [hq]; rfl) | exact i64_of (by omega) (by omega) | omega | (simp; done) | (simp; omega) | (intro hse; simp [hse, hs0]; done) | (intro hse; simp only [hse, hs0, Bool.true_and, Bool.and_true, Bool.not_false, Bool.not_true, Bool.and_self]; done))))))
      refine end_round (t.length - (k + 1)) [.p (.sl 1 (tbE t)), .any, .any, .any, .any, .any, .any, .any, .p (.sl 1 (tbE t)), .p (int (t.length : Nat)), .p (int ((k + 1) : Nat)), .any, .any, .any, .any, .any, .any, .any, .any, .any, .any, .any, .any, .any, .any, .any, .any, .any, .any, .any] [] (by omega) (by (simp only [ZZ, YY, Ze, ite_true, ite_false, forall_const, reduceCtorEq, Nat.reduceAdd, Nat.reduceMul, Nat.reduceLeDiff, Nat.reduceLT, Nat.reduceEqDiff]; try trivial)) (by (simp only [ZZ, YY, Ze, ite_true, ite_false, forall_const, reduceCtorEq, Nat.reduceAdd, Nat.reduceMul, Nat.reduceLeDiff, Nat.reduceLT, Nat.reduceEqDiff]; try trivial)) ⟨k + 1, by omega, rfl, hf, rfl, rfl⟩
  · intro h
    have hge : k = t.length := by have := of_decide_eq_false h; omega
    subst hge
    simp only [ZZ, YY, Ze, ite_true, ite_false, forall_const, reduceCtorEq, Nat.reduceAdd, Nat.reduceMul, Nat.reduceLeDiff, Nat.reduceLT, Nat.reduceEqDiff]
    rw [hf, List.drop_length]
    rfl
theorem LoadFault_ok (t : Tab) (ht : TabB t) : PCall Tryd.prog E0 30 [.sl 1 (tbE t)] (· = int (loadE t)) := by
  obtain ⟨hl, hb⟩ := ht
  refine pcallF mixed Tryd.func30 ck_chaseref1_LoadFault ?_
  simp only [a0, l0, OS.ao, List.map_cons, List.map_nil, List.length_cons, List.length_nil, List.cons_append, List.nil_append, Nat.reduceSub, Nat.reduceAdd, List.replicate_succ, List.replicate_zero, ir_chaseref1_LoadFault, rs_chaseref1_LoadFault, ZZ, YY, Ze, ite_true, ite_false, forall_const, reduceCtorEq, Nat.reduceAdd, Nat.reduceMul, Nat.reduceLeDiff, Nat.reduceLT, Nat.reduceEqDiff]
  simp only [ZZ, YY, Ze, ite_true, ite_false, forall_const, reduceCtorEq, Nat.reduceAdd, Nat.reduceMul, Nat.reduceLeDiff, Nat.reduceLT, Nat.reduceEqDiff, tbE_len]
  refine br ?_ ?_
  · intro h
    have := of_decide_eq_true h
    simp only [ZZ, YY, Ze, ite_true, ite_false, forall_const, reduceCtorEq, Nat.reduceAdd, Nat.reduceMul, Nat.reduceLeDiff, Nat.reduceLT, Nat.reduceEqDiff]
    rw [loadE, if_pos (by omega)]
  intro h
  have h2 : ¬ 2001 < t.length := by have := of_decide_eq_false h; omega
  rw [loadE, if_neg h2]
  have hh0 : ∀ r0, t[0]? = some r0 → (t.headD []).length = r0.length := by
    intro r0 hr0
    cases t with | nil => simp at hr0 | cons a l => simp at hr0; simp [hr0]
  generalize (t.headD []).length = n0 at *
  simp only [ZZ, YY, Ze, ite_true, ite_false, forall_const, reduceCtorEq, Nat.reduceAdd, Nat.reduceMul, Nat.reduceLeDiff, Nat.reduceLT, Nat.reduceEqDiff, tbE_len]
  refine loop_intro (fun n fr L => ∃ (k : Nat), k ≤ t.length ∧ n = t.length - k ∧ (t.any (badR n0) = (t.drop k).any (badR n0)) ∧ fr = [.p (.sl 1 (tbE t)), .any, .any, .any, .any, .any, .any, .any, .p (.sl 1 (tbE t)), .p (int (t.length : Nat)), .p (int (k : Nat)), .any, .any, .any, .any, .any, .any, .any, .any, .any, .any, .any, .any, .any, .any, .any, .any, .any, .any, .any, .any, .any, .any, .any] ∧ L = []) (t.length) [.p (.sl 1 (tbE t)), .any, .any, .any, .any, .any, .any, .any, .p (.sl 1 (tbE t)), .p (int (t.length : Nat)), .p (int (0 : Nat)), .any, .any, .any, .any, .any, .any, .any, .any, .any, .any, .any, .any, .any, .any, .any, .any, .any, .any, .any, .any, .any, .any, .any] [] (by simp only [ZZ, YY, Ze, ite_true, ite_false, forall_const, reduceCtorEq, Nat.reduceAdd, Nat.reduceMul, Nat.reduceLeDiff, Nat.reduceLT, Nat.reduceEqDiff, tbE_len]; try trivial) (by (simp only [ZZ, YY, Ze, ite_true, ite_false, forall_const, reduceCtorEq, Nat.reduceAdd, Nat.reduceMul, Nat.reduceLeDiff, Nat.reduceLT, Nat.reduceEqDiff]; try trivial)) ⟨0, by omega, by omega, by simp, rfl, rfl⟩ ?_
  rintro n fr L ⟨k, hk, rfl, hf, rfl, rfl⟩
  simp only [ir_chaseref1_LoadFault_L0, ZZ, YY, Ze, ite_true, ite_false, forall_const, reduceCtorEq, Nat.reduceAdd, Nat.reduceMul, Nat.reduceLeDiff, Nat.reduceLT, Nat.reduceEqDiff]
  refine br ?_ ?_
  · intro h
    have hlt : k < t.length := by have := of_decide_eq_true h; omega
    obtain ⟨r, hr⟩ : ∃ r, t[k]? = some r := ⟨_, List.getElem?_eq_getElem hlt⟩
    obtain ⟨r0, hr0⟩ : ∃ r0, t[0]? = some r0 := ⟨_, List.getElem?_eq_getElem (by omega)⟩
    have hg := tbE_get hr
    have hg0 : (tbE t).getD (Int.toNat 0) [] = _ := tbE_get hr0
    have hh := hh0 r0 hr0
    subst hh
    rw [drop_cons hr, List.any_cons] at hf
    have hbr := hb r (List.mem_of_getElem? hr)
    have hbr0 := hb r0 (List.mem_of_getElem? hr0)
    simp only [ZZ, YY, Ze, ite_true, ite_false, forall_const, reduceCtorEq, Nat.reduceAdd, Nat.reduceMul, Nat.reduceLeDiff, Nat.reduceLT, Nat.reduceEqDiff, hg, tbE_len, strE_len]
    ((repeat' (with_reducible apply And.intro)) <;> try ((first | first | assumption | trivial | exact (fun hq => by rw [hq]; rfl) | exact i64_of (by omega) (by omega) | omega | (simp; done) | (simp; omega) | (intro hsc; have hs0 := hsc; (try have hsd := of_decide_eq_true hsc); (try simp only [Bool.not_eq_true', Bool.or_eq_false_iff, Bool.and_eq_true, Bool.or_eq_true, decide_eq_true_eq, decide_eq_false_iff_not] at hsc); (repeat' (with_reducible apply And.intro)) <;> (first | assumption | trivial | exact (fun hq => by rw [hq]; rfl) | exact i64_of (by omega) (by omega) | omega | (simp; done) | (simp; omega) | (intro hse; simp [hse, hs0]; done) | (intro hse; simp only [hse, hs0, Bool.true_and, Bool.and_true, Bool.not_false, Bool.not_true, Bool.and_self]; done))))))
    simp only [ZZ, YY, Ze, ite_true, ite_false, forall_const, reduceCtorEq, Nat.reduceAdd, Nat.reduceMul, Nat.reduceLeDiff, Nat.reduceLT, Nat.reduceEqDiff, hg, hg0, tbE_len, strE_len]
    ((repeat' (with_reducible apply And.intro)) <;> try ((first | first | assumption | trivial | exact (fun hq => by rw [hq]; rfl) | exact i64_of (by omega) (by omega) | omega | (simp; done) | (simp; omega) | (intro hsc; have hs0 := hsc; (try have hsd := of_decide_eq_true hsc); (try simp only [Bool.not_eq_true', Bool.or_eq_false_iff, Bool.and_eq_true, Bool.or_eq_true, decide_eq_true_eq, decide_eq_false_iff_not] at hsc); (repeat' (with_reducible apply And.intro)) <;> (first | assumption | trivial | exact (fun hq => by rw [hq]; rfl) | exact i64_of (by omega) (by omega) | omega | (simp; done) | (simp; omega) | (intro hse; simp [hse, hs0]; done) | (intro hse; simp only [hse, hs0, Bool.true_and, Bool.and_true, Bool.not_false, Bool.not_true, Bool.and_self]; done))))))
    have hin : (decide (((r.length : Nat) : Int) = 0) || decide ((30 : Int) < (r.length : Nat))) = !(inE r.length 1 30) := by
      rw [Bool.eq_iff_iff]
      simp only [inE, Bool.or_eq_true, decide_eq_true_eq, Bool.not_eq_true', Bool.and_eq_false_iff, decide_eq_false_iff_not]
      omega
    rw [hin]
    have hc : decide (((r.length : Nat) : Int) = (r0.length : Nat)) = decide (r.length = r0.length) := by
      rw [Bool.eq_iff_iff, decide_eq_true_iff, decide_eq_true_iff]; omega
    refine br ?_ ?_
    · intro hx
      have hx : badR r0.length r = true := by rw [badR, ← hc, hx]; rfl
      simp only [ZZ, YY, Ze, ite_true, ite_false, forall_const, reduceCtorEq, Nat.reduceAdd, Nat.reduceMul, Nat.reduceLeDiff, Nat.reduceLT, Nat.reduceEqDiff]
      rw [hf, hx]
      rfl
    intro hx
    simp only [ZZ, YY, Ze, ite_true, ite_false, forall_const, reduceCtorEq, Nat.reduceAdd, Nat.reduceMul, Nat.reduceLeDiff, Nat.reduceLT, Nat.reduceEqDiff]
    refine use1 (ContainsFuncS_ok r 40 (fun s => !visE s true) (by omega) (fun _ => by kernel_rfl) (fun x hx => LoadFault1_ok x (hbr.2 x hx))) rfl (.inl rfl) ?_
    have hbad : badR r0.length r = r.any (fun s => !visE s true) := by rw [badR, ← hc, hx]; rfl
    rw [← hbad]
    refine br ?_ ?_
    · intro hx
      simp only [ZZ, YY, Ze, ite_true, ite_false, forall_const, reduceCtorEq, Nat.reduceAdd, Nat.reduceMul, Nat.reduceLeDiff, Nat.reduceLT, Nat.reduceEqDiff]
      rw [hf, hx]
      rfl
    · intro hx
      rw [hx, Bool.false_or] at hf
      simp only [ZZ, YY, Ze, ite_true, ite_false, forall_const, reduceCtorEq, Nat.reduceAdd, Nat.reduceMul, Nat.reduceLeDiff, Nat.reduceLT, Nat.reduceEqDiff]
      ((repeat' (with_reducible apply And.intro)) <;> try ((first | first | assumption | trivial | exact (fun hq => by rw [hq]; rfl) | exact i64_of (by omega) (by omega) | omega | (simp; done) | (simp; omega) | (intro hsc; have hs0 := hsc; (try have hsd := of_decide_eq_true hsc); (try simp only [Bool.not_eq_true', Bool.or_eq_false_iff, Bool.and_eq_true, Bool.or_eq_true, decide_eq_true_eq, decide_eq_false_iff_not] at hsc); (repeat' (with_reducible apply And.intro)) <;> (first | assumption | trivial | exact (fun hq => by rw [hq]; rfl) | exact i64_of (by omega) (by omega) | omega | (simp; done) | (simp; omega) | (intro hse; simp [hse, hs0]; done) | (intro hse; simp only [hse, hs0, Bool.true_and, Bool.and_true, Bool.not_false, Bool.not_true, Bool.and_self]; done))))))
      refine end_round (t.length - (k + 1)) [.p (.sl 1 (tbE t)), .any, .any, .any, .any, .any, .any, .any, .p (.sl 1 (tbE t)), .p (int (t.length : Nat)), .p (int ((k + 1) : Nat)), .any, .any, .any, .any, .any, .any, .any, .any, .any, .any, .any, .any, .any, .any, .any, .any, .any, .any, .any, .any, .any, .any, .any] [] (by omega) (by (simp only [ZZ, YY, Ze, ite_true, ite_false, forall_const, reduceCtorEq, Nat.reduceAdd, Nat.reduceMul, Nat.reduceLeDiff, Nat.reduceLT, Nat.reduceEqDiff]; try trivial)) (by (simp only [ZZ, YY, Ze, ite_true, ite_false, forall_const, reduceCtorEq, Nat.reduceAdd, Nat.reduceMul, Nat.reduceLeDiff, Nat.reduceLT, Nat.reduceEqDiff]; try trivial)) ⟨k + 1, by omega, rfl, hf, rfl, rfl⟩
  · intro h
    have hge : k = t.length := by have := of_decide_eq_false h; omega
    subst hge
    simp only [ZZ, YY, Ze, ite_true, ite_false, forall_const, reduceCtorEq, Nat.reduceAdd, Nat.reduceMul, Nat.reduceLeDiff, Nat.reduceLT, Nat.reduceEqDiff]
    rw [hf, List.drop_length]
    rfl
theorem twice_ok {E : Envt} (l : SRow) (hl : l.length ≤ 1000000) : PCall Tryd.prog E 28 [.sl 1 (strE l)] (· = .bool (!decide l.Nodup)) := by
  refine pcallF mixed Tryd.func28 ck_produce_twice ?_
  simp only [a0, l0, OS.ao, List.map_cons, List.map_nil, List.length_cons, List.length_nil, List.cons_append, List.nil_append, Nat.reduceSub, Nat.reduceAdd, List.replicate_succ, List.replicate_zero, ir_produce_twice, rs_produce_twice, ZZ, YY, Ze, ite_true, ite_false, forall_const, reduceCtorEq, Nat.reduceAdd, Nat.reduceMul, Nat.reduceLeDiff, Nat.reduceLT, Nat.reduceEqDiff]
  simp only [ZZ, YY, Ze, ite_true, ite_false, forall_const, reduceCtorEq, Nat.reduceAdd, Nat.reduceMul, Nat.reduceLeDiff, Nat.reduceLT, Nat.reduceEqDiff, strE_len]
  refine loop_intro (fun n fr L => ∃ (k : Nat) (kv : List (List UInt8 × PV)), k ≤ l.length ∧ n = l.length - k ∧ (setOf kv (l.take k)) ∧ ((l.take k).Nodup) ∧ fr = [.any, .any, .any, .mp (.l 6), .any, .any, .any, .p (.sl 1 (strE l)), .p (int (l.length : Nat)), .p (int (k : Nat)), .any, .any, .any, .any, .any, .any, .any, .any, .any] ∧ L = [(.l 6, .map kv 9 4)]) (l.length) [.any, .any, .any, .mp (.l 6), .any, .any, .any, .p (.sl 1 (strE l)), .p (int (l.length : Nat)), .p (int (0 : Nat)), .any, .any, .any, .any, .any, .any, .any, .any, .any] [(.l 6, .map [] 9 4)] (by simp only [ZZ, YY, Ze, ite_true, ite_false, forall_const, reduceCtorEq, Nat.reduceAdd, Nat.reduceMul, Nat.reduceLeDiff, Nat.reduceLT, Nat.reduceEqDiff, strE_len]; try trivial) (by (simp only [ZZ, YY, Ze, ite_true, ite_false, forall_const, reduceCtorEq, Nat.reduceAdd, Nat.reduceMul, Nat.reduceLeDiff, Nat.reduceLT, Nat.reduceEqDiff]; try trivial)) ⟨0, [], by omega, by omega, setOf_nil, by simp, rfl, rfl⟩ ?_
  rintro n fr L ⟨k, kv, hk, rfl, hkv, hnd, rfl, rfl⟩
  simp only [ir_produce_twice_L0, ZZ, YY, Ze, ite_true, ite_false, forall_const, reduceCtorEq, Nat.reduceAdd, Nat.reduceMul, Nat.reduceLeDiff, Nat.reduceLT, Nat.reduceEqDiff]
  refine br ?_ ?_
  · intro h
    have hlt : k < l.length := by have := of_decide_eq_true h; omega
    obtain ⟨x, hx⟩ : ∃ x, l[k]? = some x := ⟨_, List.getElem?_eq_getElem hlt⟩
    have hg := strE_get hx
    have htk : l.take (k + 1) = l.take k ++ [x] := by rw [List.take_add_one, hx]; rfl
    simp only [ZZ, YY, Ze, ite_true, ite_false, forall_const, reduceCtorEq, Nat.reduceAdd, Nat.reduceMul, Nat.reduceLeDiff, Nat.reduceLT, Nat.reduceEqDiff, hg, strE_len]
    ((repeat' (with_reducible apply And.intro)) <;> try ((first | first | assumption | trivial | exact (fun hq => by rw [hq]; rfl) | exact i64_of (by omega) (by omega) | omega | (simp; done) | (simp; omega) | (intro hsc; have hs0 := hsc; (try have hsd := of_decide_eq_true hsc); (try simp only [Bool.not_eq_true', Bool.or_eq_false_iff, Bool.and_eq_true, Bool.or_eq_true, decide_eq_true_eq, decide_eq_false_iff_not] at hsc); (repeat' (with_reducible apply And.intro)) <;> (first | assumption | trivial | exact (fun hq => by rw [hq]; rfl) | exact i64_of (by omega) (by omega) | omega | (simp; done) | (simp; omega) | (intro hse; simp [hse, hs0]; done) | (intro hse; simp only [hse, hs0, Bool.true_and, Bool.and_true, Bool.not_false, Bool.not_true, Bool.and_self]; done))))))
    simp only [ZZ, YY, Ze, ite_true, ite_false, forall_const, reduceCtorEq, Nat.reduceAdd, Nat.reduceMul, Nat.reduceLeDiff, Nat.reduceLT, Nat.reduceEqDiff, hkv x]
    refine br ?_ ?_
    · intro hm
      have hm : x ∈ l.take k := of_decide_eq_true hm
      have hn : ¬ l.Nodup := by
        intro hn
        have h2 : (l.take (k + 1)).Nodup := hn.sublist (List.take_sublist _ _)
        rw [htk, List.nodup_append] at h2
        exact h2.2.2 x hm x (by simp) rfl
      simp only [ZZ, YY, Ze, ite_true, ite_false, forall_const, reduceCtorEq, Nat.reduceAdd, Nat.reduceMul, Nat.reduceLeDiff, Nat.reduceLT, Nat.reduceEqDiff]
      simp [hn]
    · intro hm
      have hm : x ∉ l.take k := of_decide_eq_false hm
      simp only [ZZ, YY, Ze, ite_true, ite_false, forall_const, reduceCtorEq, Nat.reduceAdd, Nat.reduceMul, Nat.reduceLeDiff, Nat.reduceLT, Nat.reduceEqDiff]
      ((repeat' (with_reducible apply And.intro)) <;> try ((first | first | assumption | trivial | exact (fun hq => by rw [hq]; rfl) | exact i64_of (by omega) (by omega) | omega | (simp; done) | (simp; omega) | (intro hsc; have hs0 := hsc; (try have hsd := of_decide_eq_true hsc); (try simp only [Bool.not_eq_true', Bool.or_eq_false_iff, Bool.and_eq_true, Bool.or_eq_true, decide_eq_true_eq, decide_eq_false_iff_not] at hsc); (repeat' (with_reducible apply And.intro)) <;> (first | assumption | trivial | exact (fun hq => by rw [hq]; rfl) | exact i64_of (by omega) (by omega) | omega | (simp; done) | (simp; omega) | (intro hse; simp [hse, hs0]; done) | (intro hse; simp only [hse, hs0, Bool.true_and, Bool.and_true, Bool.not_false, Bool.not_true, Bool.and_self]; done))))))
      refine end_round (l.length - (k + 1)) [.any, .any, .any, .mp (.l 6), .any, .any, .any, .p (.sl 1 (strE l)), .p (int (l.length : Nat)), .p (int ((k + 1) : Nat)), .any, .any, .any, .any, .any, .any, .any, .any, .any] [(.l 6, .map (mpS kv x (.bool true)) 9 4)] (by omega) (by (simp only [ZZ, YY, Ze, ite_true, ite_false, forall_const, reduceCtorEq, Nat.reduceAdd, Nat.reduceMul, Nat.reduceLeDiff, Nat.reduceLT, Nat.reduceEqDiff]; try trivial)) (by (simp only [ZZ, YY, Ze, ite_true, ite_false, forall_const, reduceCtorEq, Nat.reduceAdd, Nat.reduceMul, Nat.reduceLeDiff, Nat.reduceLT, Nat.reduceEqDiff]; try trivial)) ⟨k + 1, mpS kv x (.bool true), by omega, rfl, by rw [htk]; exact setOf_put hkv x, by rw [htk, List.nodup_append]; exact ⟨hnd, by simp, by intro a ha b hb; simp at hb; subst hb; rintro rfl; exact hm ha⟩, rfl, rfl⟩
  · intro h
    have hge : k = l.length := by have := of_decide_eq_false h; omega
    subst hge
    rw [List.take_length] at hnd
    simp only [ZZ, YY, Ze, ite_true, ite_false, forall_const, reduceCtorEq, Nat.reduceAdd, Nat.reduceMul, Nat.reduceLeDiff, Nat.reduceLT, Nat.reduceEqDiff]
    simp [hnd]
end Go.Proofs.YthfpehmbellmcaaDoor

/- slices.Clone, slices.Reverse at the circle's parts. -/
namespace Go.Proofs.YthfpehmbellmcaaDoor
open Go.RowKit
set_option linter.unusedVariables false
set_option linter.unusedSimpArgs false
set_option linter.defProp false

/- slices.Clone[[]string,string] -/
def ir_slices_Clone_string_string : IC :=
  (.seq (.reg [⟨some 2, .nilr 9 1, none⟩])
    (.seq (.seq (.reg [⟨some 3, .mov (.t 0), none⟩,
      ⟨some 4, .isn (.t 3), none⟩])
    (.cond (.t 4) (.seq (.reg [⟨some 2, .nilr 9 1, none⟩])
    .ret) .skip))
    (.seq (.reg [⟨some 5, .bsr 9 1 [], none⟩,
      ⟨some 6, .mov (.t 0), none⟩,
      ⟨some 7, .app 9 1 16 (.t 5) (.t 6), none⟩,
      ⟨some 2, .mov (.t 7), none⟩])
    .ret)))
def rs_slices_Clone_string_string : List IRes := [.t 2]
theorem ck_slices_Clone_string_string : chkF Tryd.prog Tryd.f11 ir_slices_Clone_string_string rs_slices_Clone_string_string 8 = true := by kernel_rfl


section
variable {E : Envt}
abbrev tStrG : Nat := 9
theorem CloneS_ok (es : List (List PV)) (hn : es.length ≤ 1000000) : FCall Tryd.prog E 11 [.sl 1 es] tStrG 1 (· = es) := by
  unfold FCall
  refine gcallR mixed Tryd.func11 ck_slices_Clone_string_string ?_
  simp only [a0, l0, OS.ao, List.map_cons, List.map_nil, List.length_cons, List.length_nil, List.cons_append, List.nil_append, Nat.reduceSub, Nat.reduceAdd, List.replicate_succ, List.replicate_zero, ir_slices_Clone_string_string, rs_slices_Clone_string_string, ZZ, YY, Ze, ite_true, ite_false, forall_const, reduceCtorEq, Nat.reduceAdd, Nat.reduceMul, Nat.reduceLeDiff, Nat.reduceLT, Nat.reduceEqDiff]
  intro b hb
  refine br ?_ ?_
  · intro h
    have := hb h
    simp only [ZZ, YY, Ze, ite_true, ite_false, forall_const, reduceCtorEq, Nat.reduceAdd, Nat.reduceMul, Nat.reduceLeDiff, Nat.reduceLT, Nat.reduceEqDiff]
    exact fin_F 2 [] rfl rfl this.symm
  · intro h
    simp only [ZZ, YY, Ze, ite_true, ite_false, forall_const, reduceCtorEq, Nat.reduceAdd, Nat.reduceMul, Nat.reduceLeDiff, Nat.reduceLT, Nat.reduceEqDiff]
    exact ⟨by omega, fin_F 5 es rfl rfl rfl⟩
end
end Go.Proofs.YthfpehmbellmcaaDoor

/- Keys of tables, and whether strings differ. -/
namespace Go.Proofs.YthfpehmbellmcaaDoor
open Go.RowKit
set_option linter.unusedVariables false
set_option linter.unusedSimpArgs false
set_option linter.defProp false

/- paperchase/chaseref1.sorted -/
def ir_chaseref1_sorted : IC :=
  (.seq (.reg [⟨some 2, .mov (.c (.nl 1)), none⟩])
    (.seq (.reg [⟨some 4, .mov (.t 0), none⟩,
      ⟨some 5, .call 11 [.t 4], none⟩,
      ⟨some 3, .mov (.t 5), none⟩])
    (.seq (.reg [⟨some 6, .mov (.t 3), none⟩,
      ⟨some 7, .call 48 [.t 6], none⟩])
    (.seq (.reg [⟨some 8, .mov (.t 3), none⟩,
      ⟨some 9, .call 49 [.t 8], none⟩,
      ⟨some 2, .mov (.t 9), none⟩])
    .ret))))
def rs_chaseref1_sorted : List IRes := [.t 2]
theorem ck_chaseref1_sorted : chkF Tryd.prog Tryd.f42 ir_chaseref1_sorted rs_chaseref1_sorted 10 = true := by kernel_rfl
/- paperchase/chaseref1.different -/
def ir_chaseref1_different : IC :=
  (.seq (.reg [⟨some 2, .mov (.c (.bool false)), none⟩])
    (.seq (.reg [⟨some 3, .mov (.t 0), none⟩,
      ⟨some 4, .call 42 [.t 3], none⟩,
      ⟨some 5, .len (.t 4), none⟩,
      ⟨some 6, .mov (.t 0), none⟩,
      ⟨some 7, .len (.t 6), none⟩,
      ⟨some 8, .bin .eql (.t 5) (.t 7), none⟩,
      ⟨some 2, .mov (.t 8), none⟩])
    .ret))
def rs_chaseref1_different : List IRes := [.t 2]
theorem ck_chaseref1_different : chkF Tryd.prog Tryd.f31 ir_chaseref1_different rs_chaseref1_different 9 = true := by kernel_rfl

def colF (t : Tab) : SRow := t.map fun r => r.headD []
theorem colF_len (t : Tab) : (colF t).length = t.length := by simp [colF]
/-- All rows but the first. -/
theorem tb_tail (t : Tab) (h : 1 ≤ t.length) : ((tbE t).take t.length).drop (Int.toNat 1) = tbE (t.drop 1) ∧ ((tbE t).take t.length).length - Int.toNat 1 = (t.drop 1).length := by
  have : (tbE t).take t.length = tbE t := List.take_of_length_le (by rw [tbE_len]; exact Nat.le_refl _)
  rw [this, tbE_len]
  exact ⟨tbE_drop t 1, by simp⟩
theorem keys_ok {E : Envt} (t : Tab) (h0 : 1 ≤ t.length) (hl : t.length ≤ 1000000) (hn : ∀ r ∈ t, 1 ≤ r.length) : FCall Tryd.prog E 17 [.sl 1 (tbE t)] tStr 1 (· = strE (colF (t.drop 1))) := by
  unfold FCall
  refine gcallR mixed Tryd.func17 ck_produce_keys ?_
  simp only [a0, l0, OS.ao, List.map_cons, List.map_nil, List.length_cons, List.length_nil, List.cons_append, List.nil_append, Nat.reduceSub, Nat.reduceAdd, List.replicate_succ, List.replicate_zero, ir_produce_keys, rs_produce_keys, ZZ, YY, Ze, ite_true, ite_false, forall_const, reduceCtorEq, Nat.reduceAdd, Nat.reduceMul, Nat.reduceLeDiff, Nat.reduceLT, Nat.reduceEqDiff]
  obtain ⟨e1, e2⟩ := tb_tail t h0
  simp only [ZZ, YY, Ze, ite_true, ite_false, forall_const, reduceCtorEq, Nat.reduceAdd, Nat.reduceMul, Nat.reduceLeDiff, Nat.reduceLT, Nat.reduceEqDiff, tbE_len, e1, e2]
  ((repeat' (with_reducible apply And.intro)) <;> try ((first | first | assumption | trivial | exact (fun hq => by rw [hq]; rfl) | exact i64_of (by omega) (by omega) | omega | (simp; done) | (simp; omega) | (intro hsc; have hs0 := hsc; (try have hsd := of_decide_eq_true hsc); (try simp only [Bool.not_eq_true', Bool.or_eq_false_iff, Bool.and_eq_true, Bool.or_eq_true, decide_eq_true_eq, decide_eq_false_iff_not] at hsc); (repeat' (with_reducible apply And.intro)) <;> (first | assumption | trivial | exact (fun hq => by rw [hq]; rfl) | exact i64_of (by omega) (by omega) | omega | (simp; done) | (simp; omega) | (intro hse; simp [hse, hs0]; done) | (intro hse; simp only [hse, hs0, Bool.true_and, Bool.and_true, Bool.not_false, Bool.not_true, Bool.and_self]; done))))))
  have hl1 : (t.drop 1).length ≤ 1000000 := by simp; omega
  have hn1 : ∀ r ∈ t.drop 1, 1 ≤ r.length := fun r hr => hn r (List.mem_of_mem_drop hr)
  clear e1 e2
  generalize t.drop 1 = u at *
  refine loop_intro (fun n fr L => ∃ (k : Nat), k ≤ u.length ∧ n = u.length - k ∧ fr = [.p (.sl 1 (tbE t)), .any, .any, .row (.l 3), .any, .any, .any, .p (.sl 1 (tbE u)), .p (int (u.length : Nat)), .p (int (k : Nat)), .any, .any, .any, .any, .any, .any, .any, .any, .any, .any, .any] ∧ L = [(.l 3, .row (strE (colF (u.take k))) tStr 1 true)]) (u.length) [.p (.sl 1 (tbE t)), .any, .any, .row (.l 3), .any, .any, .any, .p (.sl 1 (tbE u)), .p (int (u.length : Nat)), .p (int (0 : Nat)), .any, .any, .any, .any, .any, .any, .any, .any, .any, .any, .any] [(.l 3, .row (strE (colF (u.take 0))) tStr 1 true)] (by simp only [ZZ, YY, Ze, ite_true, ite_false, forall_const, reduceCtorEq, Nat.reduceAdd, Nat.reduceMul, Nat.reduceLeDiff, Nat.reduceLT, Nat.reduceEqDiff, tbE_len]; try trivial) (by (simp only [ZZ, YY, Ze, ite_true, ite_false, forall_const, reduceCtorEq, Nat.reduceAdd, Nat.reduceMul, Nat.reduceLeDiff, Nat.reduceLT, Nat.reduceEqDiff]; try trivial)) ⟨0, by omega, by omega, rfl, rfl⟩ ?_
  rintro n fr L ⟨k, hk, rfl, rfl, rfl⟩
  simp only [ir_produce_keys_L0, ZZ, YY, Ze, ite_true, ite_false, forall_const, reduceCtorEq, Nat.reduceAdd, Nat.reduceMul, Nat.reduceLeDiff, Nat.reduceLT, Nat.reduceEqDiff]
  refine br ?_ ?_
  · intro h
    have hlt : k < u.length := by have := of_decide_eq_true h; omega
    obtain ⟨r, hr⟩ : ∃ r, u[k]? = some r := ⟨_, List.getElem?_eq_getElem hlt⟩
    have hg := tbE_get hr
    have hr1 := hn1 r (List.mem_of_getElem? hr)
    obtain ⟨x, hx⟩ : ∃ x, r[0]? = some x := ⟨_, List.getElem?_eq_getElem (by omega)⟩
    have hgx : (strE r).getD (Int.toNat 0) [] = [.str x] := strE_get hx
    have hhx : r.headD [] = x := by cases r with | nil => simp at hx | cons a l => simpa using hx
    have hq : strE (colF (u.take k)) ++ [[PV.str x]] = strE (colF (u.take (k + 1))) := by rw [List.take_add_one, hr, colF, colF, List.map_append, strE_app, ← hhx]; rfl
    have hql : (colF (u.take k)).length = k := by rw [colF_len, List.length_take]; omega
    simp only [ZZ, YY, Ze, ite_true, ite_false, forall_const, reduceCtorEq, Nat.reduceAdd, Nat.reduceMul, Nat.reduceLeDiff, Nat.reduceLT, Nat.reduceEqDiff, hg, hgx, tbE_len, strE_len, hql]
    ((repeat' (with_reducible apply And.intro)) <;> try ((first | first | assumption | trivial | exact (fun hq => by rw [hq]; rfl) | exact i64_of (by omega) (by omega) | omega | (simp; done) | (simp; omega) | (intro hsc; have hs0 := hsc; (try have hsd := of_decide_eq_true hsc); (try simp only [Bool.not_eq_true', Bool.or_eq_false_iff, Bool.and_eq_true, Bool.or_eq_true, decide_eq_true_eq, decide_eq_false_iff_not] at hsc); (repeat' (with_reducible apply And.intro)) <;> (first | assumption | trivial | exact (fun hq => by rw [hq]; rfl) | exact i64_of (by omega) (by omega) | omega | (simp; done) | (simp; omega) | (intro hse; simp [hse, hs0]; done) | (intro hse; simp only [hse, hs0, Bool.true_and, Bool.and_true, Bool.not_false, Bool.not_true, Bool.and_self]; done))))))
    rw [hq]
    refine end_round (u.length - (k + 1)) [.p (.sl 1 (tbE t)), .any, .any, .row (.l 3), .any, .any, .any, .p (.sl 1 (tbE u)), .p (int (u.length : Nat)), .p (int ((k + 1) : Nat)), .any, .any, .any, .any, .any, .any, .any, .any, .any, .any, .any] [(.l 3, .row (strE (colF (u.take (k + 1)))) tStr 1 true)] (by omega) (by (simp only [ZZ, YY, Ze, ite_true, ite_false, forall_const, reduceCtorEq, Nat.reduceAdd, Nat.reduceMul, Nat.reduceLeDiff, Nat.reduceLT, Nat.reduceEqDiff]; try trivial)) (by (simp only [ZZ, YY, Ze, ite_true, ite_false, forall_const, reduceCtorEq, Nat.reduceAdd, Nat.reduceMul, Nat.reduceLeDiff, Nat.reduceLT, Nat.reduceEqDiff]; try trivial)) ⟨k + 1, by omega, rfl, rfl, rfl⟩
  · intro h
    have hge : k = u.length := by have := of_decide_eq_false h; omega
    subst hge
    simp only [ZZ, YY, Ze, ite_true, ite_false, forall_const, reduceCtorEq, Nat.reduceAdd, Nat.reduceMul, Nat.reduceLeDiff, Nat.reduceLT, Nat.reduceEqDiff]
    refine fin_F 3 _ rfl rfl ?_
    rw [List.take_length]
theorem column_ok {E : Envt} (t : Tab) (hl : t.length ≤ 1000000) (hn : ∀ r ∈ t, 1 ≤ r.length) : FCall Tryd.prog E 32 [.sl 1 (tbE t), int 0] tStr 1 (· = strE (colF t)) := by
  unfold FCall
  refine gcallR mixed Tryd.func32 ck_chaseref1_column ?_
  simp only [a0, l0, OS.ao, List.map_cons, List.map_nil, List.length_cons, List.length_nil, List.cons_append, List.nil_append, Nat.reduceSub, Nat.reduceAdd, List.replicate_succ, List.replicate_zero, ir_chaseref1_column, rs_chaseref1_column, ZZ, YY, Ze, ite_true, ite_false, forall_const, reduceCtorEq, Nat.reduceAdd, Nat.reduceMul, Nat.reduceLeDiff, Nat.reduceLT, Nat.reduceEqDiff]
  simp only [ZZ, YY, Ze, ite_true, ite_false, forall_const, reduceCtorEq, Nat.reduceAdd, Nat.reduceMul, Nat.reduceLeDiff, Nat.reduceLT, Nat.reduceEqDiff, tbE_len]
  refine loop_intro (fun n fr L => ∃ (k : Nat), k ≤ t.length ∧ n = t.length - k ∧ fr = [.p (.sl 1 (tbE t)), .p (int 0), .any, .any, .any, .row (.l 5), .any, .any, .p (.sl 1 (tbE t)), .p (int (t.length : Nat)), .p (int (k : Nat)), .any, .any, .any, .any, .any, .any, .any, .any, .any, .any, .any, .any] ∧ L = [(.l 5, .row (strE (colF (t.take k))) tStr 1 true)]) (t.length) [.p (.sl 1 (tbE t)), .p (int 0), .any, .any, .any, .row (.l 5), .any, .any, .p (.sl 1 (tbE t)), .p (int (t.length : Nat)), .p (int (0 : Nat)), .any, .any, .any, .any, .any, .any, .any, .any, .any, .any, .any, .any] [(.l 5, .row (strE (colF (t.take 0))) tStr 1 true)] (by simp only [ZZ, YY, Ze, ite_true, ite_false, forall_const, reduceCtorEq, Nat.reduceAdd, Nat.reduceMul, Nat.reduceLeDiff, Nat.reduceLT, Nat.reduceEqDiff, tbE_len]; try trivial) (by (simp only [ZZ, YY, Ze, ite_true, ite_false, forall_const, reduceCtorEq, Nat.reduceAdd, Nat.reduceMul, Nat.reduceLeDiff, Nat.reduceLT, Nat.reduceEqDiff]; try trivial)) ⟨0, by omega, by omega, rfl, rfl⟩ ?_
  rintro n fr L ⟨k, hk, rfl, rfl, rfl⟩
  simp only [ir_chaseref1_column_L0, ZZ, YY, Ze, ite_true, ite_false, forall_const, reduceCtorEq, Nat.reduceAdd, Nat.reduceMul, Nat.reduceLeDiff, Nat.reduceLT, Nat.reduceEqDiff]
  refine br ?_ ?_
  · intro h
    have hlt : k < t.length := by have := of_decide_eq_true h; omega
    obtain ⟨r, hr⟩ : ∃ r, t[k]? = some r := ⟨_, List.getElem?_eq_getElem hlt⟩
    have hg := tbE_get hr
    have hr1 := hn r (List.mem_of_getElem? hr)
    obtain ⟨x, hx⟩ : ∃ x, r[0]? = some x := ⟨_, List.getElem?_eq_getElem (by omega)⟩
    have hgx : (strE r).getD (Int.toNat 0) [] = [.str x] := strE_get hx
    have hhx : r.headD [] = x := by cases r with | nil => simp at hx | cons a l => simpa using hx
    have hq : strE (colF (t.take k)) ++ [[PV.str x]] = strE (colF (t.take (k + 1))) := by rw [List.take_add_one, hr, colF, colF, List.map_append, strE_app, ← hhx]; rfl
    have hql : (colF (t.take k)).length = k := by rw [colF_len, List.length_take]; omega
    simp only [ZZ, YY, Ze, ite_true, ite_false, forall_const, reduceCtorEq, Nat.reduceAdd, Nat.reduceMul, Nat.reduceLeDiff, Nat.reduceLT, Nat.reduceEqDiff, hg, hgx, tbE_len, strE_len, hql]
    ((repeat' (with_reducible apply And.intro)) <;> try ((first | first | assumption | trivial | exact (fun hq => by rw [hq]; rfl) | exact i64_of (by omega) (by omega) | omega | (simp; done) | (simp; omega) | (intro hsc; have hs0 := hsc; (try have hsd := of_decide_eq_true hsc); (try simp only [Bool.not_eq_true', Bool.or_eq_false_iff, Bool.and_eq_true, Bool.or_eq_true, decide_eq_true_eq, decide_eq_false_iff_not] at hsc); (repeat' (with_reducible apply And.intro)) <;> (first | assumption | trivial | exact (fun hq => by rw [hq]; rfl) | exact i64_of (by omega) (by omega) | omega | (simp; done) | (simp; omega) | (intro hse; simp [hse, hs0]; done) | (intro hse; simp only [hse, hs0, Bool.true_and, Bool.and_true, Bool.not_false, Bool.not_true, Bool.and_self]; done))))))
    rw [hq]
    refine end_round (t.length - (k + 1)) [.p (.sl 1 (tbE t)), .p (int 0), .any, .any, .any, .row (.l 5), .any, .any, .p (.sl 1 (tbE t)), .p (int (t.length : Nat)), .p (int ((k + 1) : Nat)), .any, .any, .any, .any, .any, .any, .any, .any, .any, .any, .any, .any] [(.l 5, .row (strE (colF (t.take (k + 1)))) tStr 1 true)] (by omega) (by (simp only [ZZ, YY, Ze, ite_true, ite_false, forall_const, reduceCtorEq, Nat.reduceAdd, Nat.reduceMul, Nat.reduceLeDiff, Nat.reduceLT, Nat.reduceEqDiff]; try trivial)) (by (simp only [ZZ, YY, Ze, ite_true, ite_false, forall_const, reduceCtorEq, Nat.reduceAdd, Nat.reduceMul, Nat.reduceLeDiff, Nat.reduceLT, Nat.reduceEqDiff]; try trivial)) ⟨k + 1, by omega, rfl, rfl, rfl⟩
  · intro h
    have hge : k = t.length := by have := of_decide_eq_false h; omega
    subst hge
    simp only [ZZ, YY, Ze, ite_true, ite_false, forall_const, reduceCtorEq, Nat.reduceAdd, Nat.reduceMul, Nat.reduceLeDiff, Nat.reduceLT, Nat.reduceEqDiff]
    refine fin_F 5 _ rfl rfl ?_
    rw [List.take_length]
def sortF (l : SRow) : SRow := Lib.compact (l.mergeSort fun x y => decide (x ≤ y))
theorem sorted_ok {E : Envt} (l : SRow) (hl : l.length ≤ 1000000) : PCall Tryd.prog E 42 [.sl 1 (strE l)] (· = .sl 1 (strE (sortF l))) := by
  refine pcallF mixed Tryd.func42 ck_chaseref1_sorted ?_
  simp only [a0, l0, OS.ao, List.map_cons, List.map_nil, List.length_cons, List.length_nil, List.cons_append, List.nil_append, Nat.reduceSub, Nat.reduceAdd, List.replicate_succ, List.replicate_zero, ir_chaseref1_sorted, rs_chaseref1_sorted, ZZ, YY, Ze, ite_true, ite_false, forall_const, reduceCtorEq, Nat.reduceAdd, Nat.reduceMul, Nat.reduceLeDiff, Nat.reduceLT, Nat.reduceEqDiff]
  refine useF (CloneS_ok (strE l) (by rw [strE_len]; omega)) rfl rfl ?_
  rintro es rfl
  simp only [ZZ, YY, Ze, ite_true, ite_false, forall_const, reduceCtorEq, Nat.reduceAdd, Nat.reduceMul, Nat.reduceLeDiff, Nat.reduceLT, Nat.reduceEqDiff]
  refine useR (sortS_row tStr l (by omega)) rfl rfl rfl (by simp only [ZZ, YY, Ze, ite_true, ite_false, forall_const, reduceCtorEq, Nat.reduceAdd, Nat.reduceMul, Nat.reduceLeDiff, Nat.reduceLT, Nat.reduceEqDiff]) ?_
  rintro x es ⟨rfl, rfl⟩
  simp only [ZZ, YY, Ze, ite_true, ite_false, forall_const, reduceCtorEq, Nat.reduceAdd, Nat.reduceMul, Nat.reduceLeDiff, Nat.reduceLT, Nat.reduceEqDiff]
  refine useComp 1000 (l.mergeSort fun x y => decide (x ≤ y)) (by rw [List.length_mergeSort]; omega) rfl ?_
  simp only [ZZ, YY, Ze, ite_true, ite_false, forall_const, reduceCtorEq, Nat.reduceAdd, Nat.reduceMul, Nat.reduceLeDiff, Nat.reduceLT, Nat.reduceEqDiff]
  rfl
theorem le_trS {a b c : List UInt8} (h1 : a ≤ b) (h2 : b ≤ c) : a ≤ c := List.le_trans h1 h2
theorem le_asS {a b : List UInt8} (h1 : a ≤ b) (h2 : b ≤ a) : a = b := List.le_antisymm h1 h2
theorem srt_pw (l : SRow) : (l.mergeSort fun x y => decide (x ≤ y)).Pairwise (fun x y => x ≤ y) := by
  have := List.pairwise_mergeSort (le := fun x y : List UInt8 => decide (x ≤ y)) (fun a b c h1 h2 => by simp only [decide_eq_true_eq] at *; exact le_trS h1 h2) (fun a b => by simp only [Bool.or_eq_true, decide_eq_true_eq]; exact List.le_total a b) l
  exact this.imp fun h => of_decide_eq_true h
theorem comp_len {m : SRow} (hp : m.Pairwise (fun x y => x ≤ y)) : (Lib.compact m).length = m.length ↔ m.Nodup := by
  have h1 : (Lib.compact m).length = m.length ↔ ∀ j, j < m.length → Lib.keeps m.toArray j = true := by
    unfold Lib.compact Lib.compactUpTo
    rw [List.length_map]
    have := List.length_filter_eq_length_iff (l := List.range m.length) (p := Lib.keeps m.toArray)
    rw [List.length_range] at this
    rw [this]
    simp
  rw [h1]
  have hk : ∀ j (hj : j < m.length), Lib.keeps m.toArray j = true ↔ j = 0 ∨ m[j] ≠ m[j - 1]'(by omega) := by
    intro j hj
    unfold Lib.keeps
    rw [decide_eq_true_iff, getElem!_pos m.toArray j (by simpa using hj), getElem!_pos m.toArray (j - 1) (by simp; omega)]
    simp
  constructor
  · intro h
    rw [List.nodup_iff_pairwise_ne] at *
    rw [List.pairwise_iff_getElem] at *
    intro i j hi hj hij e
    have h2 := ((hk j hj).1 (h j hj)).resolve_left (by omega)
    rcases Nat.lt_or_ge i (j - 1) with h3 | h3
    · have a1 := hp i (j - 1) hi (by omega) h3
      have a2 := hp (j - 1) j (by omega) hj (by omega)
      rw [← e] at a2
      exact h2 (e ▸ (le_asS a1 a2))
    · have : i = j - 1 := by omega
      subst this
      exact h2 e.symm
  · intro h j hj
    rw [hk j hj]
    rcases Nat.eq_zero_or_pos j with h0 | h0
    · exact .inl h0
    · refine .inr fun e => ?_
      rw [List.nodup_iff_pairwise_ne] at h
      exact List.pairwise_iff_getElem.1 h (j - 1) j (by omega) hj (by omega) e.symm
theorem sortF_len (l : SRow) : (sortF l).length = l.length ↔ l.Nodup := by
  have h1 : (l.mergeSort fun x y => decide (x ≤ y)).length = l.length := List.length_mergeSort _
  have h2 := comp_len (srt_pw l)
  rw [h1] at h2
  exact h2.trans (List.mergeSort_perm l _).nodup_iff
theorem different_ok {E : Envt} (l : SRow) (hl : l.length ≤ 1000000) : PCall Tryd.prog E 31 [.sl 1 (strE l)] (· = .bool (decide l.Nodup)) := by
  refine pcallF mixed Tryd.func31 ck_chaseref1_different ?_
  simp only [a0, l0, OS.ao, List.map_cons, List.map_nil, List.length_cons, List.length_nil, List.cons_append, List.nil_append, Nat.reduceSub, Nat.reduceAdd, List.replicate_succ, List.replicate_zero, ir_chaseref1_different, rs_chaseref1_different, ZZ, YY, Ze, ite_true, ite_false, forall_const, reduceCtorEq, Nat.reduceAdd, Nat.reduceMul, Nat.reduceLeDiff, Nat.reduceLT, Nat.reduceEqDiff]
  refine use1 (sorted_ok l hl) rfl (.inl rfl) ?_
  simp only [ZZ, YY, Ze, ite_true, ite_false, forall_const, reduceCtorEq, Nat.reduceAdd, Nat.reduceMul, Nat.reduceLeDiff, Nat.reduceLT, Nat.reduceEqDiff, strE_len]
  congr 1
  rw [Bool.eq_iff_iff, decide_eq_true_iff, decide_eq_true_iff, ← sortF_len]
  omega
end Go.Proofs.YthfpehmbellmcaaDoor

/- slices.Index and Contains at strings. -/
namespace Go.Proofs.YthfpehmbellmcaaDoor
open Go.RowKit
set_option linter.unusedVariables false
set_option linter.unusedSimpArgs false
set_option linter.defProp false

/- slices.Index[[]string,string] -/
def ir_slices_Index_string_string_L0 : IC :=
  (.seq (.reg [⟨some 9, .bin .lss (.t 8) (.t 7), none⟩])
    (.seq (.cond (.t 9) .skip (.exit 0))
    (.seq (.block 1 (.seq (.reg [⟨some 10, .mov (.t 8), none⟩,
      ⟨some 5, .mov (.t 10), none⟩])
    (.seq (.reg [⟨some 11, .mov (.t 1), none⟩,
      ⟨some 12, .mov (.t 0), none⟩,
      ⟨some 13, .mov (.t 5), none⟩,
      ⟨some 14, .ixa 1 (.t 12) (.t 13), none⟩,
      ⟨some 15, .ld 1 false (.t 14), none⟩,
      ⟨some 16, .bin .eql (.t 11) (.t 15), none⟩])
    (.cond (.t 16) (.seq (.reg [⟨some 17, .mov (.t 5), none⟩,
      ⟨some 4, .mov (.t 17), none⟩])
    .ret) .skip))))
    (.reg [⟨some 18, .bin .add (.t 8) (.c (.int .i64 1)), none⟩,
      ⟨some 8, .mov (.t 18), none⟩]))))
def ir_slices_Index_string_string : IC :=
  (.seq (.reg [⟨some 4, .mov (.c (.int .i64 0)), none⟩])
    (.seq (.seq (.reg [⟨some 6, .mov (.t 0), none⟩,
      ⟨some 7, .len (.t 6), none⟩,
      ⟨some 8, .mov (.c (.int .i64 0)), none⟩])
    (.block 0 (.loop ir_slices_Index_string_string_L0)))
    (.seq (.reg [⟨some 4, .mov (.c (.int .i64 (-1))), none⟩])
    .ret)))
def rs_slices_Index_string_string : List IRes := [.t 4]
theorem ck_slices_Index_string_string : chkF Tryd.prog Tryd.f18 ir_slices_Index_string_string rs_slices_Index_string_string 19 = true := by kernel_rfl

/- slices.Contains[[]string,string] -/
def ir_slices_Contains_string_string : IC :=
  (.seq (.reg [⟨some 4, .mov (.c (.bool false)), none⟩])
    (.seq (.reg [⟨some 5, .mov (.t 0), none⟩,
      ⟨some 6, .mov (.t 1), none⟩,
      ⟨some 7, .call 18 [.t 5, .t 6], none⟩,
      ⟨some 8, .bin .geq (.t 7) (.c (.int .i64 0)), none⟩,
      ⟨some 4, .mov (.t 8), none⟩])
    .ret))
def rs_slices_Contains_string_string : List IRes := [.t 4]
theorem ck_slices_Contains_string_string : chkF Tryd.prog Tryd.f20 ir_slices_Contains_string_string rs_slices_Contains_string_string 9 = true := by kernel_rfl

def idxS (l : List (List UInt8)) (x : List UInt8) (k : Nat) : Int := if h : k < l.length then (if x = l[k] then k else idxS l x (k + 1)) else -1
termination_by l.length - k
theorem IndexS_ok (l : List (List UInt8)) (x : List UInt8) (hl : l.length ≤ 1000000000) : PCall Tryd.prog E0 18 [.sl 1 (strE l), .str x] (· = int (idxS l x 0)) := by
  refine pcallF mixed Tryd.func18 ck_slices_Index_string_string ?_
  simp only [a0, l0, OS.ao, List.map_cons, List.map_nil, List.length_cons, List.length_nil, List.cons_append, List.nil_append, Nat.reduceSub, Nat.reduceAdd, List.replicate_succ, List.replicate_zero, ir_slices_Index_string_string, rs_slices_Index_string_string, ZZ, YY, Ze, ite_true, ite_false, forall_const, reduceCtorEq, Nat.reduceAdd, Nat.reduceMul, Nat.reduceLeDiff, Nat.reduceLT, Nat.reduceEqDiff]
  simp only [ZZ, YY, Ze, ite_true, ite_false, forall_const, reduceCtorEq, Nat.reduceAdd, Nat.reduceMul, Nat.reduceLeDiff, Nat.reduceLT, Nat.reduceEqDiff, strE_len]
  refine loop_intro (fun n fr L => ∃ (k : Nat), k ≤ l.length ∧ n = l.length - k ∧ (idxS l x 0 = idxS l x k) ∧ fr = [.p (.sl 1 (strE l)), .p (.str x), .any, .any, .any, .any, .any, .p (int (l.length : Nat)), .p (int (k : Nat)), .any, .any, .any, .any, .any, .any, .any, .any, .any, .any] ∧ L = []) (l.length) [.p (.sl 1 (strE l)), .p (.str x), .any, .any, .any, .any, .any, .p (int (l.length : Nat)), .p (int (0 : Nat)), .any, .any, .any, .any, .any, .any, .any, .any, .any, .any] [] (by simp only [ZZ, YY, Ze, ite_true, ite_false, forall_const, reduceCtorEq, Nat.reduceAdd, Nat.reduceMul, Nat.reduceLeDiff, Nat.reduceLT, Nat.reduceEqDiff, strE_len]; try trivial) (by (simp only [ZZ, YY, Ze, ite_true, ite_false, forall_const, reduceCtorEq, Nat.reduceAdd, Nat.reduceMul, Nat.reduceLeDiff, Nat.reduceLT, Nat.reduceEqDiff]; try trivial)) ⟨0, by omega, by omega, rfl, rfl, rfl⟩ ?_
  rintro n fr L ⟨k, hk, rfl, hf, rfl, rfl⟩
  simp only [ir_slices_Index_string_string_L0, ZZ, YY, Ze, ite_true, ite_false, forall_const, reduceCtorEq, Nat.reduceAdd, Nat.reduceMul, Nat.reduceLeDiff, Nat.reduceLT, Nat.reduceEqDiff]
  refine br ?_ ?_
  · intro h
    have hlt : k < l.length := by have := of_decide_eq_true h; omega
    have hg := strE_get (List.getElem?_eq_getElem hlt)
    simp only [ZZ, YY, Ze, ite_true, ite_false, forall_const, reduceCtorEq, Nat.reduceAdd, Nat.reduceMul, Nat.reduceLeDiff, Nat.reduceLT, Nat.reduceEqDiff, hg, strE_len]
    ((repeat' (with_reducible apply And.intro)) <;> try ((first | first | assumption | trivial | exact (fun hq => by rw [hq]; rfl) | exact i64_of (by omega) (by omega) | omega | (simp; done) | (simp; omega) | (intro hsc; have hs0 := hsc; (try have hsd := of_decide_eq_true hsc); (try simp only [Bool.not_eq_true', Bool.or_eq_false_iff, Bool.and_eq_true, Bool.or_eq_true, decide_eq_true_eq, decide_eq_false_iff_not] at hsc); (repeat' (with_reducible apply And.intro)) <;> (first | assumption | trivial | exact (fun hq => by rw [hq]; rfl) | exact i64_of (by omega) (by omega) | omega | (simp; done) | (simp; omega) | (intro hse; simp [hse, hs0]; done) | (intro hse; simp only [hse, hs0, Bool.true_and, Bool.and_true, Bool.not_false, Bool.not_true, Bool.and_self]; done))))))
    refine br ?_ ?_
    · intro h2
      have h2 : x = l[k] := of_decide_eq_true h2
      simp only [ZZ, YY, Ze, ite_true, ite_false, forall_const, reduceCtorEq, Nat.reduceAdd, Nat.reduceMul, Nat.reduceLeDiff, Nat.reduceLT, Nat.reduceEqDiff]
      rw [hf, idxS, dif_pos hlt, if_pos h2]
    · intro h2
      have h2 : ¬ x = l[k] := of_decide_eq_false h2
      simp only [ZZ, YY, Ze, ite_true, ite_false, forall_const, reduceCtorEq, Nat.reduceAdd, Nat.reduceMul, Nat.reduceLeDiff, Nat.reduceLT, Nat.reduceEqDiff]
      ((repeat' (with_reducible apply And.intro)) <;> try ((first | first | assumption | trivial | exact (fun hq => by rw [hq]; rfl) | exact i64_of (by omega) (by omega) | omega | (simp; done) | (simp; omega) | (intro hsc; have hs0 := hsc; (try have hsd := of_decide_eq_true hsc); (try simp only [Bool.not_eq_true', Bool.or_eq_false_iff, Bool.and_eq_true, Bool.or_eq_true, decide_eq_true_eq, decide_eq_false_iff_not] at hsc); (repeat' (with_reducible apply And.intro)) <;> (first | assumption | trivial | exact (fun hq => by rw [hq]; rfl) | exact i64_of (by omega) (by omega) | omega | (simp; done) | (simp; omega) | (intro hse; simp [hse, hs0]; done) | (intro hse; simp only [hse, hs0, Bool.true_and, Bool.and_true, Bool.not_false, Bool.not_true, Bool.and_self]; done))))))
      refine end_round (l.length - (k + 1)) [.p (.sl 1 (strE l)), .p (.str x), .any, .any, .any, .any, .any, .p (int (l.length : Nat)), .p (int ((k + 1) : Nat)), .any, .any, .any, .any, .any, .any, .any, .any, .any, .any] [] (by omega) (by (simp only [ZZ, YY, Ze, ite_true, ite_false, forall_const, reduceCtorEq, Nat.reduceAdd, Nat.reduceMul, Nat.reduceLeDiff, Nat.reduceLT, Nat.reduceEqDiff]; try trivial)) (by (simp only [ZZ, YY, Ze, ite_true, ite_false, forall_const, reduceCtorEq, Nat.reduceAdd, Nat.reduceMul, Nat.reduceLeDiff, Nat.reduceLT, Nat.reduceEqDiff]; try trivial)) ⟨k + 1, by omega, rfl, by rw [hf, idxS, dif_pos hlt, if_neg h2], rfl, rfl⟩
  · intro h
    have hge : ¬ k < l.length := by have := of_decide_eq_false h; omega
    simp only [ZZ, YY, Ze, ite_true, ite_false, forall_const, reduceCtorEq, Nat.reduceAdd, Nat.reduceMul, Nat.reduceLeDiff, Nat.reduceLT, Nat.reduceEqDiff]
    rw [hf, idxS, dif_neg hge]
theorem idxS_mem (l : List (List UInt8)) (x : List UInt8) : ∀ (n k : Nat), l.length - k ≤ n → (0 ≤ idxS l x k ↔ x ∈ l.drop k) := by
  intro n
  induction n with
  | zero =>
    intro k hk
    rw [idxS, dif_neg (by omega), List.drop_eq_nil_of_le (by omega)]
    simp
  | succ n ih =>
    intro k hk
    rw [idxS]
    split
    · rename_i h
      rw [List.drop_eq_getElem_cons h, List.mem_cons]
      split
      · rename_i e; simp [e]
      · rename_i e
        rw [ih (k + 1) (by omega)]
        simp [e]
    · rename_i h
      rw [List.drop_eq_nil_of_le (by omega)]
      simp
theorem ContainsS_ok (l : List (List UInt8)) (x : List UInt8) (hl : l.length ≤ 1000000000) : PCall Tryd.prog E0 20 [.sl 1 (strE l), .str x] (· = .bool (decide (x ∈ l))) := by
  refine pcallF mixed Tryd.func20 ck_slices_Contains_string_string ?_
  simp only [a0, l0, OS.ao, List.map_cons, List.map_nil, List.length_cons, List.length_nil, List.cons_append, List.nil_append, Nat.reduceSub, Nat.reduceAdd, List.replicate_succ, List.replicate_zero, ir_slices_Contains_string_string, rs_slices_Contains_string_string, ZZ, YY, Ze, ite_true, ite_false, forall_const, reduceCtorEq, Nat.reduceAdd, Nat.reduceMul, Nat.reduceLeDiff, Nat.reduceLT, Nat.reduceEqDiff]
  refine use1 (IndexS_ok l x hl) rfl (.inl rfl) ?_
  simp only [ZZ, YY, Ze, ite_true, ite_false, forall_const, reduceCtorEq, Nat.reduceAdd, Nat.reduceMul, Nat.reduceLeDiff, Nat.reduceLT, Nat.reduceEqDiff]
  have := idxS_mem l x _ 0 (Nat.le_refl _)
  rw [List.drop_zero] at this
  simp only [this]
theorem idxS_of (l : List (List UInt8)) (x : List UInt8) : ∀ (n k : Nat), l.length - k ≤ n → k ≤ l.length → idxS l x k = if ixO x (l.drop k) < (l.drop k).length then (k : Int) + (ixO x (l.drop k) : Nat) else -1 := by
  intro n
  induction n with
  | zero =>
    intro k hk hkl
    rw [idxS, dif_neg (by omega), if_neg (by simp; omega)]
  | succ n ih =>
    intro k hk hkl
    rw [idxS]
    split
    · rename_i h
      rw [List.drop_eq_getElem_cons h, ixO]
      by_cases e : x = l[k]
      · rw [if_pos e, if_pos e, if_pos (show 0 < (l[k] :: List.drop (k + 1) l).length from Nat.succ_pos _)]; simp
      · rw [if_neg e, if_neg e, ih (k + 1) (by omega) (by omega)]
        simp only [List.length_cons, Nat.add_lt_add_iff_right]
        split
        · omega
        · rfl
    · rename_i h
      rw [if_neg (by simp; omega)]
theorem idxS_at (l : List (List UInt8)) (x : List UInt8) : idxS l x 0 = if ixO x l < l.length then ((ixO x l : Nat) : Int) else -1 := by
  have := idxS_of l x _ 0 (Nat.le_refl _) (Nat.zero_le _)
  rw [List.drop_zero] at this
  rw [this]
  split <;> simp
end Go.Proofs.YthfpehmbellmcaaDoor

/- The errors of two tables, on both sides. -/
namespace Go.Proofs.YthfpehmbellmcaaDoor
open Go.RowKit
set_option linter.unusedVariables false
set_option linter.unusedSimpArgs false
set_option linter.defProp false

/- paperchase/produce.overlayError -/
def ir_produce_overlayError_L0 : IC :=
  (.seq (.reg [⟨some 31, .bin .lss (.t 30) (.t 29), none⟩])
    (.seq (.cond (.t 31) .skip (.exit 0))
    (.seq (.block 1 (.seq (.reg [⟨some 32, .ixa 1 (.t 28) (.t 30), none⟩,
      ⟨some 33, .ld 1 false (.t 32), none⟩,
      ⟨some 7, .mov (.t 33), none⟩])
    (.seq (.reg [⟨some 34, .mov (.t 7), none⟩,
      ⟨some 35, .ixa 1 (.t 34) (.c (.int .i64 0)), none⟩,
      ⟨some 36, .ld 1 false (.t 35), none⟩,
      ⟨some 37, .call 28 [.t 36], none⟩,
      ⟨some 38, .mov (.t 37), none⟩,
      ⟨some 39, .mov (.t 7), (some (38, false))⟩,
      ⟨some 40, .call 17 [.t 39], (some (38, false))⟩,
      ⟨some 41, .call 28 [.t 40], (some (38, false))⟩,
      ⟨some 42, .pick (.t 38) (.c (.bool true)) (.t 41), none⟩])
    (.cond (.t 42) (.seq (.reg [⟨some 4, .mov (.c (.int .i64 6)), none⟩])
    .ret) .skip))))
    (.reg [⟨some 43, .bin .add (.t 30) (.c (.int .i64 1)), none⟩,
      ⟨some 30, .mov (.t 43), none⟩]))))
def ir_produce_overlayError : IC :=
  (.seq (.reg [⟨some 4, .mov (.c (.int .i64 0)), none⟩])
    (.seq (.seq (.reg [⟨some 8, .mov (.t 0), none⟩,
      ⟨some 9, .call 26 [.t 8], none⟩,
      ⟨some 10, .mov (.t 1), none⟩,
      ⟨some 11, .call 26 [.t 10], none⟩,
      ⟨some 12, .mov (.t 0), none⟩,
      ⟨some 13, .len (.t 12), none⟩,
      ⟨some 14, .bin .eql (.t 13) (.c (.int .i64 0)), none⟩,
      ⟨some 15, .mov (.t 14), none⟩,
      ⟨some 16, .mov (.t 1), (some (15, false))⟩,
      ⟨some 17, .len (.t 16), (some (15, false))⟩,
      ⟨some 18, .bin .eql (.t 17) (.c (.int .i64 0)), (some (15, false))⟩,
      ⟨some 19, .pick (.t 15) (.c (.bool true)) (.t 18), none⟩,
      ⟨some 20, .call 27 [.t 19, .c (.int .i64 8)], none⟩,
      ⟨some 21, .bsl 1 [.t 9, .t 11, .t 20], none⟩,
      ⟨some 22, .call 25 [.t 21], none⟩,
      ⟨some 5, .mov (.t 22), none⟩])
    (.seq (.reg [⟨some 23, .mov (.t 5), none⟩,
      ⟨some 24, .bin .neq (.t 23) (.c (.int .i64 0)), none⟩])
    (.cond (.t 24) (.seq (.reg [⟨some 25, .mov (.t 5), none⟩,
      ⟨some 4, .mov (.t 25), none⟩])
    .ret) .skip)))
    (.seq (.seq (.reg [⟨some 26, .mov (.t 0), none⟩,
      ⟨some 27, .mov (.t 1), none⟩,
      ⟨some 28, .bsl 1 [.t 26, .t 27], none⟩,
      ⟨some 29, .len (.t 28), none⟩,
      ⟨some 30, .mov (.c (.int .i64 0)), none⟩])
    (.block 0 (.loop ir_produce_overlayError_L0)))
    (.seq (.drg [⟨some 44, .mov (.t 0), none⟩,
      ⟨some 45, .ixa 1 (.t 44) (.c (.int .i64 0)), none⟩,
      ⟨some 46, .ld 1 false (.t 45), none⟩,
      ⟨some 47, .ixa 1 (.t 46) (.c (.int .i64 0)), none⟩,
      ⟨some 48, .ld 1 false (.t 47), none⟩,
      ⟨some 49, .mov (.t 1), none⟩,
      ⟨some 50, .ixa 1 (.t 49) (.c (.int .i64 0)), none⟩,
      ⟨some 51, .ld 1 false (.t 50), none⟩,
      ⟨some 52, .ixa 1 (.t 51) (.c (.int .i64 0)), none⟩,
      ⟨some 53, .ld 1 false (.t 52), none⟩,
      ⟨some 54, .bin .neq (.t 48) (.t 53), none⟩,
      ⟨some 55, .pcall 0 27 [.t 54, .c (.int .i64 3)], none⟩,
      ⟨some 4, .mov (.t 55), none⟩])
    .ret))))
def rs_produce_overlayError : List IRes := [.t 4]
theorem ck_produce_overlayError : chkF Tryd.prog Tryd.f16 ir_produce_overlayError rs_produce_overlayError 56 = true := by kernel_rfl
/- paperchase/chaseref1.OverlayFault -/
def ir_chaseref1_OverlayFault_L1 : IC :=
  (.seq (.reg [⟨some 63, .bin .lss (.t 62) (.t 61), none⟩])
    (.seq (.cond (.t 63) .skip (.exit 2))
    (.seq (.block 3 (.seq (.reg [⟨some 64, .ixa 1 (.t 60) (.t 62), none⟩,
      ⟨some 65, .ld 1 false (.t 64), none⟩,
      ⟨some 9, .mov (.t 65), none⟩])
    (.seq (.drg [⟨some 66, .mov (.t 0), none⟩,
      ⟨some 67, .vsl 1 (.t 66) (some (.c (.int .i64 1))) none, none⟩,
      ⟨some 68, .pcall 0 32 [.t 67, .c (.int .i64 0)], none⟩,
      ⟨some 69, .mov (.t 9), none⟩,
      ⟨some 70, .ixa 1 (.t 69) (.c (.int .i64 0)), none⟩,
      ⟨some 71, .ld 1 false (.t 70), none⟩,
      ⟨some 72, .pcall 1 20 [.t 68, .t 71], none⟩,
      ⟨some 73, .not (.t 72), none⟩])
    (.cond (.t 73) (.seq (.reg [⟨some 4, .mov (.c (.int .i64 8)), none⟩])
    .ret) .skip))))
    (.reg [⟨some 74, .bin .add (.t 62) (.c (.int .i64 1)), none⟩,
      ⟨some 62, .mov (.t 74), none⟩]))))
def ir_chaseref1_OverlayFault_L0 : IC :=
  (.seq (.reg [⟨some 32, .bin .lss (.t 31) (.t 30), none⟩])
    (.seq (.cond (.t 32) .skip (.exit 0))
    (.seq (.block 1 (.seq (.reg [⟨some 33, .ixa 1 (.t 29) (.t 31), none⟩,
      ⟨some 34, .ld 1 false (.t 33), none⟩,
      ⟨some 7, .mov (.t 34), none⟩])
    (.seq (.reg [⟨some 35, .mov (.t 7), none⟩,
      ⟨some 36, .ixa 1 (.t 35) (.c (.int .i64 0)), none⟩,
      ⟨some 37, .ld 1 false (.t 36), none⟩,
      ⟨some 38, .call 31 [.t 37], none⟩,
      ⟨some 39, .not (.t 38), none⟩,
      ⟨some 40, .mov (.t 39), none⟩,
      ⟨some 41, .mov (.t 7), (some (40, false))⟩,
      ⟨some 42, .vsl 1 (.t 41) (some (.c (.int .i64 1))) none, (some (40, false))⟩,
      ⟨some 43, .call 32 [.t 42, .c (.int .i64 0)], (some (40, false))⟩,
      ⟨some 44, .call 31 [.t 43], (some (40, false))⟩,
      ⟨some 45, .not (.t 44), (some (40, false))⟩,
      ⟨some 46, .pick (.t 40) (.c (.bool true)) (.t 45), none⟩])
    (.cond (.t 46) (.seq (.reg [⟨some 4, .mov (.c (.int .i64 6)), none⟩])
    .ret) .skip))))
    (.reg [⟨some 47, .bin .add (.t 31) (.c (.int .i64 1)), none⟩,
      ⟨some 31, .mov (.t 47), none⟩]))))
def ir_chaseref1_OverlayFault : IC :=
  (.seq (.reg [⟨some 4, .mov (.c (.int .i64 0)), none⟩])
    (.seq (.seq (.reg [⟨some 10, .mov (.t 0), none⟩,
      ⟨some 11, .call 30 [.t 10], none⟩,
      ⟨some 12, .mov (.t 1), none⟩,
      ⟨some 13, .call 30 [.t 12], none⟩,
      ⟨some 14, .bsl 1 [.t 11, .t 13], none⟩,
      ⟨some 15, .call 29 [.t 14], none⟩,
      ⟨some 5, .mov (.t 15), none⟩])
    (.seq (.reg [⟨some 16, .mov (.t 5), none⟩,
      ⟨some 17, .bin .neq (.t 16) (.c (.int .i64 0)), none⟩])
    (.cond (.t 17) (.seq (.reg [⟨some 18, .mov (.t 5), none⟩,
      ⟨some 4, .mov (.t 18), none⟩])
    .ret) .skip)))
    (.seq (.seq (.reg [⟨some 19, .mov (.t 0), none⟩,
      ⟨some 20, .len (.t 19), none⟩,
      ⟨some 21, .bin .eql (.t 20) (.c (.int .i64 0)), none⟩,
      ⟨some 22, .mov (.t 21), none⟩,
      ⟨some 23, .mov (.t 1), (some (22, false))⟩,
      ⟨some 24, .len (.t 23), (some (22, false))⟩,
      ⟨some 25, .bin .eql (.t 24) (.c (.int .i64 0)), (some (22, false))⟩,
      ⟨some 26, .pick (.t 22) (.c (.bool true)) (.t 25), none⟩])
    (.cond (.t 26) (.seq (.reg [⟨some 4, .mov (.c (.int .i64 8)), none⟩])
    .ret) .skip))
    (.seq (.seq (.reg [⟨some 27, .mov (.t 0), none⟩,
      ⟨some 28, .mov (.t 1), none⟩,
      ⟨some 29, .bsl 1 [.t 27, .t 28], none⟩,
      ⟨some 30, .len (.t 29), none⟩,
      ⟨some 31, .mov (.c (.int .i64 0)), none⟩])
    (.block 0 (.loop ir_chaseref1_OverlayFault_L0)))
    (.seq (.seq (.drg [⟨some 48, .mov (.t 0), none⟩,
      ⟨some 49, .ixa 1 (.t 48) (.c (.int .i64 0)), none⟩,
      ⟨some 50, .ld 1 false (.t 49), none⟩,
      ⟨some 51, .ixa 1 (.t 50) (.c (.int .i64 0)), none⟩,
      ⟨some 52, .ld 1 false (.t 51), none⟩,
      ⟨some 53, .mov (.t 1), none⟩,
      ⟨some 54, .ixa 1 (.t 53) (.c (.int .i64 0)), none⟩,
      ⟨some 55, .ld 1 false (.t 54), none⟩,
      ⟨some 56, .ixa 1 (.t 55) (.c (.int .i64 0)), none⟩,
      ⟨some 57, .ld 1 false (.t 56), none⟩,
      ⟨some 58, .bin .neq (.t 52) (.t 57), none⟩])
    (.cond (.t 58) (.seq (.reg [⟨some 4, .mov (.c (.int .i64 3)), none⟩])
    .ret) .skip))
    (.seq (.seq (.reg [⟨some 59, .mov (.t 1), none⟩,
      ⟨some 60, .vsl 1 (.t 59) (some (.c (.int .i64 1))) none, none⟩,
      ⟨some 61, .len (.t 60), none⟩,
      ⟨some 62, .mov (.c (.int .i64 0)), none⟩])
    (.block 2 (.loop ir_chaseref1_OverlayFault_L1)))
    (.seq (.reg [⟨some 4, .mov (.c (.int .i64 0)), none⟩])
    .ret)))))))
def rs_chaseref1_OverlayFault : List IRes := [.t 4]
theorem ck_chaseref1_OverlayFault : chkF Tryd.prog Tryd.f19 ir_chaseref1_OverlayFault rs_chaseref1_OverlayFault 75 = true := by kernel_rfl

def dupT (t : Tab) : Bool := !decide (t.headD []).Nodup || !decide (colF (t.drop 1)).Nodup
def tabsE (l : List Tab) : List (List PV) := l.map fun t => [PV.sl 1 (tbE t)]
theorem tabsE_len (l : List Tab) : (tabsE l).length = l.length := by simp [tabsE]
theorem tabsE_get {l : List Tab} {k : Nat} {t : Tab} (h : l[k]? = some t) : (tabsE l).getD k [] = [.sl 1 (tbE t)] := getD_map h
def key0 (t : Tab) : List UInt8 := (t.headD []).headD []
def ov0 (a b : Tab) : Int := firstE [loadE a, loadE b, whenE (decide (a.length = 0) || decide (b.length = 0)) 8]
def ovE (a b : Tab) : Int := if ov0 a b = 0 then if dupT a || dupT b then 6 else if key0 a = key0 b then 0 else 3 else ov0 a b
theorem loadE_zero {t : Tab} (h : loadE t = 0) : t.length ≤ 2001 ∧ ∀ r ∈ t, 1 ≤ r.length ∧ r.length ≤ 30 ∧ r.length = (t.headD []).length := by
  unfold loadE at h
  split at h
  · cases h
  rename_i h1
  split at h
  · cases h
  rename_i h2
  refine ⟨by omega, fun r hr => ?_⟩
  have h3 : badR (t.headD []).length r = false := by
    cases hb : badR (t.headD []).length r
    · rfl
    · exact absurd (List.any_eq_true.2 ⟨r, hr, hb⟩) h2
  simp only [badR, inE, Bool.or_eq_false_iff, Bool.not_eq_false', Bool.and_eq_true, decide_eq_true_eq] at h3
  omega
theorem ov0_zero {a b : Tab} (h : ov0 a b = 0) : loadE a = 0 ∧ loadE b = 0 ∧ 1 ≤ a.length ∧ 1 ≤ b.length := by
  simp only [ov0, firstE] at h
  split at h
  · rename_i h1
    split at h
    · rename_i h2
      refine ⟨h1, h2, ?_⟩
      by_cases h3 : a.length = 0 <;> by_cases h4 : b.length = 0 <;> simp [h3, h4, whenE] at h <;> omega
    · rename_i h2; exact absurd h h2
  · rename_i h1; exact absurd h h1
theorem head_some {t : Tab} (h : 1 ≤ t.length) : t[0]? = some (t.headD []) := by
  cases t with | nil => simp at h | cons a l => rfl
theorem headS_some {r : SRow} (h : 1 ≤ r.length) : r[0]? = some (r.headD []) := by
  cases r with | nil => simp at h | cons a l => rfl
set_option maxHeartbeats 4000000 in
theorem overlayError_ok (a b : Tab) (ha : TabB a) (hb : TabB b) : PCall Tryd.prog E0 16 [.sl 1 (tbE a), .sl 1 (tbE b)] (· = int (ovE a b)) := by
  refine pcallF mixed Tryd.func16 ck_produce_overlayError ?_
  simp only [a0, l0, OS.ao, List.map_cons, List.map_nil, List.length_cons, List.length_nil, List.cons_append, List.nil_append, Nat.reduceSub, Nat.reduceAdd, List.replicate_succ, List.replicate_zero, ir_produce_overlayError, rs_produce_overlayError, ZZ, YY, Ze, ite_true, ite_false, forall_const, reduceCtorEq, Nat.reduceAdd, Nat.reduceMul, Nat.reduceLeDiff, Nat.reduceLT, Nat.reduceEqDiff]
  refine use1 (rowsError_ok a ha) rfl (.inl rfl) ?_
  simp only [ZZ, YY, Ze, ite_true, ite_false, forall_const, reduceCtorEq, Nat.reduceAdd, Nat.reduceMul, Nat.reduceLeDiff, Nat.reduceLT, Nat.reduceEqDiff]
  refine use1 (rowsError_ok b hb) rfl (.inl rfl) ?_
  simp only [ZZ, YY, Ze, ite_true, ite_false, forall_const, reduceCtorEq, Nat.reduceAdd, Nat.reduceMul, Nat.reduceLeDiff, Nat.reduceLT, Nat.reduceEqDiff, tbE_len]
  have hc : (decide (((a.length : Nat) : Int) = 0) || decide (((b.length : Nat) : Int) = 0)) = (decide (a.length = 0) || decide (b.length = 0)) := by
    rw [Bool.eq_iff_iff]
    simp only [Bool.or_eq_true, decide_eq_true_eq]
    omega
  simp only [ZZ, YY, Ze, ite_true, ite_false, forall_const, reduceCtorEq, Nat.reduceAdd, Nat.reduceMul, Nat.reduceLeDiff, Nat.reduceLT, Nat.reduceEqDiff, hc]
  refine ⟨fun h => by rw [h]; rfl, ?_⟩
  refine use1 (When_ok _ 8) rfl (.inl rfl) ?_
  simp only [ZZ, YY, Ze, ite_true, ite_false, forall_const, reduceCtorEq, Nat.reduceAdd, Nat.reduceMul, Nat.reduceLeDiff, Nat.reduceLT, Nat.reduceEqDiff]
  refine use1 (First_ok [loadE a, loadE b, whenE (decide (a.length = 0) || decide (b.length = 0)) 8] (by simp)) rfl (.inl rfl) ?_
  rw [show firstE [loadE a, loadE b, whenE (decide (a.length = 0) || decide (b.length = 0)) 8] = ov0 a b from rfl]
  by_cases h0 : ov0 a b = 0
  rotate_left
  · have hd : decide (ov0 a b = 0) = false := decide_eq_false h0
    simp only [ZZ, YY, Ze, ite_true, ite_false, forall_const, reduceCtorEq, Nat.reduceAdd, Nat.reduceMul, Nat.reduceLeDiff, Nat.reduceLT, Nat.reduceEqDiff, hd]
    rw [ovE, if_neg h0]
  have hd : decide (ov0 a b = 0) = true := decide_eq_true h0
  obtain ⟨la, lb, na, nb⟩ := ov0_zero h0
  obtain ⟨a1, a2⟩ := loadE_zero la
  obtain ⟨b1, b2⟩ := loadE_zero lb
  simp only [ZZ, YY, Ze, ite_true, ite_false, forall_const, reduceCtorEq, Nat.reduceAdd, Nat.reduceMul, Nat.reduceLeDiff, Nat.reduceLT, Nat.reduceEqDiff, hd]
  rw [ovE, if_pos h0]
  have hall : ∀ t ∈ [a, b], 1 ≤ t.length ∧ t.length ≤ 1000000 ∧ (∀ r ∈ t, 1 ≤ r.length) ∧ (t.headD []).length ≤ 1000000 := by
    intro t ht
    simp only [List.mem_cons, List.not_mem_nil, or_false] at ht
    rcases ht with rfl | rfl
    · exact ⟨na, by omega, fun r hr => (a2 r hr).1, by have := (a2 _ (List.mem_of_getElem? (head_some na))).2.1; omega⟩
    · exact ⟨nb, by omega, fun r hr => (b2 r hr).1, by have := (b2 _ (List.mem_of_getElem? (head_some nb))).2.1; omega⟩
  have hda : (dupT a || dupT b) = [a, b].any dupT := by simp
  have hq : ([[PV.sl 1 (tbE a)], [PV.sl 1 (tbE b)]] : List (List PV)) = tabsE [a, b] := rfl
  rw [hda]
  rw [hq]
  have hl2 : [a, b].length = 2 := rfl
  generalize hl : [a, b] = l at *
  refine loop_intro (fun n fr L => ∃ (k : Nat), k ≤ 2 ∧ n = 2 - k ∧ (l.any dupT = (l.drop k).any dupT) ∧ fr = [.p (.sl 1 (tbE a)), .p (.sl 1 (tbE b)), .any, .any, .any, .any, .any, .any, .any, .any, .any, .any, .any, .any, .any, .any, .any, .any, .any, .any, .any, .any, .any, .any, .any, .any, .any, .any, .p (.sl 1 (tabsE l)), .p (int (2 : Nat)), .p (int (k : Nat)), .any, .any, .any, .any, .any, .any, .any, .any, .any, .any, .any, .any, .any, .any, .any, .any, .any, .any, .any, .any, .any, .any, .any, .any, .any] ∧ L = []) (2) [.p (.sl 1 (tbE a)), .p (.sl 1 (tbE b)), .any, .any, .any, .any, .any, .any, .any, .any, .any, .any, .any, .any, .any, .any, .any, .any, .any, .any, .any, .any, .any, .any, .any, .any, .any, .any, .p (.sl 1 (tabsE l)), .p (int (2 : Nat)), .p (int (0 : Nat)), .any, .any, .any, .any, .any, .any, .any, .any, .any, .any, .any, .any, .any, .any, .any, .any, .any, .any, .any, .any, .any, .any, .any, .any, .any] [] (by simp only [ZZ, YY, Ze, ite_true, ite_false, forall_const, reduceCtorEq, Nat.reduceAdd, Nat.reduceMul, Nat.reduceLeDiff, Nat.reduceLT, Nat.reduceEqDiff, tabsE_len]; try trivial) (by (simp only [ZZ, YY, Ze, ite_true, ite_false, forall_const, reduceCtorEq, Nat.reduceAdd, Nat.reduceMul, Nat.reduceLeDiff, Nat.reduceLT, Nat.reduceEqDiff]; try trivial)) ⟨0, by omega, by omega, by simp, rfl, rfl⟩ ?_
  rintro n fr L ⟨k, hk, rfl, hf, rfl, rfl⟩
  simp only [ir_produce_overlayError_L0, ZZ, YY, Ze, ite_true, ite_false, forall_const, reduceCtorEq, Nat.reduceAdd, Nat.reduceMul, Nat.reduceLeDiff, Nat.reduceLT, Nat.reduceEqDiff]
  refine br ?_ ?_
  · intro h
    have hlt : k < l.length := by have := of_decide_eq_true h; omega
    obtain ⟨t, ht⟩ : ∃ t, l[k]? = some t := ⟨_, List.getElem?_eq_getElem hlt⟩
    have hg := tabsE_get ht
    obtain ⟨c1, c2, c3, c4⟩ := hall t (List.mem_of_getElem? ht)
    have hg0 : (tbE t).getD (Int.toNat 0) [] = _ := tbE_get (head_some c1)
    rw [drop_cons ht, List.any_cons] at hf
    have hkl : (colF (t.drop 1)).length ≤ 1000000 := by rw [colF_len]; simp; omega
    simp only [ZZ, YY, Ze, ite_true, ite_false, forall_const, reduceCtorEq, Nat.reduceAdd, Nat.reduceMul, Nat.reduceLeDiff, Nat.reduceLT, Nat.reduceEqDiff, hg, hg0, tabsE_len, tbE_len]
    ((repeat' (with_reducible apply And.intro)) <;> try ((first | first | assumption | trivial | exact (fun hq => by rw [hq]; rfl) | exact i64_of (by omega) (by omega) | omega | (simp; done) | (simp; omega) | (intro hsc; have hs0 := hsc; (try have hsd := of_decide_eq_true hsc); (try simp only [Bool.not_eq_true', Bool.or_eq_false_iff, Bool.and_eq_true, Bool.or_eq_true, decide_eq_true_eq, decide_eq_false_iff_not] at hsc); (repeat' (with_reducible apply And.intro)) <;> (first | assumption | trivial | exact (fun hq => by rw [hq]; rfl) | exact i64_of (by omega) (by omega) | omega | (simp; done) | (simp; omega) | (intro hse; simp [hse, hs0]; done) | (intro hse; simp only [hse, hs0, Bool.true_and, Bool.and_true, Bool.not_false, Bool.not_true, Bool.and_self]; done))))))
    refine use1 (twice_ok (t.headD []) c4) rfl (.inl rfl) ?_
    simp only [ZZ, YY, Ze, ite_true, ite_false, forall_const, reduceCtorEq, Nat.reduceAdd, Nat.reduceMul, Nat.reduceLeDiff, Nat.reduceLT, Nat.reduceEqDiff]
    refine useG (fun _ => plainR (keys_ok t c1 c2 c3)) rfl (.inl rfl) ?_
    simp only [ZZ, YY, Ze, ite_true, ite_false, forall_const, reduceCtorEq, Nat.reduceAdd, Nat.reduceMul, Nat.reduceLeDiff, Nat.reduceLT, Nat.reduceEqDiff]
    refine useG (fun _ => twice_ok (colF (t.drop 1)) hkl) rfl (.inl rfl) ?_
    simp only [ZZ, YY, Ze, ite_true, ite_false, forall_const, reduceCtorEq, Nat.reduceAdd, Nat.reduceMul, Nat.reduceLeDiff, Nat.reduceLT, Nat.reduceEqDiff]
    refine ⟨fun h => by rw [h]; rfl, ?_⟩
    refine br ?_ ?_
    · intro hx
      have hx : dupT t = true := hx
      simp only [ZZ, YY, Ze, ite_true, ite_false, forall_const, reduceCtorEq, Nat.reduceAdd, Nat.reduceMul, Nat.reduceLeDiff, Nat.reduceLT, Nat.reduceEqDiff]
      rw [hf, hx]
      rfl
    · intro hx
      have hx : dupT t = false := hx
      rw [hx, Bool.false_or] at hf
      simp only [ZZ, YY, Ze, ite_true, ite_false, forall_const, reduceCtorEq, Nat.reduceAdd, Nat.reduceMul, Nat.reduceLeDiff, Nat.reduceLT, Nat.reduceEqDiff]
      ((repeat' (with_reducible apply And.intro)) <;> try ((first | first | assumption | trivial | exact (fun hq => by rw [hq]; rfl) | exact i64_of (by omega) (by omega) | omega | (simp; done) | (simp; omega) | (intro hsc; have hs0 := hsc; (try have hsd := of_decide_eq_true hsc); (try simp only [Bool.not_eq_true', Bool.or_eq_false_iff, Bool.and_eq_true, Bool.or_eq_true, decide_eq_true_eq, decide_eq_false_iff_not] at hsc); (repeat' (with_reducible apply And.intro)) <;> (first | assumption | trivial | exact (fun hq => by rw [hq]; rfl) | exact i64_of (by omega) (by omega) | omega | (simp; done) | (simp; omega) | (intro hse; simp [hse, hs0]; done) | (intro hse; simp only [hse, hs0, Bool.true_and, Bool.and_true, Bool.not_false, Bool.not_true, Bool.and_self]; done))))))
      refine end_round (2 - (k + 1)) [.p (.sl 1 (tbE a)), .p (.sl 1 (tbE b)), .any, .any, .any, .any, .any, .any, .any, .any, .any, .any, .any, .any, .any, .any, .any, .any, .any, .any, .any, .any, .any, .any, .any, .any, .any, .any, .p (.sl 1 (tabsE l)), .p (int (2 : Nat)), .p (int ((k + 1) : Nat)), .any, .any, .any, .any, .any, .any, .any, .any, .any, .any, .any, .any, .any, .any, .any, .any, .any, .any, .any, .any, .any, .any, .any, .any, .any] [] (by omega) (by (simp only [ZZ, YY, Ze, ite_true, ite_false, forall_const, reduceCtorEq, Nat.reduceAdd, Nat.reduceMul, Nat.reduceLeDiff, Nat.reduceLT, Nat.reduceEqDiff]; try trivial)) (by (simp only [ZZ, YY, Ze, ite_true, ite_false, forall_const, reduceCtorEq, Nat.reduceAdd, Nat.reduceMul, Nat.reduceLeDiff, Nat.reduceLT, Nat.reduceEqDiff]; try trivial)) ⟨k + 1, by omega, rfl, hf, rfl, rfl⟩
  · intro h
    have hge : k = l.length := by have := of_decide_eq_false h; omega
    rw [hf, hge, List.drop_length]
    have ga : (tbE a).getD (Int.toNat 0) [] = _ := tbE_get (head_some na)
    have gb : (tbE b).getD (Int.toNat 0) [] = _ := tbE_get (head_some nb)
    have ra := (a2 _ (List.mem_of_getElem? (head_some na))).1
    have rb := (b2 _ (List.mem_of_getElem? (head_some nb))).1
    have ka : (strE (a.headD [])).getD (Int.toNat 0) [] = [.str (key0 a)] := strE_get (headS_some ra)
    have kb : (strE (b.headD [])).getD (Int.toNat 0) [] = [.str (key0 b)] := strE_get (headS_some rb)
    simp only [ZZ, YY, Ze, ite_true, ite_false, forall_const, reduceCtorEq, Nat.reduceAdd, Nat.reduceMul, Nat.reduceLeDiff, Nat.reduceLT, Nat.reduceEqDiff]
    refine drg1 (x1 := int (whenE (!decide (key0 a = key0 b)) 3)) ?_
    simp only [ZZ, YY, Ze, ite_true, ite_false, forall_const, reduceCtorEq, Nat.reduceAdd, Nat.reduceMul, Nat.reduceLeDiff, Nat.reduceLT, Nat.reduceEqDiff, ga, gb, ka, kb, tbE_len, strE_len]
    ((repeat' (with_reducible apply And.intro)) <;> try (first | exact usep (When_ok _ _) rfl (.inl rfl) | (first | first | assumption | trivial | exact (fun hq => by rw [hq]; rfl) | exact i64_of (by omega) (by omega) | omega | (simp; done) | (simp; omega) | (intro hsc; have hs0 := hsc; (try have hsd := of_decide_eq_true hsc); (try simp only [Bool.not_eq_true', Bool.or_eq_false_iff, Bool.and_eq_true, Bool.or_eq_true, decide_eq_true_eq, decide_eq_false_iff_not] at hsc); (repeat' (with_reducible apply And.intro)) <;> (first | assumption | trivial | exact (fun hq => by rw [hq]; rfl) | exact i64_of (by omega) (by omega) | omega | (simp; done) | (simp; omega) | (intro hse; simp [hse, hs0]; done) | (intro hse; simp only [hse, hs0, Bool.true_and, Bool.and_true, Bool.not_false, Bool.not_true, Bool.and_self]; done))))))
    by_cases hk0 : key0 a = key0 b <;> simp [hk0, whenE]
/-- The errors, but for the number of columns. -/
def missT (a b : Tab) : Bool := (b.drop 1).any fun r => !decide (r.headD [] ∈ colF (a.drop 1))
def ovF (a b : Tab) : Int := if ovE a b = 0 then if missT a b then 8 else 0 else ovE a b
set_option maxHeartbeats 4000000 in
theorem OverlayFault_ok (a b : Tab) (ha : TabB a) (hb : TabB b) : PCall Tryd.prog E0 19 [.sl 1 (tbE a), .sl 1 (tbE b)] (· = int (ovF a b)) := by
  refine pcallF mixed Tryd.func19 ck_chaseref1_OverlayFault ?_
  simp only [a0, l0, OS.ao, List.map_cons, List.map_nil, List.length_cons, List.length_nil, List.cons_append, List.nil_append, Nat.reduceSub, Nat.reduceAdd, List.replicate_succ, List.replicate_zero, ir_chaseref1_OverlayFault, rs_chaseref1_OverlayFault, ZZ, YY, Ze, ite_true, ite_false, forall_const, reduceCtorEq, Nat.reduceAdd, Nat.reduceMul, Nat.reduceLeDiff, Nat.reduceLT, Nat.reduceEqDiff]
  refine use1 (LoadFault_ok a ha) rfl (.inl rfl) ?_
  simp only [ZZ, YY, Ze, ite_true, ite_false, forall_const, reduceCtorEq, Nat.reduceAdd, Nat.reduceMul, Nat.reduceLeDiff, Nat.reduceLT, Nat.reduceEqDiff]
  refine use1 (LoadFault_ok b hb) rfl (.inl rfl) ?_
  simp only [ZZ, YY, Ze, ite_true, ite_false, forall_const, reduceCtorEq, Nat.reduceAdd, Nat.reduceMul, Nat.reduceLeDiff, Nat.reduceLT, Nat.reduceEqDiff]
  refine use1 (Or_ok [loadE a, loadE b] (by simp)) rfl (.inl rfl) ?_
  by_cases hab : firstE [loadE a, loadE b] = 0
  rotate_left
  · have hd : decide (firstE [loadE a, loadE b] = 0) = false := decide_eq_false hab
    simp only [ZZ, YY, Ze, ite_true, ite_false, forall_const, reduceCtorEq, Nat.reduceAdd, Nat.reduceMul, Nat.reduceLeDiff, Nat.reduceLT, Nat.reduceEqDiff, hd]
    have h1 : ov0 a b = firstE [loadE a, loadE b] := by
      simp only [firstE] at hab
      unfold ov0
      simp only [firstE]
      by_cases h1 : loadE a = 0
      · rw [if_pos h1] at hab ⊢
        by_cases h2 : loadE b = 0
        · rw [if_pos h2] at hab; exact absurd rfl hab
        · rw [if_neg h2, if_pos h1, if_neg h2]
      · rw [if_neg h1, if_neg h1]
    have h2 : ¬ ov0 a b = 0 := by rw [h1]; exact hab
    rw [ovF, ovE, if_neg h2, if_neg h2, h1]
  have hd : decide (firstE [loadE a, loadE b] = 0) = true := decide_eq_true hab
  have la : loadE a = 0 := by
    simp only [firstE] at hab
    by_cases h1 : loadE a = 0
    · exact h1
    · rw [if_neg h1] at hab; exact hab
  have lb : loadE b = 0 := by
    simp only [firstE, if_pos la] at hab
    by_cases h1 : loadE b = 0
    · exact h1
    · rw [if_neg h1] at hab; exact hab
  have hc : (decide (((a.length : Nat) : Int) = 0) || decide (((b.length : Nat) : Int) = 0)) = (decide (a.length = 0) || decide (b.length = 0)) := by
    rw [Bool.eq_iff_iff]
    simp only [Bool.or_eq_true, decide_eq_true_eq]
    omega
  have h00 : ov0 a b = whenE (decide (a.length = 0) || decide (b.length = 0)) 8 := by
    simp only [ov0, firstE, if_pos la, if_pos lb]
    split <;> simp_all
  simp only [ZZ, YY, Ze, ite_true, ite_false, forall_const, reduceCtorEq, Nat.reduceAdd, Nat.reduceMul, Nat.reduceLeDiff, Nat.reduceLT, Nat.reduceEqDiff, hd, tbE_len, hc]
  refine ⟨fun h => by rw [h]; rfl, ?_⟩
  refine br ?_ ?_
  · intro h
    have h8 : ov0 a b = 8 := by rw [h00, h]; rfl
    have h9 : ovE a b = 8 := by rw [ovE, h8]; rfl
    simp only [ZZ, YY, Ze, ite_true, ite_false, forall_const, reduceCtorEq, Nat.reduceAdd, Nat.reduceMul, Nat.reduceLeDiff, Nat.reduceLT, Nat.reduceEqDiff]
    rw [ovF, h9]
    rfl
  intro h
  have h0 : ov0 a b = 0 := by rw [h00, h]; rfl
  obtain ⟨_, _, na, nb⟩ := ov0_zero h0
  obtain ⟨a1, a2⟩ := loadE_zero la
  obtain ⟨b1, b2⟩ := loadE_zero lb
  have hall : ∀ t ∈ [a, b], 1 ≤ t.length ∧ t.length ≤ 1000000 ∧ (∀ r ∈ t, 1 ≤ r.length) ∧ (t.headD []).length ≤ 1000000 := by
    intro t ht
    simp only [List.mem_cons, List.not_mem_nil, or_false] at ht
    rcases ht with rfl | rfl
    · exact ⟨na, by omega, fun r hr => (a2 r hr).1, by have := (a2 _ (List.mem_of_getElem? (head_some na))).2.1; omega⟩
    · exact ⟨nb, by omega, fun r hr => (b2 r hr).1, by have := (b2 _ (List.mem_of_getElem? (head_some nb))).2.1; omega⟩
  have hda : (dupT a || dupT b) = [a, b].any dupT := by simp
  have hq : ([[PV.sl 1 (tbE a)], [PV.sl 1 (tbE b)]] : List (List PV)) = tabsE [a, b] := rfl
  rw [ovF, ovE, if_pos h0, hda]
  simp only [ZZ, YY, Ze, ite_true, ite_false, forall_const, reduceCtorEq, Nat.reduceAdd, Nat.reduceMul, Nat.reduceLeDiff, Nat.reduceLT, Nat.reduceEqDiff]
  rw [hq]
  have hl2 : [a, b].length = 2 := rfl
  generalize hl : [a, b] = l at *
  refine loop_intro (fun n fr L => ∃ (k : Nat), k ≤ 2 ∧ n = 2 - k ∧ (l.any dupT = (l.drop k).any dupT) ∧ fr = [.p (.sl 1 (tbE a)), .p (.sl 1 (tbE b)), .any, .any, .any, .any, .any, .any, .any, .any, .any, .any, .any, .any, .any, .any, .any, .any, .any, .any, .any, .any, .any, .any, .any, .any, .any, .any, .any, .p (.sl 1 (tabsE l)), .p (int (2 : Nat)), .p (int (k : Nat)), .any, .any, .any, .any, .any, .any, .any, .any, .any, .any, .any, .any, .any, .any, .any, .any, .any, .any, .any, .any, .any, .any, .any, .any, .any, .any, .any, .any, .any, .any, .any, .any, .any, .any, .any, .any, .any, .any, .any, .any, .any, .any, .any] ∧ L = []) (2) [.p (.sl 1 (tbE a)), .p (.sl 1 (tbE b)), .any, .any, .any, .any, .any, .any, .any, .any, .any, .any, .any, .any, .any, .any, .any, .any, .any, .any, .any, .any, .any, .any, .any, .any, .any, .any, .any, .p (.sl 1 (tabsE l)), .p (int (2 : Nat)), .p (int (0 : Nat)), .any, .any, .any, .any, .any, .any, .any, .any, .any, .any, .any, .any, .any, .any, .any, .any, .any, .any, .any, .any, .any, .any, .any, .any, .any, .any, .any, .any, .any, .any, .any, .any, .any, .any, .any, .any, .any, .any, .any, .any, .any, .any, .any] [] (by simp only [ZZ, YY, Ze, ite_true, ite_false, forall_const, reduceCtorEq, Nat.reduceAdd, Nat.reduceMul, Nat.reduceLeDiff, Nat.reduceLT, Nat.reduceEqDiff, tabsE_len]; try trivial) (by (simp only [ZZ, YY, Ze, ite_true, ite_false, forall_const, reduceCtorEq, Nat.reduceAdd, Nat.reduceMul, Nat.reduceLeDiff, Nat.reduceLT, Nat.reduceEqDiff]; try trivial)) ⟨0, by omega, by omega, by simp, rfl, rfl⟩ ?_
  rintro n fr L ⟨k, hk, rfl, hf, rfl, rfl⟩
  simp only [ir_chaseref1_OverlayFault_L0, ZZ, YY, Ze, ite_true, ite_false, forall_const, reduceCtorEq, Nat.reduceAdd, Nat.reduceMul, Nat.reduceLeDiff, Nat.reduceLT, Nat.reduceEqDiff]
  refine br ?_ ?_
  · intro h
    have hlt : k < l.length := by have := of_decide_eq_true h; omega
    obtain ⟨t, ht⟩ : ∃ t, l[k]? = some t := ⟨_, List.getElem?_eq_getElem hlt⟩
    have hg := tabsE_get ht
    obtain ⟨c1, c2, c3, c4⟩ := hall t (List.mem_of_getElem? ht)
    have hg0 : (tbE t).getD (Int.toNat 0) [] = _ := tbE_get (head_some c1)
    rw [drop_cons ht, List.any_cons] at hf
    have hkl : (colF (t.drop 1)).length ≤ 1000000 := by rw [colF_len]; simp; omega
    obtain ⟨e1, e2⟩ := tb_tail t c1
    have d1 : (t.drop 1).length ≤ 1000000 := by simp; omega
    have d2 : ∀ r ∈ t.drop 1, 1 ≤ r.length := fun r hr => c3 r (List.mem_of_mem_drop hr)
    simp only [ZZ, YY, Ze, ite_true, ite_false, forall_const, reduceCtorEq, Nat.reduceAdd, Nat.reduceMul, Nat.reduceLeDiff, Nat.reduceLT, Nat.reduceEqDiff, hg, hg0, tabsE_len, tbE_len]
    ((repeat' (with_reducible apply And.intro)) <;> try ((first | first | assumption | trivial | exact (fun hq => by rw [hq]; rfl) | exact i64_of (by omega) (by omega) | omega | (simp; done) | (simp; omega) | (intro hsc; have hs0 := hsc; (try have hsd := of_decide_eq_true hsc); (try simp only [Bool.not_eq_true', Bool.or_eq_false_iff, Bool.and_eq_true, Bool.or_eq_true, decide_eq_true_eq, decide_eq_false_iff_not] at hsc); (repeat' (with_reducible apply And.intro)) <;> (first | assumption | trivial | exact (fun hq => by rw [hq]; rfl) | exact i64_of (by omega) (by omega) | omega | (simp; done) | (simp; omega) | (intro hse; simp [hse, hs0]; done) | (intro hse; simp only [hse, hs0, Bool.true_and, Bool.and_true, Bool.not_false, Bool.not_true, Bool.and_self]; done))))))
    refine use1 (different_ok (t.headD []) c4) rfl (.inl rfl) ?_
    simp only [ZZ, YY, Ze, ite_true, ite_false, forall_const, reduceCtorEq, Nat.reduceAdd, Nat.reduceMul, Nat.reduceLeDiff, Nat.reduceLT, Nat.reduceEqDiff, tbE_len, e1]
    ((repeat' (with_reducible apply And.intro)) <;> try ((first | first | assumption | trivial | exact (fun hq => by rw [hq]; rfl) | exact i64_of (by omega) (by omega) | omega | (simp; done) | (simp; omega) | (intro hsc; have hs0 := hsc; (try have hsd := of_decide_eq_true hsc); (try simp only [Bool.not_eq_true', Bool.or_eq_false_iff, Bool.and_eq_true, Bool.or_eq_true, decide_eq_true_eq, decide_eq_false_iff_not] at hsc); (repeat' (with_reducible apply And.intro)) <;> (first | assumption | trivial | exact (fun hq => by rw [hq]; rfl) | exact i64_of (by omega) (by omega) | omega | (simp; done) | (simp; omega) | (intro hse; simp [hse, hs0]; done) | (intro hse; simp only [hse, hs0, Bool.true_and, Bool.and_true, Bool.not_false, Bool.not_true, Bool.and_self]; done))))))
    refine useG (fun _ => plainR (column_ok (t.drop 1) d1 d2)) rfl (.inl rfl) ?_
    simp only [ZZ, YY, Ze, ite_true, ite_false, forall_const, reduceCtorEq, Nat.reduceAdd, Nat.reduceMul, Nat.reduceLeDiff, Nat.reduceLT, Nat.reduceEqDiff]
    refine useG (fun _ => different_ok (colF (t.drop 1)) hkl) rfl (.inl rfl) ?_
    simp only [ZZ, YY, Ze, ite_true, ite_false, forall_const, reduceCtorEq, Nat.reduceAdd, Nat.reduceMul, Nat.reduceLeDiff, Nat.reduceLT, Nat.reduceEqDiff]
    refine ⟨fun h => by rw [h]; rfl, ?_⟩
    refine br ?_ ?_
    · intro hx
      have hx : dupT t = true := hx
      simp only [ZZ, YY, Ze, ite_true, ite_false, forall_const, reduceCtorEq, Nat.reduceAdd, Nat.reduceMul, Nat.reduceLeDiff, Nat.reduceLT, Nat.reduceEqDiff]
      rw [hf, hx]
      rfl
    · intro hx
      have hx : dupT t = false := hx
      rw [hx, Bool.false_or] at hf
      simp only [ZZ, YY, Ze, ite_true, ite_false, forall_const, reduceCtorEq, Nat.reduceAdd, Nat.reduceMul, Nat.reduceLeDiff, Nat.reduceLT, Nat.reduceEqDiff]
      ((repeat' (with_reducible apply And.intro)) <;> try ((first | first | assumption | trivial | exact (fun hq => by rw [hq]; rfl) | exact i64_of (by omega) (by omega) | omega | (simp; done) | (simp; omega) | (intro hsc; have hs0 := hsc; (try have hsd := of_decide_eq_true hsc); (try simp only [Bool.not_eq_true', Bool.or_eq_false_iff, Bool.and_eq_true, Bool.or_eq_true, decide_eq_true_eq, decide_eq_false_iff_not] at hsc); (repeat' (with_reducible apply And.intro)) <;> (first | assumption | trivial | exact (fun hq => by rw [hq]; rfl) | exact i64_of (by omega) (by omega) | omega | (simp; done) | (simp; omega) | (intro hse; simp [hse, hs0]; done) | (intro hse; simp only [hse, hs0, Bool.true_and, Bool.and_true, Bool.not_false, Bool.not_true, Bool.and_self]; done))))))
      refine end_round (2 - (k + 1)) [.p (.sl 1 (tbE a)), .p (.sl 1 (tbE b)), .any, .any, .any, .any, .any, .any, .any, .any, .any, .any, .any, .any, .any, .any, .any, .any, .any, .any, .any, .any, .any, .any, .any, .any, .any, .any, .any, .p (.sl 1 (tabsE l)), .p (int (2 : Nat)), .p (int ((k + 1) : Nat)), .any, .any, .any, .any, .any, .any, .any, .any, .any, .any, .any, .any, .any, .any, .any, .any, .any, .any, .any, .any, .any, .any, .any, .any, .any, .any, .any, .any, .any, .any, .any, .any, .any, .any, .any, .any, .any, .any, .any, .any, .any, .any, .any] [] (by omega) (by (simp only [ZZ, YY, Ze, ite_true, ite_false, forall_const, reduceCtorEq, Nat.reduceAdd, Nat.reduceMul, Nat.reduceLeDiff, Nat.reduceLT, Nat.reduceEqDiff]; try trivial)) (by (simp only [ZZ, YY, Ze, ite_true, ite_false, forall_const, reduceCtorEq, Nat.reduceAdd, Nat.reduceMul, Nat.reduceLeDiff, Nat.reduceLT, Nat.reduceEqDiff]; try trivial)) ⟨k + 1, by omega, rfl, hf, rfl, rfl⟩
  · intro h
    have hge : k = l.length := by have := of_decide_eq_false h; omega
    rw [hf, hge, List.drop_length]
    have ga : (tbE a).getD (Int.toNat 0) [] = _ := tbE_get (head_some na)
    have gb : (tbE b).getD (Int.toNat 0) [] = _ := tbE_get (head_some nb)
    have ra := (a2 _ (List.mem_of_getElem? (head_some na))).1
    have rb := (b2 _ (List.mem_of_getElem? (head_some nb))).1
    have ka : (strE (a.headD [])).getD (Int.toNat 0) [] = [.str (key0 a)] := strE_get (headS_some ra)
    have kb : (strE (b.headD [])).getD (Int.toNat 0) [] = [.str (key0 b)] := strE_get (headS_some rb)
    simp only [ZZ, YY, Ze, ite_true, ite_false, forall_const, reduceCtorEq, Nat.reduceAdd, Nat.reduceMul, Nat.reduceLeDiff, Nat.reduceLT, Nat.reduceEqDiff]
    refine drg0 ?_
    simp only [ZZ, YY, Ze, ite_true, ite_false, forall_const, reduceCtorEq, Nat.reduceAdd, Nat.reduceMul, Nat.reduceLeDiff, Nat.reduceLT, Nat.reduceEqDiff, ga, gb, ka, kb, tbE_len, strE_len]
    ((repeat' (with_reducible apply And.intro)) <;> try ((first | first | assumption | trivial | exact (fun hq => by rw [hq]; rfl) | exact i64_of (by omega) (by omega) | omega | (simp; done) | (simp; omega) | (intro hsc; have hs0 := hsc; (try have hsd := of_decide_eq_true hsc); (try simp only [Bool.not_eq_true', Bool.or_eq_false_iff, Bool.and_eq_true, Bool.or_eq_true, decide_eq_true_eq, decide_eq_false_iff_not] at hsc); (repeat' (with_reducible apply And.intro)) <;> (first | assumption | trivial | exact (fun hq => by rw [hq]; rfl) | exact i64_of (by omega) (by omega) | omega | (simp; done) | (simp; omega) | (intro hse; simp [hse, hs0]; done) | (intro hse; simp only [hse, hs0, Bool.true_and, Bool.and_true, Bool.not_false, Bool.not_true, Bool.and_self]; done))))))
    refine br ?_ ?_
    · intro hk0
      have hk0 : ¬ key0 a = key0 b := by
        intro e
        rw [e] at hk0
        simp at hk0
      simp only [ZZ, YY, Ze, ite_true, ite_false, forall_const, reduceCtorEq, Nat.reduceAdd, Nat.reduceMul, Nat.reduceLeDiff, Nat.reduceLT, Nat.reduceEqDiff]
      simp [hk0]
    intro hk0
    have hk0 : key0 a = key0 b := by
      by_cases e : key0 a = key0 b
      · exact e
      · rw [decide_eq_false e] at hk0; cases hk0
    rw [if_pos hk0]
    obtain ⟨e1, e2⟩ := tb_tail b nb
    obtain ⟨f1, f2⟩ := tb_tail a na
    have d1 : (a.drop 1).length ≤ 1000000 := by simp; omega
    have d2 : ∀ r ∈ a.drop 1, 1 ≤ r.length := fun r hr => (a2 r (List.mem_of_mem_drop hr)).1
    have d3 : ∀ r ∈ b.drop 1, 1 ≤ r.length := fun r hr => (b2 r (List.mem_of_mem_drop hr)).1
    have d4 : (colF (a.drop 1)).length ≤ 1000000000 := by rw [colF_len]; omega
    have hm : missT a b = (b.drop 1).any fun r => !decide (r.headD [] ∈ colF (a.drop 1)) := rfl
    rw [hm]
    simp only [ZZ, YY, Ze, ite_true, ite_false, forall_const, reduceCtorEq, Nat.reduceAdd, Nat.reduceMul, Nat.reduceLeDiff, Nat.reduceLT, Nat.reduceEqDiff, tbE_len, e1, e2]
    ((repeat' (with_reducible apply And.intro)) <;> try ((first | first | assumption | trivial | exact (fun hq => by rw [hq]; rfl) | exact i64_of (by omega) (by omega) | omega | (simp; done) | (simp; omega) | (intro hsc; have hs0 := hsc; (try have hsd := of_decide_eq_true hsc); (try simp only [Bool.not_eq_true', Bool.or_eq_false_iff, Bool.and_eq_true, Bool.or_eq_true, decide_eq_true_eq, decide_eq_false_iff_not] at hsc); (repeat' (with_reducible apply And.intro)) <;> (first | assumption | trivial | exact (fun hq => by rw [hq]; rfl) | exact i64_of (by omega) (by omega) | omega | (simp; done) | (simp; omega) | (intro hse; simp [hse, hs0]; done) | (intro hse; simp only [hse, hs0, Bool.true_and, Bool.and_true, Bool.not_false, Bool.not_true, Bool.and_self]; done))))))
    have d5 : (b.drop 1).length ≤ 1000000 := by simp; omega
    generalize b.drop 1 = u at *
    clear e1 e2 hf hge h
    refine loop_intro (fun n fr L => ∃ (k : Nat), k ≤ u.length ∧ n = u.length - k ∧ ((u.any fun r => !decide (r.headD [] ∈ colF (a.drop 1))) = ((u.drop k).any fun r => !decide (r.headD [] ∈ colF (a.drop 1)))) ∧ fr = [.p (.sl 1 (tbE a)), .p (.sl 1 (tbE b)), .any, .any, .any, .any, .any, .any, .any, .any, .any, .any, .any, .any, .any, .any, .any, .any, .any, .any, .any, .any, .any, .any, .any, .any, .any, .any, .any, .any, .any, .any, .any, .any, .any, .any, .any, .any, .any, .any, .any, .any, .any, .any, .any, .any, .any, .any, .any, .any, .any, .any, .any, .any, .any, .any, .any, .any, .any, .any, .p (.sl 1 (tbE u)), .p (int (u.length : Nat)), .p (int (k : Nat)), .any, .any, .any, .any, .any, .any, .any, .any, .any, .any, .any, .any] ∧ L = []) (u.length) [.p (.sl 1 (tbE a)), .p (.sl 1 (tbE b)), .any, .any, .any, .any, .any, .any, .any, .any, .any, .any, .any, .any, .any, .any, .any, .any, .any, .any, .any, .any, .any, .any, .any, .any, .any, .any, .any, .any, .any, .any, .any, .any, .any, .any, .any, .any, .any, .any, .any, .any, .any, .any, .any, .any, .any, .any, .any, .any, .any, .any, .any, .any, .any, .any, .any, .any, .any, .any, .p (.sl 1 (tbE u)), .p (int (u.length : Nat)), .p (int (0 : Nat)), .any, .any, .any, .any, .any, .any, .any, .any, .any, .any, .any, .any] [] (by simp only [ZZ, YY, Ze, ite_true, ite_false, forall_const, reduceCtorEq, Nat.reduceAdd, Nat.reduceMul, Nat.reduceLeDiff, Nat.reduceLT, Nat.reduceEqDiff, tbE_len]; try trivial) (by (simp only [ZZ, YY, Ze, ite_true, ite_false, forall_const, reduceCtorEq, Nat.reduceAdd, Nat.reduceMul, Nat.reduceLeDiff, Nat.reduceLT, Nat.reduceEqDiff]; try trivial)) ⟨0, by omega, by omega, by simp, rfl, rfl⟩ ?_
    rintro n fr L ⟨k, hk, rfl, hf, rfl, rfl⟩
    simp only [ir_chaseref1_OverlayFault_L1, ZZ, YY, Ze, ite_true, ite_false, forall_const, reduceCtorEq, Nat.reduceAdd, Nat.reduceMul, Nat.reduceLeDiff, Nat.reduceLT, Nat.reduceEqDiff]
    refine br ?_ ?_
    · intro h
      have hlt : k < u.length := by have := of_decide_eq_true h; omega
      obtain ⟨r, hr⟩ : ∃ r, u[k]? = some r := ⟨_, List.getElem?_eq_getElem hlt⟩
      have hg := tbE_get hr
      have hr1 := d3 r (List.mem_of_getElem? hr)
      have hgx : (strE r).getD (Int.toNat 0) [] = [.str (r.headD [])] := strE_get (headS_some hr1)
      rw [drop_cons hr, List.any_cons] at hf
      simp only [ZZ, YY, Ze, ite_true, ite_false, forall_const, reduceCtorEq, Nat.reduceAdd, Nat.reduceMul, Nat.reduceLeDiff, Nat.reduceLT, Nat.reduceEqDiff, hg, tbE_len]
      ((repeat' (with_reducible apply And.intro)) <;> try ((first | first | assumption | trivial | exact (fun hq => by rw [hq]; rfl) | exact i64_of (by omega) (by omega) | omega | (simp; done) | (simp; omega) | (intro hsc; have hs0 := hsc; (try have hsd := of_decide_eq_true hsc); (try simp only [Bool.not_eq_true', Bool.or_eq_false_iff, Bool.and_eq_true, Bool.or_eq_true, decide_eq_true_eq, decide_eq_false_iff_not] at hsc); (repeat' (with_reducible apply And.intro)) <;> (first | assumption | trivial | exact (fun hq => by rw [hq]; rfl) | exact i64_of (by omega) (by omega) | omega | (simp; done) | (simp; omega) | (intro hse; simp [hse, hs0]; done) | (intro hse; simp only [hse, hs0, Bool.true_and, Bool.and_true, Bool.not_false, Bool.not_true, Bool.and_self]; done))))))
      refine drg2 (x1 := .sl 1 (strE (colF (a.drop 1)))) (x2 := .bool (decide (r.headD [] ∈ colF (a.drop 1)))) ?_
      simp only [ZZ, YY, Ze, ite_true, ite_false, forall_const, reduceCtorEq, Nat.reduceAdd, Nat.reduceMul, Nat.reduceLeDiff, Nat.reduceLT, Nat.reduceEqDiff, hgx, tbE_len, strE_len, f1]
      ((repeat' (with_reducible apply And.intro)) <;> try (first | exact usep (plainR (column_ok (a.drop 1) d1 d2)) rfl (.inl rfl) | exact usep (ContainsS_ok _ _ d4) rfl (.inl rfl) | (first | first | assumption | trivial | exact (fun hq => by rw [hq]; rfl) | exact i64_of (by omega) (by omega) | omega | (simp; done) | (simp; omega) | (intro hsc; have hs0 := hsc; (try have hsd := of_decide_eq_true hsc); (try simp only [Bool.not_eq_true', Bool.or_eq_false_iff, Bool.and_eq_true, Bool.or_eq_true, decide_eq_true_eq, decide_eq_false_iff_not] at hsc); (repeat' (with_reducible apply And.intro)) <;> (first | assumption | trivial | exact (fun hq => by rw [hq]; rfl) | exact i64_of (by omega) (by omega) | omega | (simp; done) | (simp; omega) | (intro hse; simp [hse, hs0]; done) | (intro hse; simp only [hse, hs0, Bool.true_and, Bool.and_true, Bool.not_false, Bool.not_true, Bool.and_self]; done))))))
      refine br ?_ ?_
      · intro hx
        rw [hx, Bool.true_or] at hf
        simp only [ZZ, YY, Ze, ite_true, ite_false, forall_const, reduceCtorEq, Nat.reduceAdd, Nat.reduceMul, Nat.reduceLeDiff, Nat.reduceLT, Nat.reduceEqDiff]
        rw [hf]
        rfl
      · intro hx
        rw [hx, Bool.false_or] at hf
        simp only [ZZ, YY, Ze, ite_true, ite_false, forall_const, reduceCtorEq, Nat.reduceAdd, Nat.reduceMul, Nat.reduceLeDiff, Nat.reduceLT, Nat.reduceEqDiff]
        ((repeat' (with_reducible apply And.intro)) <;> try ((first | first | assumption | trivial | exact (fun hq => by rw [hq]; rfl) | exact i64_of (by omega) (by omega) | omega | (simp; done) | (simp; omega) | (intro hsc; have hs0 := hsc; (try have hsd := of_decide_eq_true hsc); (try simp only [Bool.not_eq_true', Bool.or_eq_false_iff, Bool.and_eq_true, Bool.or_eq_true, decide_eq_true_eq, decide_eq_false_iff_not] at hsc); (repeat' (with_reducible apply And.intro)) <;> (first | assumption | trivial | exact (fun hq => by rw [hq]; rfl) | exact i64_of (by omega) (by omega) | omega | (simp; done) | (simp; omega) | (intro hse; simp [hse, hs0]; done) | (intro hse; simp only [hse, hs0, Bool.true_and, Bool.and_true, Bool.not_false, Bool.not_true, Bool.and_self]; done))))))
        refine end_round (u.length - (k + 1)) [.p (.sl 1 (tbE a)), .p (.sl 1 (tbE b)), .any, .any, .any, .any, .any, .any, .any, .any, .any, .any, .any, .any, .any, .any, .any, .any, .any, .any, .any, .any, .any, .any, .any, .any, .any, .any, .any, .any, .any, .any, .any, .any, .any, .any, .any, .any, .any, .any, .any, .any, .any, .any, .any, .any, .any, .any, .any, .any, .any, .any, .any, .any, .any, .any, .any, .any, .any, .any, .p (.sl 1 (tbE u)), .p (int (u.length : Nat)), .p (int ((k + 1) : Nat)), .any, .any, .any, .any, .any, .any, .any, .any, .any, .any, .any, .any] [] (by omega) (by (simp only [ZZ, YY, Ze, ite_true, ite_false, forall_const, reduceCtorEq, Nat.reduceAdd, Nat.reduceMul, Nat.reduceLeDiff, Nat.reduceLT, Nat.reduceEqDiff]; try trivial)) (by (simp only [ZZ, YY, Ze, ite_true, ite_false, forall_const, reduceCtorEq, Nat.reduceAdd, Nat.reduceMul, Nat.reduceLeDiff, Nat.reduceLT, Nat.reduceEqDiff]; try trivial)) ⟨k + 1, by omega, rfl, hf, rfl, rfl⟩
    · intro h
      have hge : k = u.length := by have := of_decide_eq_false h; omega
      rw [hf, hge, List.drop_length]
      simp only [ZZ, YY, Ze, ite_true, ite_false, forall_const, reduceCtorEq, Nat.reduceAdd, Nat.reduceMul, Nat.reduceLeDiff, Nat.reduceLT, Nat.reduceEqDiff]
      rfl
end Go.Proofs.YthfpehmbellmcaaDoor
