
/- Own texts, put together: P7. -/
import Derived.Test.YtejekkhhpkeckaaGreatDoorZ9
import Derived.Test.YtejekkhhpkeckaaGreatDoorZ7
import Derived.Test.YtejekkhhpkeckaaGreatDoorLayItoa
/- Numbers of pages, at a seat without strconv.Atoi (written by wip/genp7.py out of XF1, XF2). -/
namespace Go.Proofs.YtejekkhhpkeckaaGreatDoor
open Go.RowKit
set_option linter.unusedVariables false
set_option linter.unusedSimpArgs false
set_option linter.defProp false

/- paperchase/produce.power -/
def ir_produce_power_L0 : IC :=
  (.seq (.reg [⟨some 6, .bin .lss (.t 5) (.t 4), none⟩])
    (.seq (.cond (.t 6) .skip (.exit 0))
    (.seq (.block 1 (.reg [⟨some 7, .mov (.t 3), none⟩,
      ⟨some 8, .bin .mul (.t 7) (.c (.int .i64 10)), none⟩,
      ⟨some 3, .mov (.t 8), none⟩]))
    (.reg [⟨some 9, .bin .add (.t 5) (.c (.int .i64 1)), none⟩,
      ⟨some 5, .mov (.t 9), none⟩]))))
def ir_produce_power : IC :=
  (.seq (.reg [⟨some 2, .mov (.c (.int .i64 0)), none⟩])
    (.seq (.reg [⟨some 3, .mov (.c (.int .i64 1)), none⟩])
    (.seq (.seq (.reg [⟨some 4, .mov (.t 0), none⟩,
      ⟨some 5, .mov (.c (.int .i64 0)), none⟩])
    (.block 0 (.loop ir_produce_power_L0)))
    (.seq (.reg [⟨some 10, .mov (.t 3), none⟩,
      ⟨some 2, .mov (.t 10), none⟩])
    .ret))))
def rs_produce_power : List IRes := [.t 2]
theorem ck_produce_power : chkF Tryz.prog Tryz.f72 ir_produce_power rs_produce_power 11 = true := by kernel_rfl
/- paperchase/produce.isPrefix -/
def ir_produce_isPrefix_L0 : IC :=
  (.seq (.reg [⟨some 7, .bin .lss (.t 6) (.t 5), none⟩])
    (.seq (.cond (.t 7) .skip (.exit 0))
    (.seq (.block 1 (.seq (.reg [⟨some 8, .mov (.t 6), none⟩,
      ⟨some 3, .mov (.t 8), none⟩])
    (.seq (.reg [⟨some 9, .mov (.t 0), none⟩,
      ⟨some 10, .mov (.t 3), none⟩,
      ⟨some 11, .idx (.t 9) (.t 10), none⟩,
      ⟨some 12, .bin .lss (.t 11) (.c (.int .u8 65)), none⟩,
      ⟨some 13, .mov (.t 12), none⟩,
      ⟨some 14, .mov (.t 0), (some (13, false))⟩,
      ⟨some 15, .mov (.t 3), (some (13, false))⟩,
      ⟨some 16, .idx (.t 14) (.t 15), (some (13, false))⟩,
      ⟨some 17, .bin .gtr (.t 16) (.c (.int .u8 90)), (some (13, false))⟩,
      ⟨some 18, .pick (.t 13) (.c (.bool true)) (.t 17), none⟩])
    (.cond (.t 18) (.seq (.reg [⟨some 2, .mov (.c (.bool false)), none⟩])
    .ret) .skip))))
    (.reg [⟨some 19, .bin .add (.t 6) (.c (.int .i64 1)), none⟩,
      ⟨some 6, .mov (.t 19), none⟩]))))
def ir_produce_isPrefix : IC :=
  (.seq (.reg [⟨some 2, .mov (.c (.bool false)), none⟩])
    (.seq (.seq (.reg [⟨some 4, .mov (.t 0), none⟩,
      ⟨some 5, .sln (.t 4), none⟩,
      ⟨some 6, .mov (.c (.int .i64 0)), none⟩])
    (.block 0 (.loop ir_produce_isPrefix_L0)))
    (.seq (.reg [⟨some 20, .mov (.t 0), none⟩,
      ⟨some 21, .sln (.t 20), none⟩,
      ⟨some 22, .call 71 [.t 21, .c (.int .i64 1), .c (.int .i64 8)], none⟩,
      ⟨some 2, .mov (.t 22), none⟩])
    .ret)))
def rs_produce_isPrefix : List IRes := [.t 2]
theorem ck_produce_isPrefix : chkF Tryz.prog Tryz.f108 ir_produce_isPrefix rs_produce_isPrefix 23 = true := by kernel_rfl
/- paperchase/produce.headError -/
def ir_produce_headError : IC :=
  (.seq (.reg [⟨some 4, .mov (.c (.int .i64 0)), none⟩])
    (.seq (.reg [⟨some 5, .mov (.t 0), none⟩,
      ⟨some 6, .call 108 [.t 5], none⟩,
      ⟨some 7, .not (.t 6), none⟩,
      ⟨some 8, .call 64 [.t 7, .c (.int .i64 3)], none⟩,
      ⟨some 9, .mov (.t 1), none⟩,
      ⟨some 10, .call 71 [.t 9, .c (.int .i64 4), .c (.int .i64 9)], none⟩,
      ⟨some 11, .not (.t 10), none⟩,
      ⟨some 12, .call 64 [.t 11, .c (.int .i64 1)], none⟩,
      ⟨some 13, .bsl 1 [.t 8, .t 12], none⟩,
      ⟨some 14, .call 63 [.t 13], none⟩,
      ⟨some 4, .mov (.t 14), none⟩])
    .ret))
def rs_produce_headError : List IRes := [.t 4]
theorem ck_produce_headError : chkF Tryz.prog Tryz.f70 ir_produce_headError rs_produce_headError 15 = true := by kernel_rfl
/- paperchase/produce.written -/
def ir_produce_written : IC :=
  (.seq (.reg [⟨some 6, .mov (.c (.str [])), none⟩])
    (.seq (.reg [⟨some 8, .mov (.t 2), none⟩,
      ⟨some 9, .call 55 [.t 8], none⟩,
      ⟨some 7, .mov (.t 9), none⟩])
    (.seq (.reg [⟨some 10, .mov (.t 0), none⟩,
      ⟨some 11, .mov (.t 1), none⟩,
      ⟨some 12, .mov (.t 7), none⟩,
      ⟨some 13, .sln (.t 12), none⟩,
      ⟨some 14, .bin .sub (.t 11) (.t 13), none⟩,
      ⟨some 15, .mx (.c (.int .i64 0)) (.t 14), none⟩,
      ⟨some 16, .call 25 [.c (.str [48]), .t 15], none⟩,
      ⟨some 17, .bin .add (.t 10) (.t 16), none⟩,
      ⟨some 18, .mov (.t 7), none⟩,
      ⟨some 19, .bin .add (.t 17) (.t 18), none⟩,
      ⟨some 6, .mov (.t 19), none⟩])
    .ret)))
def rs_produce_written : List IRes := [.t 6]
theorem ck_produce_written : chkF Tryz.prog Tryz.f73 ir_produce_written rs_produce_written 20 = true := by kernel_rfl
/- paperchase/produce.Number -/
def ir_produce_Number : IC :=
  (.seq (.reg [⟨some 6, .mov (.c (.str [])), none⟩,
      ⟨some 7, .mov (.c (.int .i64 0)), none⟩])
    (.seq (.seq (.reg [⟨some 9, .mov (.t 0), none⟩,
      ⟨some 10, .mov (.t 1), none⟩,
      ⟨some 11, .call 70 [.t 9, .t 10], none⟩,
      ⟨some 8, .mov (.t 11), none⟩])
    (.seq (.reg [⟨some 12, .mov (.t 8), none⟩,
      ⟨some 13, .bin .neq (.t 12) (.c (.int .i64 0)), none⟩])
    (.cond (.t 13) (.seq (.reg [⟨some 14, .mov (.t 8), none⟩,
      ⟨some 6, .mov (.c (.str [])), none⟩,
      ⟨some 7, .mov (.t 14), none⟩])
    .ret) .skip)))
    (.seq (.seq (.reg [⟨some 15, .mov (.t 2), none⟩,
      ⟨some 16, .mov (.t 1), none⟩,
      ⟨some 17, .call 72 [.t 16], none⟩,
      ⟨some 18, .bin .sub (.t 17) (.c (.int .i64 1)), none⟩,
      ⟨some 19, .call 71 [.t 15, .c (.int .i64 1), .t 18], none⟩,
      ⟨some 20, .not (.t 19), none⟩])
    (.cond (.t 20) (.seq (.reg [⟨some 6, .mov (.c (.str [])), none⟩,
      ⟨some 7, .mov (.c (.int .i64 1)), none⟩])
    .ret) .skip))
    (.seq (.reg [⟨some 21, .mov (.t 0), none⟩,
      ⟨some 22, .mov (.t 1), none⟩,
      ⟨some 23, .mov (.t 2), none⟩,
      ⟨some 24, .call 73 [.t 21, .t 22, .t 23], none⟩,
      ⟨some 6, .mov (.t 24), none⟩,
      ⟨some 7, .mov (.c (.int .i64 0)), none⟩])
    .ret))))
def rs_produce_Number : List IRes := [.t 6, .t 7]
theorem ck_produce_Number : chkF Tryz.prog Tryz.f31 ir_produce_Number rs_produce_Number 25 = true := by kernel_rfl
/- paperchase/chaselaw1.produces -/
def ir_chaselaw1_produces : IC :=
  (.seq (.reg [⟨some 0, .mov (.c (.bool false)), none⟩])
    (.seq (.reg [⟨some 4, .call 31 [.c (.str [65, 66]), .c (.int .i64 4), .c (.int .i64 7)], none⟩,
      ⟨some 3, .mov (.t 4), none⟩,
      ⟨some 5, .ext 0 (.t 3), none⟩,
      ⟨some 6, .ext 1 (.t 3), none⟩,
      ⟨some 1, .mov (.t 5), none⟩,
      ⟨some 2, .mov (.t 6), none⟩])
    (.seq (.reg [⟨some 7, .mov (.t 2), none⟩,
      ⟨some 8, .bin .eql (.t 7) (.c (.int .i64 0)), none⟩,
      ⟨some 9, .mov (.t 8), none⟩,
      ⟨some 10, .mov (.t 1), (some (9, true))⟩,
      ⟨some 11, .bin .eql (.t 10) (.c (.str [65, 66, 48, 48, 48, 55])), (some (9, true))⟩,
      ⟨some 12, .pick (.t 9) (.t 11) (.c (.bool false)), none⟩,
      ⟨some 0, .mov (.t 12), none⟩])
    .ret)))
def rs_chaselaw1_produces : List IRes := [.t 0]
theorem ck_chaselaw1_produces : chkF Tryz.prog Tryz.f9 ir_chaselaw1_produces rs_chaselaw1_produces 13 = true := by kernel_rfl

set_option linter.unusedVariables false

theorem var_blockP {P : Program} {w w' : World} {n : String} {g : Nat} (hg : P.globalNamed n = some g) (hb : w'.heap[g]? = w.heap[g]?) : w'.var? P n = w.var? P n := by
  simp only [World.var?, hg, Option.bind_some, hb]
theorem grow_seqP (w : World) (k : Nat) (os : Array Obj) : Grow w (Sort.grow (w.drewN k) os) (fun _ => False) := ⟨rfl, rfl, rfl, by simp [Sort.grow, World.drewN], fun b hb _ => by simp [Sort.grow, World.drewN, Array.getElem?_append_left hb]⟩
/-- E0, and the table that numerals read. -/
def E4 : Envt where
  ok w := E0.ok w ∧ Lib.TabIs Tryz.prog w "internal/strconv.uint64pow10" .u64 Lib.pow10Tab
  bl b := E0.bl b ∨ b = 7
  mono w w' hb h := ⟨E0.mono w w' (fun b hbb => hb b (.inl hbb)) h.1, (var_blockP (by kernel_rfl) (hb _ (.inr rfl))).trans h.2⟩
theorem up4 {f : FuncId} {args : List PV} {φ : PV → Prop} (h : PCall Tryz.prog E0 f args φ) : PCall Tryz.prog E4 f args φ := fun w U vs hU hE hEb hA => h w U vs hU hE.1 (fun c hc => hEb c (.inl hc)) hA
theorem Itoa_okP (n : Int) (h0 : -9223372036854775808 ≤ n) (h1 : n ≤ 9223372036854775807) : PCall Tryz.prog E4 55 [int n] (· = .str (Lib.itoa n)) :=
  pcall_flat rfl rfl fun w hE => (Any.strconv_Itoa Tryz.layItoa n h0 h1 w hE.2).mono fun e w' h => ⟨h.1, by obtain ⟨k, os, rfl⟩ := h.2; exact grow_seqP w k os⟩
def notCapP (c : UInt8) : Bool := decide ((c.toNat : Int) < 65) || decide ((90 : Int) < (c.toNat : Int))
def isPreFP (s : List UInt8) : Bool := (s.all fun c => !notCapP c) && inE s.length 1 8
def headFP (p : List UInt8) (d : Int) : Int := firstE [whenE (!isPreFP p) 3, whenE (!inE d 4 9) 1]
def powFP (d : Int) : Int := (10 : Int) ^ d.toNat
def writGP (it : Int → List UInt8) (p : List UInt8) (d n : Int) : List UInt8 := p ++ Lib.repeatL [48] (max 0 (d - (it n).length)).toNat ++ it n
def numGP (it : Int → List UInt8) (p : List UInt8) (d n : Int) : List UInt8 × Int := if headFP p d = 0 then (if inE n 1 (powFP d - 1) = true then (writGP it p d n, 0) else ([], 1)) else ([], headFP p d)
/-- Digits by recursion on a bound: for the kernel. -/
def ddP : Nat → Nat → List UInt8
  | 0, _ => []
  | f + 1, u => if u < 10 then [UInt8.ofNat (48 + u)] else ddP f (u / 10) ++ [UInt8.ofNat (48 + u % 10)]
theorem dd_eqP : ∀ (f u : Nat), u < 10 ^ f → 0 < f → Lib.decDigits u = ddP f u
  | 0, u, _, h => absurd h (by decide)
  | f + 1, u, h, _ => by
    rw [Lib.decDigits, ddP]
    by_cases hu : u < 10
    · rw [dif_pos hu, if_pos hu]
    · rw [dif_neg hu, if_neg hu]
      have hf : 0 < f := by
        rcases Nat.eq_zero_or_pos f with rfl | h'
        · simp at h; omega
        · exact h'
      rw [dd_eqP f (u / 10) (by rw [Nat.pow_succ] at h; omega) hf]
def itDP (n : Int) : List UInt8 := if n < 0 then 45 :: ddP 12 n.natAbs else ddP 12 n.toNat
theorem itD_eqP {n : Int} (h0 : -100000000000 ≤ n) (h1 : n ≤ 100000000000) : Lib.itoa n = itDP n := by
  unfold Lib.itoa itDP
  split
  · rw [dd_eqP 12 _ (by omega) (by decide)]
  · rw [dd_eqP 12 _ (by omega) (by decide)]
theorem powF_bdP {d : Int} (h : d ≤ 9) : 1 ≤ powFP d ∧ powFP d ≤ 1000000000 := by
  unfold powFP
  have h1 : (10 : Nat) ^ d.toNat ≤ 10 ^ 9 := Nat.pow_le_pow_right (by decide) (by omega)
  have h2 : 1 ≤ (10 : Nat) ^ d.toNat := Nat.one_le_pow _ _ (by decide)
  have h3 : ((10 : Int) ^ d.toNat) = (((10 : Nat) ^ d.toNat : Nat) : Int) := by simp
  rw [h3]
  omega
theorem headF_zeroP {p : List UInt8} {d : Int} (h : headFP p d = 0) : 4 ≤ d ∧ d ≤ 9 ∧ p.length ≤ 8 := by
  have hm := firstE_mem h
  have h1 := hm (whenE (!isPreFP p) 3) (by simp)
  have h2 := hm (whenE (!inE d 4 9) 1) (by simp)
  unfold whenE at h1 h2
  split at h1
  · cases h1
  split at h2
  · cases h2
  rename_i a1 a2
  simp only [Bool.not_eq_true', Bool.not_eq_false] at a1 a2
  simp only [isPreFP, inE, Bool.and_eq_true, decide_eq_true_eq] at a1 a2
  omega
theorem numG_itP {p : List UInt8} {d n : Int} (h0 : -100 ≤ n) (h1 : n ≤ 1000000000) : numGP Lib.itoa p d n = numGP itDP p d n := by
  unfold numGP writGP
  rw [itD_eqP (by omega) (by omega)]
section
variable {E : Envt}
theorem pow_atP {i : Nat} (h : i ≤ 9) : 1 ≤ (10 : Int) ^ i ∧ (10 : Int) ^ i ≤ 1000000000 := by
  have := powF_bdP (d := (i : Int)) (by omega)
  simpa [powFP] using this
theorem power_okP (d : Int) (h0 : 0 ≤ d) (h : d ≤ 9) : PCall Tryz.prog E 72 [int d] (· = int (powFP d)) := by
  obtain ⟨m, rfl⟩ := Int.eq_ofNat_of_zero_le h0
  refine pcallF mixed Tryz.func72 ck_produce_power ?_
  simp only [a0, l0, OS.ao, List.map_cons, List.map_nil, List.length_cons, List.length_nil, List.cons_append, List.nil_append, Nat.reduceSub, Nat.reduceAdd, List.replicate_succ, List.replicate_zero, ir_produce_power, rs_produce_power, ZZ, YY, Ze, ite_true, ite_false, forall_const, reduceCtorEq, Nat.reduceAdd, Nat.reduceMul, Nat.reduceLeDiff, Nat.reduceLT, Nat.reduceEqDiff]
  refine loop_intro (fun n fr L => ∃ (k : Nat), k ≤ m ∧ n = m - k ∧ fr = [.any, .any, .any, .p (int ((10 : Int) ^ k)), .p (int (m : Nat)), .p (int (k : Nat)), .any, .any, .any, .any, .any] ∧ L = []) (m) [.any, .any, .any, .p (int ((10 : Int) ^ 0)), .p (int (m : Nat)), .p (int (0 : Nat)), .any, .any, .any, .any, .any] [] (by (simp only [ZZ, YY, Ze, ite_true, ite_false, forall_const, reduceCtorEq, Nat.reduceAdd, Nat.reduceMul, Nat.reduceLeDiff, Nat.reduceLT, Nat.reduceEqDiff]; try trivial)) (by (simp only [ZZ, YY, Ze, ite_true, ite_false, forall_const, reduceCtorEq, Nat.reduceAdd, Nat.reduceMul, Nat.reduceLeDiff, Nat.reduceLT, Nat.reduceEqDiff]; try trivial)) ⟨0, by omega, by omega, rfl, rfl⟩ ?_
  rintro n fr L ⟨k, hk, rfl, rfl, rfl⟩
  simp only [ir_produce_power_L0, ZZ, YY, Ze, ite_true, ite_false, forall_const, reduceCtorEq, Nat.reduceAdd, Nat.reduceMul, Nat.reduceLeDiff, Nat.reduceLT, Nat.reduceEqDiff]
  refine br ?_ ?_
  · intro h2
    have hlt : k < m := by have := of_decide_eq_true h2; omega
    have hb := pow_atP (i := k) (by omega)
    have hp : (10 : Int) ^ (k + 1) = (10 : Int) ^ k * 10 := by rw [Int.pow_succ]
    simp only [ZZ, YY, Ze, ite_true, ite_false, forall_const, reduceCtorEq, Nat.reduceAdd, Nat.reduceMul, Nat.reduceLeDiff, Nat.reduceLT, Nat.reduceEqDiff]
    ((repeat' (with_reducible apply And.intro)) <;> try ((first | first | assumption | trivial | exact (fun hq => by rw [hq]; rfl) | exact i64_of (by omega) (by omega) | omega | (simp; done) | (simp; omega) | (intro hsc; have hs0 := hsc; (try have hsd := of_decide_eq_true hsc); (try simp only [Bool.not_eq_true', Bool.or_eq_false_iff, Bool.and_eq_true, Bool.or_eq_true, decide_eq_true_eq, decide_eq_false_iff_not] at hsc); (repeat' (with_reducible apply And.intro)) <;> (first | assumption | trivial | exact (fun hq => by rw [hq]; rfl) | exact i64_of (by omega) (by omega) | omega | (simp; done) | (simp; omega) | (intro hse; simp [hse, hs0]; done) | (intro hse; simp only [hse, hs0, Bool.true_and, Bool.and_true, Bool.not_false, Bool.not_true, Bool.and_self]; done))))))
    refine end_round (m - (k + 1)) [.any, .any, .any, .p (int ((10 : Int) ^ (k + 1))), .p (int (m : Nat)), .p (int ((k + 1) : Nat)), .any, .any, .any, .any, .any] [] (by omega) (by (simp only [ZZ, YY, Ze, ite_true, ite_false, forall_const, reduceCtorEq, Nat.reduceAdd, Nat.reduceMul, Nat.reduceLeDiff, Nat.reduceLT, Nat.reduceEqDiff]; try trivial)) (by simp only [ZZ, YY, Ze, ite_true, ite_false, forall_const, reduceCtorEq, Nat.reduceAdd, Nat.reduceMul, Nat.reduceLeDiff, Nat.reduceLT, Nat.reduceEqDiff]) ⟨k + 1, by omega, rfl, rfl, rfl⟩
  · intro h2
    have hge : k = m := by have := of_decide_eq_false h2; omega
    subst hge
    simp only [ZZ, YY, Ze, ite_true, ite_false, forall_const, reduceCtorEq, Nat.reduceAdd, Nat.reduceMul, Nat.reduceLeDiff, Nat.reduceLT, Nat.reduceEqDiff]
    rfl
theorem isPrefix_okP (s : List UInt8) (hs : s.length ≤ 1000000000) : PCall Tryz.prog E 108 [.str s] (· = .bool (isPreFP s)) := by
  refine pcallF mixed Tryz.func108 ck_produce_isPrefix ?_
  simp only [a0, l0, OS.ao, List.map_cons, List.map_nil, List.length_cons, List.length_nil, List.cons_append, List.nil_append, Nat.reduceSub, Nat.reduceAdd, List.replicate_succ, List.replicate_zero, ir_produce_isPrefix, rs_produce_isPrefix, ZZ, YY, Ze, ite_true, ite_false, forall_const, reduceCtorEq, Nat.reduceAdd, Nat.reduceMul, Nat.reduceLeDiff, Nat.reduceLT, Nat.reduceEqDiff]
  refine loop_intro (fun n fr L => ∃ (k : Nat), k ≤ s.length ∧ n = s.length - k ∧ ((s.take k).all (fun c => !notCapP c) = true) ∧ fr = [.p (.str s), .any, .any, .any, .any, .p (int (s.length : Nat)), .p (int (k : Nat)), .any, .any, .any, .any, .any, .any, .any, .any, .any, .any, .any, .any, .any, .any, .any, .any] ∧ L = []) (s.length) [.p (.str s), .any, .any, .any, .any, .p (int (s.length : Nat)), .p (int (0 : Nat)), .any, .any, .any, .any, .any, .any, .any, .any, .any, .any, .any, .any, .any, .any, .any, .any] [] (by (simp only [ZZ, YY, Ze, ite_true, ite_false, forall_const, reduceCtorEq, Nat.reduceAdd, Nat.reduceMul, Nat.reduceLeDiff, Nat.reduceLT, Nat.reduceEqDiff]; try trivial)) (by (simp only [ZZ, YY, Ze, ite_true, ite_false, forall_const, reduceCtorEq, Nat.reduceAdd, Nat.reduceMul, Nat.reduceLeDiff, Nat.reduceLT, Nat.reduceEqDiff]; try trivial)) ⟨0, by omega, by omega, by simp, rfl, rfl⟩ ?_
  rintro n fr L ⟨k, hk, rfl, hall, rfl, rfl⟩
  simp only [ir_produce_isPrefix_L0, ZZ, YY, Ze, ite_true, ite_false, forall_const, reduceCtorEq, Nat.reduceAdd, Nat.reduceMul, Nat.reduceLeDiff, Nat.reduceLT, Nat.reduceEqDiff]
  refine br ?_ ?_
  · intro h2
    have hlt : k < s.length := by have := of_decide_eq_true h2; omega
    have hx : s[k]? = some (s.getD k 0) := by rw [List.getElem?_eq_getElem hlt]; simp [List.getD, hlt]
    have hnx := all_take (p := fun c => !notCapP c) hx
    simp only [ZZ, YY, Ze, ite_true, ite_false, forall_const, reduceCtorEq, Nat.reduceAdd, Nat.reduceMul, Nat.reduceLeDiff, Nat.reduceLT, Nat.reduceEqDiff]
    ((repeat' (with_reducible apply And.intro)) <;> try ((first | first | assumption | trivial | exact (fun hq => by rw [hq]; rfl) | exact i64_of (by omega) (by omega) | omega | (simp; done) | (simp; omega) | (intro hsc; have hs0 := hsc; (try have hsd := of_decide_eq_true hsc); (try simp only [Bool.not_eq_true', Bool.or_eq_false_iff, Bool.and_eq_true, Bool.or_eq_true, decide_eq_true_eq, decide_eq_false_iff_not] at hsc); (repeat' (with_reducible apply And.intro)) <;> (first | assumption | trivial | exact (fun hq => by rw [hq]; rfl) | exact i64_of (by omega) (by omega) | omega | (simp; done) | (simp; omega) | (intro hse; simp [hse, hs0]; done) | (intro hse; simp only [hse, hs0, Bool.true_and, Bool.and_true, Bool.not_false, Bool.not_true, Bool.and_self]; done))))))
    refine br ?_ ?_
    · intro hb
      have hf : s.all (fun c => !notCapP c) = false := by
        rw [List.all_eq_false]
        refine ⟨s.getD k 0, List.mem_of_getElem? hx, ?_⟩
        rw [show notCapP (s.getD k 0) = true from hb]
        simp
      simp only [ZZ, YY, Ze, ite_true, ite_false, forall_const, reduceCtorEq, Nat.reduceAdd, Nat.reduceMul, Nat.reduceLeDiff, Nat.reduceLT, Nat.reduceEqDiff]
      rw [isPreFP, hf, Bool.false_and]
    · intro hb
      simp only [ZZ, YY, Ze, ite_true, ite_false, forall_const, reduceCtorEq, Nat.reduceAdd, Nat.reduceMul, Nat.reduceLeDiff, Nat.reduceLT, Nat.reduceEqDiff]
      ((repeat' (with_reducible apply And.intro)) <;> try ((first | first | assumption | trivial | exact (fun hq => by rw [hq]; rfl) | exact i64_of (by omega) (by omega) | omega | (simp; done) | (simp; omega) | (intro hsc; have hs0 := hsc; (try have hsd := of_decide_eq_true hsc); (try simp only [Bool.not_eq_true', Bool.or_eq_false_iff, Bool.and_eq_true, Bool.or_eq_true, decide_eq_true_eq, decide_eq_false_iff_not] at hsc); (repeat' (with_reducible apply And.intro)) <;> (first | assumption | trivial | exact (fun hq => by rw [hq]; rfl) | exact i64_of (by omega) (by omega) | omega | (simp; done) | (simp; omega) | (intro hse; simp [hse, hs0]; done) | (intro hse; simp only [hse, hs0, Bool.true_and, Bool.and_true, Bool.not_false, Bool.not_true, Bool.and_self]; done))))))
      refine end_round (s.length - (k + 1)) [.p (.str s), .any, .any, .any, .any, .p (int (s.length : Nat)), .p (int ((k + 1) : Nat)), .any, .any, .any, .any, .any, .any, .any, .any, .any, .any, .any, .any, .any, .any, .any, .any] [] (by omega) (by (simp only [ZZ, YY, Ze, ite_true, ite_false, forall_const, reduceCtorEq, Nat.reduceAdd, Nat.reduceMul, Nat.reduceLeDiff, Nat.reduceLT, Nat.reduceEqDiff]; try trivial)) (by (simp only [ZZ, YY, Ze, ite_true, ite_false, forall_const, reduceCtorEq, Nat.reduceAdd, Nat.reduceMul, Nat.reduceLeDiff, Nat.reduceLT, Nat.reduceEqDiff]; try trivial)) ⟨k + 1, by omega, rfl, by rw [hnx, hall, show notCapP (s.getD k 0) = false from hb]; rfl, rfl, rfl⟩
  · intro h2
    have hge : k = s.length := by have := of_decide_eq_false h2; omega
    subst hge
    rw [List.take_length] at hall
    simp only [ZZ, YY, Ze, ite_true, ite_false, forall_const, reduceCtorEq, Nat.reduceAdd, Nat.reduceMul, Nat.reduceLeDiff, Nat.reduceLT, Nat.reduceEqDiff]
    refine use1 (In_ok s.length 1 8) rfl (.inl rfl) ?_
    simp only [ZZ, YY, Ze, ite_true, ite_false, forall_const, reduceCtorEq, Nat.reduceAdd, Nat.reduceMul, Nat.reduceLeDiff, Nat.reduceLT, Nat.reduceEqDiff]
    rw [isPreFP, hall, Bool.true_and]
theorem headError_okP (p : List UInt8) (d : Int) (hs : p.length ≤ 1000000000) : PCall Tryz.prog E 70 [.str p, int d] (· = int (headFP p d)) := by
  refine pcallF mixed Tryz.func70 ck_produce_headError ?_
  simp only [a0, l0, OS.ao, List.map_cons, List.map_nil, List.length_cons, List.length_nil, List.cons_append, List.nil_append, Nat.reduceSub, Nat.reduceAdd, List.replicate_succ, List.replicate_zero, ir_produce_headError, rs_produce_headError, ZZ, YY, Ze, ite_true, ite_false, forall_const, reduceCtorEq, Nat.reduceAdd, Nat.reduceMul, Nat.reduceLeDiff, Nat.reduceLT, Nat.reduceEqDiff]
  refine use1 (isPrefix_okP p hs) rfl (.inl rfl) ?_
  simp only [ZZ, YY, Ze, ite_true, ite_false, forall_const, reduceCtorEq, Nat.reduceAdd, Nat.reduceMul, Nat.reduceLeDiff, Nat.reduceLT, Nat.reduceEqDiff]
  refine use1 (When_ok _ 3) rfl (.inl rfl) ?_
  simp only [ZZ, YY, Ze, ite_true, ite_false, forall_const, reduceCtorEq, Nat.reduceAdd, Nat.reduceMul, Nat.reduceLeDiff, Nat.reduceLT, Nat.reduceEqDiff]
  refine use1 (In_ok d 4 9) rfl (.inl rfl) ?_
  simp only [ZZ, YY, Ze, ite_true, ite_false, forall_const, reduceCtorEq, Nat.reduceAdd, Nat.reduceMul, Nat.reduceLeDiff, Nat.reduceLT, Nat.reduceEqDiff]
  refine use1 (When_ok _ 1) rfl (.inl rfl) ?_
  simp only [ZZ, YY, Ze, ite_true, ite_false, forall_const, reduceCtorEq, Nat.reduceAdd, Nat.reduceMul, Nat.reduceLeDiff, Nat.reduceLT, Nat.reduceEqDiff]
  refine use1 (First_ok [whenE (!isPreFP p) 3, whenE (!inE d 4 9) 1] (by simp)) rfl (.inl rfl) ?_
  simp only [ZZ, YY, Ze, ite_true, ite_false, forall_const, reduceCtorEq, Nat.reduceAdd, Nat.reduceMul, Nat.reduceLeDiff, Nat.reduceLT, Nat.reduceEqDiff]
  rfl
theorem itoa_lenP {n : Int} (h0 : 0 ≤ n) (h1 : n ≤ 100000000000) : (Lib.itoa n).length ≤ 20 := by
  rw [itD_eqP (by omega) h1]
  have : ∀ f u, (ddP f u).length ≤ f := by
    intro f
    induction f with
    | zero => intro u; simp [ddP]
    | succ f ih =>
      intro u
      rw [ddP]
      split
      · simp
      · have := ih (u / 10); simp; omega
  unfold itDP
  split
  · omega
  · have := this 12 n.toNat; omega
theorem written_okP (p : List UInt8) (d n : Int) (hp : p.length ≤ 8) (hd0 : 4 ≤ d) (hd : d ≤ 9) (h0 : 0 ≤ n) (h1 : n ≤ 1000000000) : PCall Tryz.prog E4 73 [.str p, int d, int n] (· = .str (writGP Lib.itoa p d n)) := by
  refine pcallF mixed Tryz.func73 ck_produce_written ?_
  simp only [a0, l0, OS.ao, List.map_cons, List.map_nil, List.length_cons, List.length_nil, List.cons_append, List.nil_append, Nat.reduceSub, Nat.reduceAdd, List.replicate_succ, List.replicate_zero, ir_produce_written, rs_produce_written, ZZ, YY, Ze, ite_true, ite_false, forall_const, reduceCtorEq, Nat.reduceAdd, Nat.reduceMul, Nat.reduceLeDiff, Nat.reduceLT, Nat.reduceEqDiff]
  refine use1 (Itoa_okP n (by omega) (by omega)) rfl (.inl rfl) ?_
  have hil := itoa_lenP h0 (by omega)
  unfold writGP
  generalize Lib.itoa n = it at *
  obtain ⟨m, hm⟩ := Int.eq_ofNat_of_zero_le (show 0 ≤ max 0 (d - (it.length : Int)) by omega)
  have hm9 : m ≤ 9 := by omega
  rw [hm, Int.toNat_natCast]
  simp only [ZZ, YY, Ze, ite_true, ite_false, forall_const, reduceCtorEq, Nat.reduceAdd, Nat.reduceMul, Nat.reduceLeDiff, Nat.reduceLT, Nat.reduceEqDiff, hm]
  ((repeat' (with_reducible apply And.intro)) <;> try ((first | first | assumption | trivial | exact (fun hq => by rw [hq]; rfl) | exact i64_of (by omega) (by omega) | omega | (simp; done) | (simp; omega) | (intro hsc; have hs0 := hsc; (try have hsd := of_decide_eq_true hsc); (try simp only [Bool.not_eq_true', Bool.or_eq_false_iff, Bool.and_eq_true, Bool.or_eq_true, decide_eq_true_eq, decide_eq_false_iff_not] at hsc); (repeat' (with_reducible apply And.intro)) <;> (first | assumption | trivial | exact (fun hq => by rw [hq]; rfl) | exact i64_of (by omega) (by omega) | omega | (simp; done) | (simp; omega) | (intro hse; simp [hse, hs0]; done) | (intro hse; simp only [hse, hs0, Bool.true_and, Bool.and_true, Bool.not_false, Bool.not_true, Bool.and_self]; done))))))
  refine use1 (Repeat_ok [48] m (by omega) (by simp)) rfl (.inl rfl) ?_
  have hrl : (Lib.repeatL [48] m).length ≤ 9 := by rw [Lib.repeatL_length]; simp; omega
  simp only [ZZ, YY, Ze, ite_true, ite_false, forall_const, reduceCtorEq, Nat.reduceAdd, Nat.reduceMul, Nat.reduceLeDiff, Nat.reduceLT, Nat.reduceEqDiff]
  ((repeat' (with_reducible apply And.intro)) <;> try ((first | first | assumption | trivial | exact (fun hq => by rw [hq]; rfl) | exact i64_of (by omega) (by omega) | omega | (simp; done) | (simp; omega) | (intro hsc; have hs0 := hsc; (try have hsd := of_decide_eq_true hsc); (try simp only [Bool.not_eq_true', Bool.or_eq_false_iff, Bool.and_eq_true, Bool.or_eq_true, decide_eq_true_eq, decide_eq_false_iff_not] at hsc); (repeat' (with_reducible apply And.intro)) <;> (first | assumption | trivial | exact (fun hq => by rw [hq]; rfl) | exact i64_of (by omega) (by omega) | omega | (simp; done) | (simp; omega) | (intro hse; simp [hse, hs0]; done) | (intro hse; simp only [hse, hs0, Bool.true_and, Bool.and_true, Bool.not_false, Bool.not_true, Bool.and_self]; done))))))
theorem Number_okP (p : List UInt8) (d n : Int) (hp : p.length ≤ 1000) : PCall Tryz.prog E4 31 [.str p, int d, int n] (· = .tup [.str (numGP Lib.itoa p d n).1, int (numGP Lib.itoa p d n).2]) := by
  refine pcallF mixed Tryz.func31 ck_produce_Number ?_
  simp only [a0, l0, OS.ao, List.map_cons, List.map_nil, List.length_cons, List.length_nil, List.cons_append, List.nil_append, Nat.reduceSub, Nat.reduceAdd, List.replicate_succ, List.replicate_zero, ir_produce_Number, rs_produce_Number, ZZ, YY, Ze, ite_true, ite_false, forall_const, reduceCtorEq, Nat.reduceAdd, Nat.reduceMul, Nat.reduceLeDiff, Nat.reduceLT, Nat.reduceEqDiff]
  refine use1 (headError_okP p d (by omega)) rfl (.inl rfl) ?_
  simp only [ZZ, YY, Ze, ite_true, ite_false, forall_const, reduceCtorEq, Nat.reduceAdd, Nat.reduceMul, Nat.reduceLeDiff, Nat.reduceLT, Nat.reduceEqDiff]
  unfold numGP
  refine br ?_ ?_
  · intro h
    have h : ¬ headFP p d = 0 := by simpa using h
    simp only [ZZ, YY, Ze, ite_true, ite_false, forall_const, reduceCtorEq, Nat.reduceAdd, Nat.reduceMul, Nat.reduceLeDiff, Nat.reduceLT, Nat.reduceEqDiff]
    rw [if_neg h]
  · intro h
    have h : headFP p d = 0 := by simpa using h
    obtain ⟨g1, g2, g3⟩ := headF_zeroP h
    have hb := powF_bdP g2
    rw [if_pos h]
    simp only [ZZ, YY, Ze, ite_true, ite_false, forall_const, reduceCtorEq, Nat.reduceAdd, Nat.reduceMul, Nat.reduceLeDiff, Nat.reduceLT, Nat.reduceEqDiff]
    refine use1 (power_okP d (by omega) g2) rfl (.inl rfl) ?_
    simp only [ZZ, YY, Ze, ite_true, ite_false, forall_const, reduceCtorEq, Nat.reduceAdd, Nat.reduceMul, Nat.reduceLeDiff, Nat.reduceLT, Nat.reduceEqDiff]
    ((repeat' (with_reducible apply And.intro)) <;> try ((first | first | assumption | trivial | exact (fun hq => by rw [hq]; rfl) | exact i64_of (by omega) (by omega) | omega | (simp; done) | (simp; omega) | (intro hsc; have hs0 := hsc; (try have hsd := of_decide_eq_true hsc); (try simp only [Bool.not_eq_true', Bool.or_eq_false_iff, Bool.and_eq_true, Bool.or_eq_true, decide_eq_true_eq, decide_eq_false_iff_not] at hsc); (repeat' (with_reducible apply And.intro)) <;> (first | assumption | trivial | exact (fun hq => by rw [hq]; rfl) | exact i64_of (by omega) (by omega) | omega | (simp; done) | (simp; omega) | (intro hse; simp [hse, hs0]; done) | (intro hse; simp only [hse, hs0, Bool.true_and, Bool.and_true, Bool.not_false, Bool.not_true, Bool.and_self]; done))))))
    refine use1 (In_ok n 1 (powFP d - 1)) rfl (.inl rfl) ?_
    simp only [ZZ, YY, Ze, ite_true, ite_false, forall_const, reduceCtorEq, Nat.reduceAdd, Nat.reduceMul, Nat.reduceLeDiff, Nat.reduceLT, Nat.reduceEqDiff]
    refine br ?_ ?_
    · intro h2
      have h2 : inE n 1 (powFP d - 1) = false := by simpa using h2
      simp only [ZZ, YY, Ze, ite_true, ite_false, forall_const, reduceCtorEq, Nat.reduceAdd, Nat.reduceMul, Nat.reduceLeDiff, Nat.reduceLT, Nat.reduceEqDiff]
      rw [if_neg (by rw [h2]; simp)]
    · intro h2
      have h2 : inE n 1 (powFP d - 1) = true := by simpa using h2
      have h3 := h2
      simp only [inE, Bool.and_eq_true, decide_eq_true_eq] at h3
      simp only [ZZ, YY, Ze, ite_true, ite_false, forall_const, reduceCtorEq, Nat.reduceAdd, Nat.reduceMul, Nat.reduceLeDiff, Nat.reduceLT, Nat.reduceEqDiff]
      refine use1 (written_okP p d n g3 g1 g2 (by omega) (by omega)) rfl (.inl rfl) ?_
      simp only [ZZ, YY, Ze, ite_true, ite_false, forall_const, reduceCtorEq, Nat.reduceAdd, Nat.reduceMul, Nat.reduceLeDiff, Nat.reduceLT, Nat.reduceEqDiff]
      rw [if_pos h2]
theorem produces_okP : PCall Tryz.prog E4 9 [] (· = .bool true) := by
  refine pcallF mixed Tryz.func9 ck_chaselaw1_produces ?_
  simp only [a0, l0, OS.ao, List.map_cons, List.map_nil, List.length_cons, List.length_nil, List.cons_append, List.nil_append, Nat.reduceSub, Nat.reduceAdd, List.replicate_succ, List.replicate_zero, ir_chaselaw1_produces, rs_chaselaw1_produces, ZZ, YY, Ze, ite_true, ite_false, forall_const, reduceCtorEq, Nat.reduceAdd, Nat.reduceMul, Nat.reduceLeDiff, Nat.reduceLT, Nat.reduceEqDiff]
  refine use1 (Number_okP [65, 66] 4 7 (by simp)) rfl (.inl rfl) ?_
  rw [numG_itP (by omega) (by omega), show numGP itDP [65, 66] 4 7 = ([65, 66, 48, 48, 48, 55], 0) from by decide +kernel]
  simp only [ZZ, YY, Ze, ite_true, ite_false, forall_const, reduceCtorEq, Nat.reduceAdd, Nat.reduceMul, Nat.reduceLeDiff, Nat.reduceLT, Nat.reduceEqDiff]
  rfl
end
end Go.Proofs.YtejekkhhpkeckaaGreatDoor
