
/- Own texts, put together: I2 G1 G2 G3 G4 G5 G6 I7 V4. -/
import Derived.Test.YtidmphcocnaonaaGreatDoorZ6
import Derived.Test.YtidmphcocnaonaaGreatDoorZ5
import Derived.Test.YtidmphcocnaonaaGreatDoorZ3
import Derived.Test.YtidmphcocnaonaaGreatDoorRep
import Derived.Test.YtidmphcocnaonaaGreatDoorLayTrimRight
/- Addresses: their form, on both sides. -/
namespace Go.Proofs.YtidmphcocnaonaaGreatDoor
open Go.RowKit
set_option linter.unusedVariables false
set_option linter.unusedSimpArgs false
set_option linter.defProp false

/- paperchase/thread.all -/
def ir_thread_all_L0 : IC :=
  (.seq (.reg [⟨some 14, .bin .lss (.t 13) (.t 12), none⟩])
    (.seq (.cond (.t 14) .skip (.exit 0))
    (.seq (.block 1 (.seq (.reg [⟨some 15, .mov (.t 13), none⟩,
      ⟨some 9, .mov (.t 15), none⟩])
    (.seq (.reg [⟨some 16, .mov (.t 0), none⟩,
      ⟨some 17, .mov (.t 9), none⟩,
      ⟨some 18, .idx (.t 16) (.t 17), none⟩,
      ⟨some 10, .mov (.t 18), none⟩])
    (.seq (.reg [⟨some 19, .mov (.t 10), none⟩,
      ⟨some 20, .bin .geq (.t 19) (.c (.int .u8 97)), none⟩,
      ⟨some 21, .mov (.t 20), none⟩,
      ⟨some 22, .mov (.t 10), (some (21, true))⟩,
      ⟨some 23, .bin .leq (.t 22) (.c (.int .u8 122)), (some (21, true))⟩,
      ⟨some 24, .pick (.t 21) (.t 23) (.c (.bool false)), none⟩,
      ⟨some 25, .not (.t 24), none⟩,
      ⟨some 26, .mov (.t 25), none⟩,
      ⟨some 27, .mov (.t 10), (some (26, true))⟩,
      ⟨some 28, .call 240 [.t 27], (some (26, true))⟩,
      ⟨some 29, .not (.t 28), (some (26, true))⟩,
      ⟨some 30, .pick (.t 26) (.t 29) (.c (.bool false)), none⟩,
      ⟨some 31, .mov (.t 30), none⟩,
      ⟨some 32, .mov (.t 1), (some (31, true))⟩,
      ⟨some 33, .mov (.t 10), (some (31, true))⟩,
      ⟨some 34, .call 261 [.t 32, .t 33], (some (31, true))⟩,
      ⟨some 35, .bin .lss (.t 34) (.c (.int .i64 0)), (some (31, true))⟩,
      ⟨some 36, .pick (.t 31) (.t 35) (.c (.bool false)), none⟩])
    (.cond (.t 36) (.seq (.reg [⟨some 8, .mov (.c (.bool false)), none⟩])
    .ret) .skip)))))
    (.reg [⟨some 37, .bin .add (.t 13) (.c (.int .i64 1)), none⟩,
      ⟨some 13, .mov (.t 37), none⟩]))))
def ir_thread_all : IC :=
  (.seq (.reg [⟨some 8, .mov (.c (.bool false)), none⟩])
    (.seq (.seq (.reg [⟨some 11, .mov (.t 0), none⟩,
      ⟨some 12, .sln (.t 11), none⟩,
      ⟨some 13, .mov (.c (.int .i64 0)), none⟩])
    (.block 0 (.loop ir_thread_all_L0)))
    (.seq (.reg [⟨some 38, .mov (.t 0), none⟩,
      ⟨some 39, .sln (.t 38), none⟩,
      ⟨some 40, .mov (.t 2), none⟩,
      ⟨some 41, .mov (.t 3), none⟩,
      ⟨some 42, .call 71 [.t 39, .t 40, .t 41], none⟩,
      ⟨some 8, .mov (.t 42), none⟩])
    .ret)))
def rs_thread_all : List IRes := [.t 8]
theorem ck_thread_all : chkF Tryz.prog Tryz.f195 ir_thread_all rs_thread_all 43 = true := by kernel_rfl
/- paperchase/thread.IsDomain -/
def ir_thread_IsDomain_L0 : IC :=
  (.seq (.reg [⟨some 11, .bin .lss (.t 10) (.t 9), none⟩])
    (.seq (.cond (.t 11) .skip (.exit 0))
    (.seq (.block 1 (.seq (.reg [⟨some 12, .ixa 1 (.t 8) (.t 10), none⟩,
      ⟨some 13, .ld 1 false (.t 12), none⟩,
      ⟨some 5, .mov (.t 13), none⟩])
    (.seq (.reg [⟨some 14, .mov (.t 5), none⟩,
      ⟨some 15, .call 195 [.t 14, .c (.str [45]), .c (.int .i64 1), .c (.int .i64 30)], none⟩,
      ⟨some 16, .not (.t 15), none⟩])
    (.cond (.t 16) (.seq (.reg [⟨some 2, .mov (.c (.bool false)), none⟩])
    .ret) .skip))))
    (.reg [⟨some 17, .bin .add (.t 10) (.c (.int .i64 1)), none⟩,
      ⟨some 10, .mov (.t 17), none⟩]))))
def ir_thread_IsDomain : IC :=
  (.seq (.reg [⟨some 2, .mov (.c (.bool false)), none⟩])
    (.seq (.reg [⟨some 6, .mov (.t 0), none⟩,
      ⟨some 7, .call 93 [.t 6, .c (.str [46])], none⟩,
      ⟨some 3, .mov (.t 7), none⟩])
    (.seq (.seq (.reg [⟨some 8, .mov (.t 3), none⟩,
      ⟨some 9, .len (.t 8), none⟩,
      ⟨some 10, .mov (.c (.int .i64 0)), none⟩])
    (.block 0 (.loop ir_thread_IsDomain_L0)))
    (.seq (.reg [⟨some 18, .mov (.t 3), none⟩,
      ⟨some 19, .len (.t 18), none⟩,
      ⟨some 20, .bin .gtr (.t 19) (.c (.int .i64 1)), none⟩,
      ⟨some 2, .mov (.t 20), none⟩])
    .ret))))
def rs_thread_IsDomain : List IRes := [.t 2]
theorem ck_thread_IsDomain : chkF Tryz.prog Tryz.f196 ir_thread_IsDomain rs_thread_IsDomain 21 = true := by kernel_rfl
/- paperchase/thread.IsMail -/
def ir_thread_IsMail : IC :=
  (.seq (.reg [⟨some 2, .mov (.c (.bool false)), none⟩])
    (.seq (.reg [⟨some 7, .mov (.t 0), none⟩,
      ⟨some 8, .call 115 [.t 7, .c (.str [64])], none⟩,
      ⟨some 6, .mov (.t 8), none⟩,
      ⟨some 9, .ext 0 (.t 6), none⟩,
      ⟨some 10, .ext 1 (.t 6), none⟩,
      ⟨some 11, .ext 2 (.t 6), none⟩,
      ⟨some 3, .mov (.t 9), none⟩,
      ⟨some 4, .mov (.t 10), none⟩,
      ⟨some 5, .mov (.t 11), none⟩])
    (.seq (.seq (.reg [⟨some 12, .mov (.t 5), none⟩,
      ⟨some 13, .not (.t 12), none⟩,
      ⟨some 14, .mov (.t 13), none⟩,
      ⟨some 15, .mov (.t 0), (some (14, false))⟩,
      ⟨some 16, .sln (.t 15), (some (14, false))⟩,
      ⟨some 17, .bin .gtr (.t 16) (.c (.int .i64 80)), (some (14, false))⟩,
      ⟨some 18, .pick (.t 14) (.c (.bool true)) (.t 17), none⟩,
      ⟨some 19, .mov (.t 18), none⟩,
      ⟨some 20, .mov (.t 3), (some (19, false))⟩,
      ⟨some 21, .call 195 [.t 20, .c (.str [46, 45, 95, 43]), .c (.int .i64 1), .c (.int .i64 40)], (some (19, false))⟩,
      ⟨some 22, .not (.t 21), (some (19, false))⟩,
      ⟨some 23, .pick (.t 19) (.c (.bool true)) (.t 22), none⟩])
    (.cond (.t 23) (.seq (.reg [⟨some 2, .mov (.c (.bool false)), none⟩])
    .ret) .skip))
    (.seq (.reg [⟨some 24, .mov (.t 4), none⟩,
      ⟨some 25, .call 196 [.t 24], none⟩,
      ⟨some 2, .mov (.t 25), none⟩])
    .ret))))
def rs_thread_IsMail : List IRes := [.t 2]
theorem ck_thread_IsMail : chkF Tryz.prog Tryz.f113 ir_thread_IsMail rs_thread_IsMail 26 = true := by kernel_rfl
def inB (o : List UInt8) (c : UInt8) : Bool := ((decide (97 ≤ (c.toNat : Int)) && decide ((c.toNat : Int) ≤ 122)) || digB c) || decide (0 ≤ Lib.indexByte o c)
def allB (s o : List UInt8) : Bool := s.all (inB o)
def domF (s : List UInt8) : Bool := (splF s 46).all (fun x => allB x [45] && inE x.length 1 30) && decide (1 < (splF s 46).length)
def mailF (s : List UInt8) : Bool := (((cutF s [64]).2.2 && decide ((s.length : Int) ≤ 80)) && (allB (cutF s [64]).1 [46, 45, 95, 43] && inE (cutF s [64]).1.length 1 40)) && domF (cutF s [64]).2.1
theorem all_snoc {l : List UInt8} {p : UInt8 → Bool} {k : Nat} {c : UInt8} (h : l[k]? = some c) : (l.take (k + 1)).all p = ((l.take k).all p && p c) := all_take h
theorem all_false {α : Type} {l : List α} {p : α → Bool} {k : Nat} {c : α} (h : l[k]? = some c) (hp : p c = false) : l.all p = false := by
  rw [List.all_eq_false]
  exact ⟨c, List.mem_of_getElem? h, by simp [hp]⟩
section
variable {E : Envt}
theorem all_ok (s o : List UInt8) (lo hi : Int) (hs : s.length ≤ 1000000000) : PCall Tryz.prog E 195 [.str s, .str o, int lo, int hi] (· = .bool (allB s o && inE s.length lo hi)) := by
  refine pcallF mixed Tryz.func195 ck_thread_all ?_
  simp only [a0, l0, OS.ao, List.map_cons, List.map_nil, List.length_cons, List.length_nil, List.cons_append, List.nil_append, Nat.reduceSub, Nat.reduceAdd, List.replicate_succ, List.replicate_zero, ir_thread_all, rs_thread_all, ZZ, YY, Ze, ite_true, ite_false, forall_const, reduceCtorEq, Nat.reduceAdd, Nat.reduceMul, Nat.reduceLeDiff, Nat.reduceLT, Nat.reduceEqDiff]
  refine loop_intro (fun n fr L => ∃ (k : Nat), k ≤ s.length ∧ n = s.length - k ∧ ((s.take k).all (inB o) = true) ∧ fr = [.p (.str s), .p (.str o), .p (int lo), .p (int hi), .any, .any, .any, .any, .any, .any, .any, .any, .p (int (s.length : Nat)), .p (int (k : Nat)), .any, .any, .any, .any, .any, .any, .any, .any, .any, .any, .any, .any, .any, .any, .any, .any, .any, .any, .any, .any, .any, .any, .any, .any, .any, .any, .any, .any, .any] ∧ L = []) (s.length) [.p (.str s), .p (.str o), .p (int lo), .p (int hi), .any, .any, .any, .any, .any, .any, .any, .any, .p (int (s.length : Nat)), .p (int (0 : Nat)), .any, .any, .any, .any, .any, .any, .any, .any, .any, .any, .any, .any, .any, .any, .any, .any, .any, .any, .any, .any, .any, .any, .any, .any, .any, .any, .any, .any, .any] [] (by (simp only [ZZ, YY, Ze, ite_true, ite_false, forall_const, reduceCtorEq, Nat.reduceAdd, Nat.reduceMul, Nat.reduceLeDiff, Nat.reduceLT, Nat.reduceEqDiff]; try trivial)) (by (simp only [ZZ, YY, Ze, ite_true, ite_false, forall_const, reduceCtorEq, Nat.reduceAdd, Nat.reduceMul, Nat.reduceLeDiff, Nat.reduceLT, Nat.reduceEqDiff]; try trivial)) ⟨0, by omega, by omega, by simp, rfl, rfl⟩ ?_
  rintro n fr L ⟨k, hk, rfl, ha, rfl, rfl⟩
  simp only [ir_thread_all_L0, ZZ, YY, Ze, ite_true, ite_false, forall_const, reduceCtorEq, Nat.reduceAdd, Nat.reduceMul, Nat.reduceLeDiff, Nat.reduceLT, Nat.reduceEqDiff]
  refine br ?_ ?_
  · intro h
    have hlt : k < s.length := by have := of_decide_eq_true h; omega
    obtain ⟨c, hc⟩ : ∃ c, s[k]? = some c := ⟨_, List.getElem?_eq_getElem hlt⟩
    have hg : s.getD k 0 = c := by simp [List.getD, hc]
    simp only [ZZ, YY, Ze, ite_true, ite_false, forall_const, reduceCtorEq, Nat.reduceAdd, Nat.reduceMul, Nat.reduceLeDiff, Nat.reduceLT, Nat.reduceEqDiff, hg]
    ((repeat' (with_reducible apply And.intro)) <;> try ((first | first | assumption | trivial | exact (fun hq => by rw [hq]; rfl) | exact i64_of (by omega) (by omega) | omega | (simp; done) | (simp; omega) | (intro hsc; have hs0 := hsc; (try have hsd := of_decide_eq_true hsc); (try simp only [Bool.not_eq_true', Bool.or_eq_false_iff, Bool.and_eq_true, Bool.or_eq_true, decide_eq_true_eq, decide_eq_false_iff_not] at hsc); (repeat' (with_reducible apply And.intro)) <;> (first | assumption | trivial | exact (fun hq => by rw [hq]; rfl) | exact i64_of (by omega) (by omega) | omega | (simp; done) | (simp; omega) | (intro hse; simp [hse, hs0]; done) | (intro hse; simp only [hse, hs0, Bool.true_and, Bool.and_true, Bool.not_false, Bool.not_true, Bool.and_self]; done))))))
    refine useG (fun _ => Digit_ok c) rfl (.inl rfl) ?_
    simp only [ZZ, YY, Ze, ite_true, ite_false, forall_const, reduceCtorEq, Nat.reduceAdd, Nat.reduceMul, Nat.reduceLeDiff, Nat.reduceLT, Nat.reduceEqDiff]
    ((repeat' (with_reducible apply And.intro)) <;> try ((first | first | assumption | trivial | exact (fun hq => by rw [hq]; rfl) | exact i64_of (by omega) (by omega) | omega | (simp; done) | (simp; omega) | (intro hsc; have hs0 := hsc; (try have hsd := of_decide_eq_true hsc); (try simp only [Bool.not_eq_true', Bool.or_eq_false_iff, Bool.and_eq_true, Bool.or_eq_true, decide_eq_true_eq, decide_eq_false_iff_not] at hsc); (repeat' (with_reducible apply And.intro)) <;> (first | assumption | trivial | exact (fun hq => by rw [hq]; rfl) | exact i64_of (by omega) (by omega) | omega | (simp; done) | (simp; omega) | (intro hse; simp [hse, hs0]; done) | (intro hse; simp only [hse, hs0, Bool.true_and, Bool.and_true, Bool.not_false, Bool.not_true, Bool.and_self]; done))))))
    refine useG (fun _ => IndexByte_ok o c) rfl (.inl rfl) ?_
    simp only [ZZ, YY, Ze, ite_true, ite_false, forall_const, reduceCtorEq, Nat.reduceAdd, Nat.reduceMul, Nat.reduceLeDiff, Nat.reduceLT, Nat.reduceEqDiff]
    ((repeat' (with_reducible apply And.intro)) <;> try ((first | first | assumption | trivial | exact (fun hq => by rw [hq]; rfl) | exact i64_of (by omega) (by omega) | omega | (simp; done) | (simp; omega) | (intro hsc; have hs0 := hsc; (try have hsd := of_decide_eq_true hsc); (try simp only [Bool.not_eq_true', Bool.or_eq_false_iff, Bool.and_eq_true, Bool.or_eq_true, decide_eq_true_eq, decide_eq_false_iff_not] at hsc); (repeat' (with_reducible apply And.intro)) <;> (first | assumption | trivial | exact (fun hq => by rw [hq]; rfl) | exact i64_of (by omega) (by omega) | omega | (simp; done) | (simp; omega) | (intro hse; simp [hse, hs0]; done) | (intro hse; simp only [hse, hs0, Bool.true_and, Bool.and_true, Bool.not_false, Bool.not_true, Bool.and_self]; done))))))
    have hB : (((!(decide (97 ≤ (c.toNat : Int)) && decide ((c.toNat : Int) ≤ 122)) && !digB c)) && decide (Lib.indexByte o c < 0)) = !inB o c := by
      unfold inB
      have : decide (Lib.indexByte o c < 0) = !decide (0 ≤ Lib.indexByte o c) := by
        by_cases h : 0 ≤ Lib.indexByte o c <;> simp [h] <;> omega
      rw [this]
      cases (decide (97 ≤ (c.toNat : Int)) && decide ((c.toNat : Int) ≤ 122)) <;> cases digB c <;> simp
    refine br ?_ ?_
    · intro hx
      have hf : inB o c = false := by rw [hB] at hx; simpa using hx
      simp only [ZZ, YY, Ze, ite_true, ite_false, forall_const, reduceCtorEq, Nat.reduceAdd, Nat.reduceMul, Nat.reduceLeDiff, Nat.reduceLT, Nat.reduceEqDiff]
      rw [allB, all_false hc hf]
      rfl
    · intro hx
      have hf : inB o c = true := by rw [hB] at hx; simpa using hx
      simp only [ZZ, YY, Ze, ite_true, ite_false, forall_const, reduceCtorEq, Nat.reduceAdd, Nat.reduceMul, Nat.reduceLeDiff, Nat.reduceLT, Nat.reduceEqDiff]
      refine ⟨i64_of (by omega) (by omega), ?_⟩
      refine end_round (s.length - (k + 1)) [.p (.str s), .p (.str o), .p (int lo), .p (int hi), .any, .any, .any, .any, .any, .any, .any, .any, .p (int (s.length : Nat)), .p (int ((k + 1) : Nat)), .any, .any, .any, .any, .any, .any, .any, .any, .any, .any, .any, .any, .any, .any, .any, .any, .any, .any, .any, .any, .any, .any, .any, .any, .any, .any, .any, .any, .any] [] (by omega) (by (simp only [ZZ, YY, Ze, ite_true, ite_false, forall_const, reduceCtorEq, Nat.reduceAdd, Nat.reduceMul, Nat.reduceLeDiff, Nat.reduceLT, Nat.reduceEqDiff]; try trivial)) (by (simp only [ZZ, YY, Ze, ite_true, ite_false, forall_const, reduceCtorEq, Nat.reduceAdd, Nat.reduceMul, Nat.reduceLeDiff, Nat.reduceLT, Nat.reduceEqDiff]; try trivial)) ⟨k + 1, by omega, rfl, by rw [all_snoc hc, ha, hf]; rfl, rfl, rfl⟩
  · intro h
    have hge : k = s.length := by have := of_decide_eq_false h; omega
    subst hge
    rw [List.take_length] at ha
    simp only [ZZ, YY, Ze, ite_true, ite_false, forall_const, reduceCtorEq, Nat.reduceAdd, Nat.reduceMul, Nat.reduceLeDiff, Nat.reduceLT, Nat.reduceEqDiff]
    refine use1 (In_ok _ _ _) rfl (.inl rfl) ?_
    simp only [ZZ, YY, Ze, ite_true, ite_false, forall_const, reduceCtorEq, Nat.reduceAdd, Nat.reduceMul, Nat.reduceLeDiff, Nat.reduceLT, Nat.reduceEqDiff]
    rw [allB, ha]
    rfl
end
theorem IsDomain_ok (s : List UInt8) (hs : s.length ≤ 1000000000) : PCall Tryz.prog E0 196 [.str s] (· = .bool (domF s)) := by
  refine pcallF mixed Tryz.func196 ck_thread_IsDomain ?_
  simp only [a0, l0, OS.ao, List.map_cons, List.map_nil, List.length_cons, List.length_nil, List.cons_append, List.nil_append, Nat.reduceSub, Nat.reduceAdd, List.replicate_succ, List.replicate_zero, ir_thread_IsDomain, rs_thread_IsDomain, ZZ, YY, Ze, ite_true, ite_false, forall_const, reduceCtorEq, Nat.reduceAdd, Nat.reduceMul, Nat.reduceLeDiff, Nat.reduceLT, Nat.reduceEqDiff]
  refine use1 (Split_ok s 46 hs) rfl (.inl rfl) ?_
  rw [strs_eq]
  have hD : domF s = ((splF s 46).all (fun x => allB x [45] && inE x.length 1 30) && decide (1 < (splF s 46).length)) := rfl
  rw [hD]
  have hmem := splF_mem s 46
  have hlen := splF_len s 46
  generalize splF s 46 = ls at *
  simp only [ZZ, YY, Ze, ite_true, ite_false, forall_const, reduceCtorEq, Nat.reduceAdd, Nat.reduceMul, Nat.reduceLeDiff, Nat.reduceLT, Nat.reduceEqDiff, strE_len]
  refine loop_intro (fun n fr L => ∃ (k : Nat), k ≤ ls.length ∧ n = ls.length - k ∧ ((ls.take k).all (fun x => allB x [45] && inE x.length 1 30) = true) ∧ fr = [.any, .any, .any, .p (.sl 1 (strE ls)), .any, .any, .any, .any, .p (.sl 1 (strE ls)), .p (int (ls.length : Nat)), .p (int (k : Nat)), .any, .any, .any, .any, .any, .any, .any, .any, .any, .any] ∧ L = []) (ls.length) [.any, .any, .any, .p (.sl 1 (strE ls)), .any, .any, .any, .any, .p (.sl 1 (strE ls)), .p (int (ls.length : Nat)), .p (int (0 : Nat)), .any, .any, .any, .any, .any, .any, .any, .any, .any, .any] [] (by simp only [ZZ, YY, Ze, ite_true, ite_false, forall_const, reduceCtorEq, Nat.reduceAdd, Nat.reduceMul, Nat.reduceLeDiff, Nat.reduceLT, Nat.reduceEqDiff, strE_len]; try trivial) (by (simp only [ZZ, YY, Ze, ite_true, ite_false, forall_const, reduceCtorEq, Nat.reduceAdd, Nat.reduceMul, Nat.reduceLeDiff, Nat.reduceLT, Nat.reduceEqDiff]; try trivial)) ⟨0, by omega, by omega, by simp, rfl, rfl⟩ ?_
  rintro n fr L ⟨k, hk, rfl, ha, rfl, rfl⟩
  simp only [ir_thread_IsDomain_L0, ZZ, YY, Ze, ite_true, ite_false, forall_const, reduceCtorEq, Nat.reduceAdd, Nat.reduceMul, Nat.reduceLeDiff, Nat.reduceLT, Nat.reduceEqDiff]
  refine br ?_ ?_
  · intro h
    have hlt : k < ls.length := by have := of_decide_eq_true h; omega
    obtain ⟨x, hx⟩ : ∃ x, ls[k]? = some x := ⟨_, List.getElem?_eq_getElem hlt⟩
    have hg := strE_get hx
    have hxl := hmem x (List.mem_of_getElem? hx)
    simp only [ZZ, YY, Ze, ite_true, ite_false, forall_const, reduceCtorEq, Nat.reduceAdd, Nat.reduceMul, Nat.reduceLeDiff, Nat.reduceLT, Nat.reduceEqDiff, hg, strE_len]
    ((repeat' (with_reducible apply And.intro)) <;> try ((first | first | assumption | trivial | exact (fun hq => by rw [hq]; rfl) | exact i64_of (by omega) (by omega) | omega | (simp; done) | (simp; omega) | (intro hsc; have hs0 := hsc; (try have hsd := of_decide_eq_true hsc); (try simp only [Bool.not_eq_true', Bool.or_eq_false_iff, Bool.and_eq_true, Bool.or_eq_true, decide_eq_true_eq, decide_eq_false_iff_not] at hsc); (repeat' (with_reducible apply And.intro)) <;> (first | assumption | trivial | exact (fun hq => by rw [hq]; rfl) | exact i64_of (by omega) (by omega) | omega | (simp; done) | (simp; omega) | (intro hse; simp [hse, hs0]; done) | (intro hse; simp only [hse, hs0, Bool.true_and, Bool.and_true, Bool.not_false, Bool.not_true, Bool.and_self]; done))))))
    refine use1 (all_ok x [45] 1 30 (by omega)) rfl (.inl rfl) ?_
    simp only [ZZ, YY, Ze, ite_true, ite_false, forall_const, reduceCtorEq, Nat.reduceAdd, Nat.reduceMul, Nat.reduceLeDiff, Nat.reduceLT, Nat.reduceEqDiff]
    refine br ?_ ?_
    · intro hf
      have hf : (allB x [45] && inE x.length 1 30) = false := by rwa [Bool.not_eq_true'] at hf
      simp only [ZZ, YY, Ze, ite_true, ite_false, forall_const, reduceCtorEq, Nat.reduceAdd, Nat.reduceMul, Nat.reduceLeDiff, Nat.reduceLT, Nat.reduceEqDiff]
      rw [all_false hx hf]
      rfl
    · intro hf
      have hf : (allB x [45] && inE x.length 1 30) = true := by rwa [Bool.not_eq_false'] at hf
      simp only [ZZ, YY, Ze, ite_true, ite_false, forall_const, reduceCtorEq, Nat.reduceAdd, Nat.reduceMul, Nat.reduceLeDiff, Nat.reduceLT, Nat.reduceEqDiff]
      refine ⟨i64_of (by omega) (by omega), ?_⟩
      refine end_round (ls.length - (k + 1)) [.any, .any, .any, .p (.sl 1 (strE ls)), .any, .any, .any, .any, .p (.sl 1 (strE ls)), .p (int (ls.length : Nat)), .p (int ((k + 1) : Nat)), .any, .any, .any, .any, .any, .any, .any, .any, .any, .any] [] (by omega) (by (simp only [ZZ, YY, Ze, ite_true, ite_false, forall_const, reduceCtorEq, Nat.reduceAdd, Nat.reduceMul, Nat.reduceLeDiff, Nat.reduceLT, Nat.reduceEqDiff]; try trivial)) (by (simp only [ZZ, YY, Ze, ite_true, ite_false, forall_const, reduceCtorEq, Nat.reduceAdd, Nat.reduceMul, Nat.reduceLeDiff, Nat.reduceLT, Nat.reduceEqDiff]; try trivial)) ⟨k + 1, by omega, rfl, by rw [List.take_succ_eq_append_getElem hlt, List.all_append, ha, (List.getElem?_eq_some_iff.1 hx).2]; simpa using hf, rfl, rfl⟩
  · intro h
    have hge : k = ls.length := by have := of_decide_eq_false h; omega
    subst hge
    rw [List.take_length] at ha
    simp only [ZZ, YY, Ze, ite_true, ite_false, forall_const, reduceCtorEq, Nat.reduceAdd, Nat.reduceMul, Nat.reduceLeDiff, Nat.reduceLT, Nat.reduceEqDiff, strE_len]
    rw [ha]
    simp
    omega
theorem IsMail_ok (s : List UInt8) (hs : s.length ≤ 1000000000) : PCall Tryz.prog E0 113 [.str s] (· = .bool (mailF s)) := by
  refine pcallF mixed Tryz.func113 ck_thread_IsMail ?_
  simp only [a0, l0, OS.ao, List.map_cons, List.map_nil, List.length_cons, List.length_nil, List.cons_append, List.nil_append, Nat.reduceSub, Nat.reduceAdd, List.replicate_succ, List.replicate_zero, ir_thread_IsMail, rs_thread_IsMail, ZZ, YY, Ze, ite_true, ite_false, forall_const, reduceCtorEq, Nat.reduceAdd, Nat.reduceMul, Nat.reduceLeDiff, Nat.reduceLT, Nat.reduceEqDiff]
  refine use1 (Cut_ok s [64] hs) rfl (.inl rfl) ?_
  have hc := cutF_len s [64]
  unfold mailF
  generalize cutF s [64] = q at *
  simp only [ZZ, YY, Ze, ite_true, ite_false, forall_const, reduceCtorEq, Nat.reduceAdd, Nat.reduceMul, Nat.reduceLeDiff, Nat.reduceLT, Nat.reduceEqDiff]
  ((repeat' (with_reducible apply And.intro)) <;> try ((first | first | assumption | trivial | exact (fun hq => by rw [hq]; rfl) | exact i64_of (by omega) (by omega) | omega | (simp; done) | (simp; omega) | (intro hsc; have hs0 := hsc; (try have hsd := of_decide_eq_true hsc); (try simp only [Bool.not_eq_true', Bool.or_eq_false_iff, Bool.and_eq_true, Bool.or_eq_true, decide_eq_true_eq, decide_eq_false_iff_not] at hsc); (repeat' (with_reducible apply And.intro)) <;> (first | assumption | trivial | exact (fun hq => by rw [hq]; rfl) | exact i64_of (by omega) (by omega) | omega | (simp; done) | (simp; omega) | (intro hse; simp [hse, hs0]; done) | (intro hse; simp only [hse, hs0, Bool.true_and, Bool.and_true, Bool.not_false, Bool.not_true, Bool.and_self]; done))))))
  refine useG (fun _ => all_ok q.1 [46, 45, 95, 43] 1 40 (by omega)) rfl (.inl rfl) ?_
  simp only [ZZ, YY, Ze, ite_true, ite_false, forall_const, reduceCtorEq, Nat.reduceAdd, Nat.reduceMul, Nat.reduceLeDiff, Nat.reduceLT, Nat.reduceEqDiff]
  ((repeat' (with_reducible apply And.intro)) <;> try ((first | first | assumption | trivial | exact (fun hq => by rw [hq]; rfl) | exact i64_of (by omega) (by omega) | omega | (simp; done) | (simp; omega) | (intro hsc; have hs0 := hsc; (try have hsd := of_decide_eq_true hsc); (try simp only [Bool.not_eq_true', Bool.or_eq_false_iff, Bool.and_eq_true, Bool.or_eq_true, decide_eq_true_eq, decide_eq_false_iff_not] at hsc); (repeat' (with_reducible apply And.intro)) <;> (first | assumption | trivial | exact (fun hq => by rw [hq]; rfl) | exact i64_of (by omega) (by omega) | omega | (simp; done) | (simp; omega) | (intro hse; simp [hse, hs0]; done) | (intro hse; simp only [hse, hs0, Bool.true_and, Bool.and_true, Bool.not_false, Bool.not_true, Bool.and_self]; done))))))
  refine br ?_ ?_
  · intro h
    simp only [ZZ, YY, Ze, ite_true, ite_false, forall_const, reduceCtorEq, Nat.reduceAdd, Nat.reduceMul, Nat.reduceLeDiff, Nat.reduceLT, Nat.reduceEqDiff]
    congr 1
    symm
    cases h1 : q.2.2 <;> cases h2 : (allB q.1 [46, 45, 95, 43] && inE q.1.length 1 40) <;> simp [h1, h2] at h ⊢
    omega
  · intro h
    simp only [ZZ, YY, Ze, ite_true, ite_false, forall_const, reduceCtorEq, Nat.reduceAdd, Nat.reduceMul, Nat.reduceLeDiff, Nat.reduceLT, Nat.reduceEqDiff]
    refine use1 (IsDomain_ok q.2.1 (by omega)) rfl (.inl rfl) ?_
    simp only [ZZ, YY, Ze, ite_true, ite_false, forall_const, reduceCtorEq, Nat.reduceAdd, Nat.reduceMul, Nat.reduceLeDiff, Nat.reduceLT, Nat.reduceEqDiff]
    congr 1
    cases h1 : q.2.2 <;> cases h2 : (allB q.1 [46, 45, 95, 43] && inE q.1.length 1 40) <;> simp [h1, h2] at h ⊢
    omega
end Go.Proofs.YtidmphcocnaonaaGreatDoor

/- slices.Clone, slices.Reverse at the circle's parts. -/
namespace Go.Proofs.YtidmphcocnaonaaGreatDoor
open Go.RowKit
set_option linter.unusedVariables false
set_option linter.unusedSimpArgs false
set_option linter.defProp false

section
variable {E : Envt}
end
end Go.Proofs.YtidmphcocnaonaaGreatDoor

/- The circle of a text: what the maker makes. -/
namespace Go.Proofs.YtidmphcocnaonaaGreatDoor
set_option linter.unusedVariables false
set_option linter.unusedSimpArgs false
set_option linter.defProp false



section
variable {E : Envt}
abbrev Par := List UInt8 × Int × Int
def t1 : List UInt8 := [108, 101, 103, 97, 108, 32, 97, 100, 118, 105, 99, 101]
def t0 : List UInt8 := [99, 97, 114, 101, 102, 117, 108]
def t2 : List UInt8 := [112, 114, 105, 118, 105, 108, 101, 103, 101, 100, 32, 97, 110, 100, 32, 99, 111, 110, 102, 105, 100, 101, 110, 116, 105, 97, 108]
def p0 : List Par := [([97, 105, 100, 64, 111, 117, 114, 115, 46, 100, 101], 1, 3), ([97, 110, 110, 64, 102, 105, 114, 109, 46, 100, 101], 1, 2), ([108, 97, 119, 64, 111, 117, 114, 115, 46, 100, 101], 1, 1)]
def d0 (y : Int) : List Par := [([102, 105, 114, 109, 46, 100, 101], 1, 4), ([120, 46, 102, 105, 114, 109, 46, 100, 101], y, 2), ([111, 117, 114, 115, 46, 100, 101], 1, 4)]
end
end Go.Proofs.YtidmphcocnaonaaGreatDoor

/- The terms of a circle. -/
namespace Go.Proofs.YtidmphcocnaonaaGreatDoor
set_option linter.unusedVariables false
set_option linter.unusedSimpArgs false
set_option linter.defProp false



section
variable {E : Envt}
end
end Go.Proofs.YtidmphcocnaonaaGreatDoor

/- The body of a mail: what the maker makes. -/
namespace Go.Proofs.YtidmphcocnaonaaGreatDoor
set_option linter.unusedVariables false
set_option linter.unusedSimpArgs false
set_option linter.defProp false

section
variable {E : Envt}
end
end Go.Proofs.YtidmphcocnaonaaGreatDoor

/- The body of a mail, as it may be cut or made large. -/
namespace Go.Proofs.YtidmphcocnaonaaGreatDoor
set_option linter.unusedVariables false
set_option linter.unusedSimpArgs false
set_option linter.defProp false

/- internal/stringslite.TrimSuffix -/
def ir_internal_stringslite_TrimSuffix : IC :=
  (.seq (.reg [⟨some 4, .mov (.c (.str [])), none⟩])
    (.seq (.seq (.reg [⟨some 5, .mov (.t 0), none⟩,
      ⟨some 6, .mov (.t 1), none⟩,
      ⟨some 7, .call 179 [.t 5, .t 6], none⟩])
    (.cond (.t 7) (.seq (.reg [⟨some 8, .mov (.t 0), none⟩,
      ⟨some 9, .mov (.t 0), none⟩,
      ⟨some 10, .sln (.t 9), none⟩,
      ⟨some 11, .mov (.t 1), none⟩,
      ⟨some 12, .sln (.t 11), none⟩,
      ⟨some 13, .bin .sub (.t 10) (.t 12), none⟩,
      ⟨some 14, .ssl (.t 8) none (some (.t 13)), none⟩,
      ⟨some 4, .mov (.t 14), none⟩])
    .ret) .skip))
    (.seq (.reg [⟨some 15, .mov (.t 0), none⟩,
      ⟨some 4, .mov (.t 15), none⟩])
    .ret)))
def rs_internal_stringslite_TrimSuffix : List IRes := [.t 4]
theorem ck_internal_stringslite_TrimSuffix : chkF Tryz.prog Tryz.f169 ir_internal_stringslite_TrimSuffix rs_internal_stringslite_TrimSuffix 16 = true := by kernel_rfl
/- strings.TrimSuffix -/
def ir_strings_TrimSuffix : IC :=
  (.seq (.reg [⟨some 4, .mov (.c (.str [])), none⟩])
    (.seq (.reg [⟨some 5, .mov (.t 0), none⟩,
      ⟨some 6, .mov (.t 1), none⟩,
      ⟨some 7, .call 169 [.t 5, .t 6], none⟩,
      ⟨some 4, .mov (.t 7), none⟩])
    .ret))
def rs_strings_TrimSuffix : List IRes := [.t 4]
theorem ck_strings_TrimSuffix : chkF Tryz.prog Tryz.f89 ir_strings_TrimSuffix rs_strings_TrimSuffix 8 = true := by kernel_rfl


section
variable {E : Envt}
def trimSufL (s p : List UInt8) : List UInt8 := if sufE s p = true then List.take (s.length - p.length) s else s
theorem trimSufL_len (s p : List UInt8) : (trimSufL s p).length ≤ s.length := by
  unfold trimSufL
  split
  · simp
  · exact Nat.le_refl _
theorem TrimSuffixL_ok (s p : List UInt8) (hs : s.length ≤ 1000000000) (hp : p.length ≤ 1000000000) : PCall Tryz.prog E 169 [.str s, .str p] (· = .str (trimSufL s p)) := by
  refine pcallF mixed Tryz.func169 ck_internal_stringslite_TrimSuffix ?_
  simp only [a0, l0, OS.ao, List.map_cons, List.map_nil, List.length_cons, List.length_nil, List.cons_append, List.nil_append, Nat.reduceSub, Nat.reduceAdd, List.replicate_succ, List.replicate_zero, ir_internal_stringslite_TrimSuffix, rs_internal_stringslite_TrimSuffix, ZZ, YY, Ze, ite_true, ite_false, forall_const, reduceCtorEq, Nat.reduceAdd, Nat.reduceMul, Nat.reduceLeDiff, Nat.reduceLT, Nat.reduceEqDiff]
  refine use1 (sHasSuffix_ok s p (by omega)) rfl (.inl rfl) ?_
  simp only [ZZ, YY, Ze, ite_true, ite_false, forall_const, reduceCtorEq, Nat.reduceAdd, Nat.reduceMul, Nat.reduceLeDiff, Nat.reduceLT, Nat.reduceEqDiff]
  refine br ?_ ?_
  · intro h
    have hb : p.length ≤ s.length := by
      have := of_decide_eq_true (Bool.and_eq_true_iff.1 h).1
      omega
    have e : ((s.length : Int) - p.length).toNat = s.length - p.length := by omega
    simp only [ZZ, YY, Ze, ite_true, ite_false, forall_const, reduceCtorEq, Nat.reduceAdd, Nat.reduceMul, Nat.reduceLeDiff, Nat.reduceLT, Nat.reduceEqDiff, e]
    refine ⟨i64_of (by omega) (by omega), ⟨by omega, by omega⟩, ?_⟩
    rw [trimSufL, if_pos h]
  · intro h
    simp only [ZZ, YY, Ze, ite_true, ite_false, forall_const, reduceCtorEq, Nat.reduceAdd, Nat.reduceMul, Nat.reduceLeDiff, Nat.reduceLT, Nat.reduceEqDiff]
    rw [trimSufL, if_neg (by simp [h])]
theorem TrimSuffix_ok (s p : List UInt8) (hs : s.length ≤ 1000000000) (hp : p.length ≤ 1000000000) : PCall Tryz.prog E 89 [.str s, .str p] (· = .str (trimSufL s p)) := by
  refine pcallF mixed Tryz.func89 ck_strings_TrimSuffix ?_
  simp only [a0, l0, OS.ao, List.map_cons, List.map_nil, List.length_cons, List.length_nil, List.cons_append, List.nil_append, Nat.reduceSub, Nat.reduceAdd, List.replicate_succ, List.replicate_zero, ir_strings_TrimSuffix, rs_strings_TrimSuffix, ZZ, YY, Ze, ite_true, ite_false, forall_const, reduceCtorEq, Nat.reduceAdd, Nat.reduceMul, Nat.reduceLeDiff, Nat.reduceLT, Nat.reduceEqDiff]
  refine use1 (TrimSuffixL_ok s p hs hp) rfl (.inl rfl) ?_
  simp only [ZZ, YY, Ze, ite_true, ite_false, forall_const, reduceCtorEq, Nat.reduceAdd, Nat.reduceMul, Nat.reduceLeDiff, Nat.reduceLT, Nat.reduceEqDiff]
end
end Go.Proofs.YtidmphcocnaonaaGreatDoor

/- Terms: their checks, on both sides. -/
namespace Go.Proofs.YtidmphcocnaonaaGreatDoor
set_option linter.unusedVariables false
set_option linter.unusedSimpArgs false
set_option linter.defProp false

/- strings.Contains -/
def ir_strings_Contains : IC :=
  (.seq (.reg [⟨some 4, .mov (.c (.bool false)), none⟩])
    (.seq (.reg [⟨some 5, .mov (.t 0), none⟩,
      ⟨some 6, .mov (.t 1), none⟩,
      ⟨some 7, .call 221 [.t 5, .t 6], none⟩,
      ⟨some 8, .bin .geq (.t 7) (.c (.int .i64 0)), none⟩,
      ⟨some 4, .mov (.t 8), none⟩])
    .ret))
def rs_strings_Contains : List IRes := [.t 4]
theorem ck_strings_Contains : chkF Tryz.prog Tryz.f150 ir_strings_Contains rs_strings_Contains 9 = true := by kernel_rfl


section
theorem Contains_ok (s t : List UInt8) (hs : s.length ≤ 1000000000) : PCall Tryz.prog E0 150 [.str s, .str t] (· = .bool (decide (0 ≤ Lib.index s t))) := by
  refine pcallF mixed Tryz.func150 ck_strings_Contains ?_
  simp only [a0, l0, OS.ao, List.map_cons, List.map_nil, List.length_cons, List.length_nil, List.cons_append, List.nil_append, Nat.reduceSub, Nat.reduceAdd, List.replicate_succ, List.replicate_zero, ir_strings_Contains, rs_strings_Contains, ZZ, YY, Ze, ite_true, ite_false, forall_const, reduceCtorEq, Nat.reduceAdd, Nat.reduceMul, Nat.reduceLeDiff, Nat.reduceLT, Nat.reduceEqDiff]
  refine use1 (Index_ok s t hs) rfl (.inl rfl) ?_
  simp only [ZZ, YY, Ze, ite_true, ite_false, forall_const, reduceCtorEq, Nat.reduceAdd, Nat.reduceMul, Nat.reduceLeDiff, Nat.reduceLT, Nat.reduceEqDiff]
end
end Go.Proofs.YtidmphcocnaonaaGreatDoor

/- Prefixes and suffixes that are cut; plain strings; names. -/
namespace Go.Proofs.YtidmphcocnaonaaGreatDoor
open Go.RowKit
set_option linter.unusedVariables false
set_option linter.unusedSimpArgs false
set_option linter.defProp false

/- internal/stringslite.HasPrefix -/
def ir_internal_stringslite_HasPrefix : IC :=
  (.seq (.reg [⟨some 4, .mov (.c (.bool false)), none⟩])
    (.seq (.reg [⟨some 5, .mov (.t 0), none⟩,
      ⟨some 6, .sln (.t 5), none⟩,
      ⟨some 7, .mov (.t 1), none⟩,
      ⟨some 8, .sln (.t 7), none⟩,
      ⟨some 9, .bin .geq (.t 6) (.t 8), none⟩,
      ⟨some 10, .mov (.t 9), none⟩,
      ⟨some 11, .mov (.t 0), (some (10, true))⟩,
      ⟨some 12, .mov (.t 1), (some (10, true))⟩,
      ⟨some 13, .sln (.t 12), (some (10, true))⟩,
      ⟨some 14, .ssl (.t 11) none (some (.t 13)), (some (10, true))⟩,
      ⟨some 15, .mov (.t 1), (some (10, true))⟩,
      ⟨some 16, .bin .eql (.t 14) (.t 15), (some (10, true))⟩,
      ⟨some 17, .pick (.t 10) (.t 16) (.c (.bool false)), none⟩,
      ⟨some 4, .mov (.t 17), none⟩])
    .ret))
def rs_internal_stringslite_HasPrefix : List IRes := [.t 4]
theorem ck_internal_stringslite_HasPrefix : chkF Tryz.prog Tryz.f203 ir_internal_stringslite_HasPrefix rs_internal_stringslite_HasPrefix 18 = true := by kernel_rfl
/- internal/stringslite.CutSuffix -/
def ir_internal_stringslite_CutSuffix : IC :=
  (.seq (.reg [⟨some 4, .mov (.c (.str [])), none⟩,
      ⟨some 5, .mov (.c (.bool false)), none⟩])
    (.seq (.seq (.reg [⟨some 6, .mov (.t 0), none⟩,
      ⟨some 7, .mov (.t 1), none⟩,
      ⟨some 8, .call 179 [.t 6, .t 7], none⟩,
      ⟨some 9, .not (.t 8), none⟩])
    (.cond (.t 9) (.seq (.reg [⟨some 10, .mov (.t 0), none⟩,
      ⟨some 4, .mov (.t 10), none⟩,
      ⟨some 5, .mov (.c (.bool false)), none⟩])
    .ret) .skip))
    (.seq (.reg [⟨some 11, .mov (.t 0), none⟩,
      ⟨some 12, .mov (.t 0), none⟩,
      ⟨some 13, .sln (.t 12), none⟩,
      ⟨some 14, .mov (.t 1), none⟩,
      ⟨some 15, .sln (.t 14), none⟩,
      ⟨some 16, .bin .sub (.t 13) (.t 15), none⟩,
      ⟨some 17, .ssl (.t 11) none (some (.t 16)), none⟩,
      ⟨some 4, .mov (.t 17), none⟩,
      ⟨some 5, .mov (.c (.bool true)), none⟩])
    .ret)))
def rs_internal_stringslite_CutSuffix : List IRes := [.t 4, .t 5]
theorem ck_internal_stringslite_CutSuffix : chkF Tryz.prog Tryz.f266 ir_internal_stringslite_CutSuffix rs_internal_stringslite_CutSuffix 18 = true := by kernel_rfl
/- strings.CutSuffix -/
def ir_strings_CutSuffix : IC :=
  (.seq (.reg [⟨some 4, .mov (.c (.str [])), none⟩,
      ⟨some 5, .mov (.c (.bool false)), none⟩])
    (.seq (.reg [⟨some 6, .mov (.t 0), none⟩,
      ⟨some 7, .mov (.t 1), none⟩,
      ⟨some 8, .call 266 [.t 6, .t 7], none⟩,
      ⟨some 9, .ext 0 (.t 8), none⟩,
      ⟨some 10, .ext 1 (.t 8), none⟩,
      ⟨some 4, .mov (.t 9), none⟩,
      ⟨some 5, .mov (.t 10), none⟩])
    .ret))
def rs_strings_CutSuffix : List IRes := [.t 4, .t 5]
theorem ck_strings_CutSuffix : chkF Tryz.prog Tryz.f207 ir_strings_CutSuffix rs_strings_CutSuffix 11 = true := by kernel_rfl
/- internal/stringslite.CutPrefix -/
def ir_internal_stringslite_CutPrefix : IC :=
  (.seq (.reg [⟨some 4, .mov (.c (.str [])), none⟩,
      ⟨some 5, .mov (.c (.bool false)), none⟩])
    (.seq (.seq (.reg [⟨some 6, .mov (.t 0), none⟩,
      ⟨some 7, .mov (.t 1), none⟩,
      ⟨some 8, .call 203 [.t 6, .t 7], none⟩,
      ⟨some 9, .not (.t 8), none⟩])
    (.cond (.t 9) (.seq (.reg [⟨some 10, .mov (.t 0), none⟩,
      ⟨some 4, .mov (.t 10), none⟩,
      ⟨some 5, .mov (.c (.bool false)), none⟩])
    .ret) .skip))
    (.seq (.reg [⟨some 11, .mov (.t 0), none⟩,
      ⟨some 12, .mov (.t 1), none⟩,
      ⟨some 13, .sln (.t 12), none⟩,
      ⟨some 14, .ssl (.t 11) (some (.t 13)) none, none⟩,
      ⟨some 4, .mov (.t 14), none⟩,
      ⟨some 5, .mov (.c (.bool true)), none⟩])
    .ret)))
def rs_internal_stringslite_CutPrefix : List IRes := [.t 4, .t 5]
theorem ck_internal_stringslite_CutPrefix : chkF Tryz.prog Tryz.f295 ir_internal_stringslite_CutPrefix rs_internal_stringslite_CutPrefix 15 = true := by kernel_rfl
/- strings.CutPrefix -/
def ir_strings_CutPrefix : IC :=
  (.seq (.reg [⟨some 4, .mov (.c (.str [])), none⟩,
      ⟨some 5, .mov (.c (.bool false)), none⟩])
    (.seq (.reg [⟨some 6, .mov (.t 0), none⟩,
      ⟨some 7, .mov (.t 1), none⟩,
      ⟨some 8, .call 295 [.t 6, .t 7], none⟩,
      ⟨some 9, .ext 0 (.t 8), none⟩,
      ⟨some 10, .ext 1 (.t 8), none⟩,
      ⟨some 4, .mov (.t 9), none⟩,
      ⟨some 5, .mov (.t 10), none⟩])
    .ret))
def rs_strings_CutPrefix : List IRes := [.t 4, .t 5]
theorem ck_strings_CutPrefix : chkF Tryz.prog Tryz.f252 ir_strings_CutPrefix rs_strings_CutPrefix 11 = true := by kernel_rfl
/- internal/stringslite.TrimPrefix -/
def ir_internal_stringslite_TrimPrefix : IC :=
  (.seq (.reg [⟨some 4, .mov (.c (.str [])), none⟩])
    (.seq (.seq (.reg [⟨some 5, .mov (.t 0), none⟩,
      ⟨some 6, .mov (.t 1), none⟩,
      ⟨some 7, .call 203 [.t 5, .t 6], none⟩])
    (.cond (.t 7) (.seq (.reg [⟨some 8, .mov (.t 0), none⟩,
      ⟨some 9, .mov (.t 1), none⟩,
      ⟨some 10, .sln (.t 9), none⟩,
      ⟨some 11, .ssl (.t 8) (some (.t 10)) none, none⟩,
      ⟨some 4, .mov (.t 11), none⟩])
    .ret) .skip))
    (.seq (.reg [⟨some 12, .mov (.t 0), none⟩,
      ⟨some 4, .mov (.t 12), none⟩])
    .ret)))
def rs_internal_stringslite_TrimPrefix : List IRes := [.t 4]
theorem ck_internal_stringslite_TrimPrefix : chkF Tryz.prog Tryz.f249 ir_internal_stringslite_TrimPrefix rs_internal_stringslite_TrimPrefix 13 = true := by kernel_rfl
/- strings.TrimPrefix -/
def ir_strings_TrimPrefix : IC :=
  (.seq (.reg [⟨some 4, .mov (.c (.str [])), none⟩])
    (.seq (.reg [⟨some 5, .mov (.t 0), none⟩,
      ⟨some 6, .mov (.t 1), none⟩,
      ⟨some 7, .call 249 [.t 5, .t 6], none⟩,
      ⟨some 4, .mov (.t 7), none⟩])
    .ret))
def rs_strings_TrimPrefix : List IRes := [.t 4]
theorem ck_strings_TrimPrefix : chkF Tryz.prog Tryz.f178 ir_strings_TrimPrefix rs_strings_TrimPrefix 8 = true := by kernel_rfl
/- paperchase/base.Plain -/
def ir_base_Plain : IC :=
  (.seq (.reg [⟨some 2, .mov (.c (.bool false)), none⟩])
    (.seq (.reg [⟨some 3, .mov (.t 0), none⟩,
      ⟨some 4, .call 206 [.t 3, .c (.bool false)], none⟩,
      ⟨some 5, .mov (.t 4), none⟩,
      ⟨some 6, .mov (.t 0), (some (5, true))⟩,
      ⟨some 7, .call 120 [.t 6, .c (.str [32])], (some (5, true))⟩,
      ⟨some 8, .not (.t 7), (some (5, true))⟩,
      ⟨some 9, .pick (.t 5) (.t 8) (.c (.bool false)), none⟩,
      ⟨some 10, .mov (.t 9), none⟩,
      ⟨some 11, .mov (.t 0), (some (10, true))⟩,
      ⟨some 12, .call 100 [.t 11, .c (.str [32])], (some (10, true))⟩,
      ⟨some 13, .not (.t 12), (some (10, true))⟩,
      ⟨some 14, .pick (.t 10) (.t 13) (.c (.bool false)), none⟩,
      ⟨some 15, .mov (.t 14), none⟩,
      ⟨some 16, .mov (.t 0), (some (15, true))⟩,
      ⟨some 17, .call 150 [.t 16, .c (.str [32, 32])], (some (15, true))⟩,
      ⟨some 18, .not (.t 17), (some (15, true))⟩,
      ⟨some 19, .pick (.t 15) (.t 18) (.c (.bool false)), none⟩,
      ⟨some 2, .mov (.t 19), none⟩])
    .ret))
def rs_base_Plain : List IRes := [.t 2]
theorem ck_base_Plain : chkF Tryz.prog Tryz.f148 ir_base_Plain rs_base_Plain 20 = true := by kernel_rfl
/- strings.ContainsAny -/
def ir_strings_ContainsAny : IC :=
  (.seq (.reg [⟨some 4, .mov (.c (.bool false)), none⟩])
    (.seq (.reg [⟨some 5, .mov (.t 0), none⟩,
      ⟨some 6, .mov (.t 1), none⟩,
      ⟨some 7, .call 329 [.t 5, .t 6], none⟩,
      ⟨some 8, .bin .geq (.t 7) (.c (.int .i64 0)), none⟩,
      ⟨some 4, .mov (.t 8), none⟩])
    .ret))
def rs_strings_ContainsAny : List IRes := [.t 4]
theorem ck_strings_ContainsAny : chkF Tryz.prog Tryz.f300 ir_strings_ContainsAny rs_strings_ContainsAny 9 = true := by kernel_rfl
/- paperchase/thread.isName -/
def ir_thread_isName : IC :=
  (.seq (.reg [⟨some 2, .mov (.c (.bool false)), none⟩])
    (.seq (.reg [⟨some 3, .mov (.t 0), none⟩,
      ⟨some 4, .sln (.t 3), none⟩,
      ⟨some 5, .bin .leq (.t 4) (.c (.int .i64 60)), none⟩,
      ⟨some 6, .mov (.t 5), none⟩,
      ⟨some 7, .mov (.t 0), (some (6, true))⟩,
      ⟨some 8, .call 148 [.t 7], (some (6, true))⟩,
      ⟨some 9, .pick (.t 6) (.t 8) (.c (.bool false)), none⟩,
      ⟨some 10, .mov (.t 9), none⟩,
      ⟨some 11, .mov (.t 0), (some (10, true))⟩,
      ⟨some 12, .call 300 [.t 11, .c (.str [34, 60, 62, 44, 59])], (some (10, true))⟩,
      ⟨some 13, .not (.t 12), (some (10, true))⟩,
      ⟨some 14, .pick (.t 10) (.t 13) (.c (.bool false)), none⟩,
      ⟨some 2, .mov (.t 14), none⟩])
    .ret))
def rs_thread_isName : List IRes := [.t 2]
theorem ck_thread_isName : chkF Tryz.prog Tryz.f260 ir_thread_isName rs_thread_isName 15 = true := by kernel_rfl
/- paperchase/thread.right -/
def ir_thread_right : IC :=
  (.seq (.reg [⟨some 1, .box 71 (.t 0), none⟩,
      ⟨some 2, .mov (.c (.bool false)), none⟩])
    (.seq (.reg [⟨some 3, .fla 0 (.t 1), none⟩,
      ⟨some 4, .ld 1 false (.t 3), none⟩,
      ⟨some 5, .call 260 [.t 4], none⟩,
      ⟨some 6, .mov (.t 5), none⟩,
      ⟨some 7, .fla 1 (.t 1), (some (6, true))⟩,
      ⟨some 8, .ld 1 false (.t 7), (some (6, true))⟩,
      ⟨some 9, .call 113 [.t 8], (some (6, true))⟩,
      ⟨some 10, .pick (.t 6) (.t 9) (.c (.bool false)), none⟩,
      ⟨some 2, .mov (.t 10), none⟩])
    .ret))
def rs_thread_right : List IRes := [.t 2]
theorem ck_thread_right : chkF Tryz.prog Tryz.f193 ir_thread_right rs_thread_right 11 = true := by kernel_rfl
/- paperchase/thread.address -/
def ir_thread_address : IC :=
  (.seq (.reg [⟨some 2, .alc 71 [.str [], .str []], none⟩,
      ⟨some 3, .mov (.c (.bool false)), none⟩])
    (.seq (.reg [⟨some 19, .mov (.t 0), none⟩,
      ⟨some 20, .call 55 [.t 19, .c (.str [32])], none⟩,
      ⟨some 4, .mov (.t 20), none⟩])
    (.seq (.reg [⟨some 22, .mov (.t 4), none⟩,
      ⟨some 23, .call 115 [.t 22, .c (.str [60])], none⟩,
      ⟨some 21, .mov (.t 23), none⟩,
      ⟨some 24, .ext 0 (.t 21), none⟩,
      ⟨some 25, .ext 1 (.t 21), none⟩,
      ⟨some 26, .ext 2 (.t 21), none⟩,
      ⟨some 5, .mov (.t 24), none⟩,
      ⟨some 6, .mov (.t 25), none⟩,
      ⟨some 7, .mov (.t 26), none⟩])
    (.seq (.seq (.reg [⟨some 27, .mov (.t 7), none⟩,
      ⟨some 28, .not (.t 27), none⟩])
    (.cond (.t 28) (.seq (.reg [⟨some 29, .mov (.t 4), none⟩,
      ⟨some 30, .call 250 [.t 29], none⟩,
      ⟨some 31, .bld [.str [], .str []] [(1, 1, .t 30)], none⟩,
      ⟨some 8, .alc 71 [.str [], .str []], none⟩,
      ⟨none, .st 2 (.t 8) (.t 31), none⟩])
    (.seq (.drg [⟨some 32, .ld 2 true (.t 8), none⟩,
      ⟨some 33, .ld 2 true (.t 8), none⟩,
      ⟨some 34, .pcall 0 193 [.t 33], none⟩,
      ⟨none, .st 2 (.t 2) (.t 32), none⟩,
      ⟨some 3, .mov (.t 34), none⟩])
    .ret)) .skip))
    (.seq (.reg [⟨some 36, .mov (.t 6), none⟩,
      ⟨some 37, .call 207 [.t 36, .c (.str [62])], none⟩,
      ⟨some 35, .mov (.t 37), none⟩,
      ⟨some 38, .ext 0 (.t 35), none⟩,
      ⟨some 39, .ext 1 (.t 35), none⟩,
      ⟨some 6, .mov (.t 38), none⟩,
      ⟨some 9, .mov (.t 39), none⟩])
    (.seq (.reg [⟨some 40, .mov (.t 6), none⟩,
      ⟨some 41, .call 250 [.t 40], none⟩,
      ⟨some 42, .bld [.str [], .str []] [(1, 1, .t 41)], none⟩,
      ⟨some 10, .alc 71 [.str [], .str []], none⟩,
      ⟨none, .st 2 (.t 10) (.t 42), none⟩])
    (.seq (.seq (.reg [⟨some 43, .mov (.t 5), none⟩,
      ⟨some 44, .bin .eql (.t 43) (.c (.str [])), none⟩])
    (.cond (.t 44) (.seq (.drg [⟨some 45, .ld 2 true (.t 10), none⟩,
      ⟨some 46, .mov (.t 9), none⟩,
      ⟨some 47, .mov (.t 46), none⟩,
      ⟨some 48, .ld 2 true (.t 10), (some (47, true))⟩,
      ⟨some 49, .pcall 0 193 [.t 48], (some (47, true))⟩,
      ⟨some 50, .pick (.t 47) (.t 49) (.c (.bool false)), none⟩,
      ⟨none, .st 2 (.t 2) (.t 45), none⟩,
      ⟨some 3, .mov (.t 50), none⟩])
    .ret) .skip))
    (.seq (.reg [⟨some 51, .mov (.t 5), none⟩,
      ⟨some 52, .call 251 [.t 51, .c (.str [32])], none⟩,
      ⟨some 11, .mov (.t 52), none⟩])
    (.seq (.seq (.reg [⟨some 53, .mov (.t 11), none⟩,
      ⟨some 54, .mov (.t 5), none⟩,
      ⟨some 55, .bin .eql (.t 53) (.t 54), none⟩])
    (.cond (.t 55) (.seq (.reg [⟨some 56, .ld 2 true (.t 10), none⟩,
      ⟨none, .st 2 (.t 2) (.t 56), none⟩,
      ⟨some 3, .mov (.c (.bool false)), none⟩])
    .ret) .skip))
    (.seq (.seq (.reg [⟨some 58, .mov (.t 11), none⟩,
      ⟨some 59, .call 252 [.t 58, .c (.str [34])], none⟩,
      ⟨some 57, .mov (.t 59), none⟩,
      ⟨some 60, .ext 0 (.t 57), none⟩,
      ⟨some 61, .ext 1 (.t 57), none⟩,
      ⟨some 12, .mov (.t 60), none⟩,
      ⟨some 13, .mov (.t 61), none⟩])
    (.seq (.reg [⟨some 62, .mov (.t 13), none⟩])
    (.cond (.t 62) (.seq (.reg [⟨some 64, .mov (.t 12), none⟩,
      ⟨some 65, .call 207 [.t 64, .c (.str [34])], none⟩,
      ⟨some 63, .mov (.t 65), none⟩,
      ⟨some 66, .ext 0 (.t 63), none⟩,
      ⟨some 67, .ext 1 (.t 63), none⟩,
      ⟨some 14, .mov (.t 66), none⟩,
      ⟨some 15, .mov (.t 67), none⟩])
    (.seq (.seq (.reg [⟨some 68, .mov (.t 15), none⟩,
      ⟨some 69, .not (.t 68), none⟩])
    (.cond (.t 69) (.seq (.reg [⟨some 70, .ld 2 true (.t 10), none⟩,
      ⟨none, .st 2 (.t 2) (.t 70), none⟩,
      ⟨some 3, .mov (.c (.bool false)), none⟩])
    .ret) .skip))
    (.seq (.reg [⟨some 71, .mov (.t 14), none⟩,
      ⟨some 11, .mov (.t 71), none⟩])
    (.seq (.reg [⟨some 73, .mov (.t 14), none⟩,
      ⟨some 74, .call 115 [.t 73, .c (.str [44, 32])], none⟩,
      ⟨some 72, .mov (.t 74), none⟩,
      ⟨some 75, .ext 0 (.t 72), none⟩,
      ⟨some 76, .ext 1 (.t 72), none⟩,
      ⟨some 77, .ext 2 (.t 72), none⟩,
      ⟨some 16, .mov (.t 75), none⟩,
      ⟨some 17, .mov (.t 76), none⟩,
      ⟨some 18, .mov (.t 77), none⟩])
    (.seq (.reg [⟨some 78, .mov (.t 18), none⟩,
      ⟨some 79, .mov (.t 78), none⟩,
      ⟨some 80, .mov (.t 16), (some (79, true))⟩,
      ⟨some 81, .bin .neq (.t 80) (.c (.str [])), (some (79, true))⟩,
      ⟨some 82, .pick (.t 79) (.t 81) (.c (.bool false)), none⟩,
      ⟨some 83, .mov (.t 82), none⟩,
      ⟨some 84, .mov (.t 17), (some (83, true))⟩,
      ⟨some 85, .bin .neq (.t 84) (.c (.str [])), (some (83, true))⟩,
      ⟨some 86, .pick (.t 83) (.t 85) (.c (.bool false)), none⟩])
    (.cond (.t 86) (.reg [⟨some 87, .mov (.t 17), none⟩,
      ⟨some 88, .bin .add (.t 87) (.c (.str [32])), none⟩,
      ⟨some 89, .mov (.t 16), none⟩,
      ⟨some 90, .bin .add (.t 88) (.t 89), none⟩,
      ⟨some 11, .mov (.t 90), none⟩]) .skip)))))) .skip)))
    (.cut (.seq (.reg [⟨some 91, .mov (.t 11), none⟩,
      ⟨some 92, .fla 0 (.t 10), none⟩,
      ⟨none, .st 1 (.t 92) (.t 91), none⟩])
    (.seq (.drg [⟨some 93, .ld 2 true (.t 10), none⟩,
      ⟨some 94, .mov (.t 9), none⟩,
      ⟨some 95, .mov (.t 94), none⟩,
      ⟨some 96, .mov (.t 11), (some (95, true))⟩,
      ⟨some 97, .bin .neq (.t 96) (.c (.str [])), (some (95, true))⟩,
      ⟨some 98, .pick (.t 95) (.t 97) (.c (.bool false)), none⟩,
      ⟨some 99, .mov (.t 98), none⟩,
      ⟨some 100, .ld 2 true (.t 10), (some (99, true))⟩,
      ⟨some 101, .pcall 0 193 [.t 100], (some (99, true))⟩,
      ⟨some 102, .pick (.t 99) (.t 101) (.c (.bool false)), none⟩,
      ⟨none, .st 2 (.t 2) (.t 93), none⟩,
      ⟨some 3, .mov (.t 102), none⟩])
    .ret)))))))))))))
def rs_thread_address : List IRes := [.c 2 2 true, .t 3]
theorem ck_thread_address : chkF Tryz.prog Tryz.f182 ir_thread_address rs_thread_address 103 = true := by kernel_rfl
/- paperchase/thread.Address -/
def ir_thread_Address : IC :=
  (.seq (.reg [⟨some 2, .alc 71 [.str [], .str []], none⟩,
      ⟨some 3, .mov (.c (.int .i64 0)), none⟩])
    (.seq (.seq (.reg [⟨some 6, .mov (.t 0), none⟩,
      ⟨some 7, .sln (.t 6), none⟩,
      ⟨some 8, .bin .gtr (.t 7) (.c (.int .i64 500)), none⟩])
    (.cond (.t 8) (.seq (.reg [⟨some 9, .bld [.str [], .str []] [], none⟩,
      ⟨none, .st 2 (.t 2) (.t 9), none⟩,
      ⟨some 3, .mov (.c (.int .i64 2)), none⟩])
    .ret) .skip))
    (.seq (.reg [⟨some 11, .mov (.t 0), none⟩,
      ⟨some 12, .call 182 [.t 11], none⟩,
      ⟨some 10, .mov (.t 12), none⟩,
      ⟨some 13, .ext 0 (.t 10), none⟩,
      ⟨some 14, .ext 1 (.t 10), none⟩,
      ⟨some 4, .alc 71 [.str [], .str []], none⟩,
      ⟨none, .st 2 (.t 4) (.t 13), none⟩,
      ⟨some 5, .mov (.t 14), none⟩])
    (.seq (.seq (.reg [⟨some 15, .mov (.t 5), none⟩,
      ⟨some 16, .not (.t 15), none⟩])
    (.cond (.t 16) (.seq (.reg [⟨some 17, .bld [.str [], .str []] [], none⟩,
      ⟨none, .st 2 (.t 2) (.t 17), none⟩,
      ⟨some 3, .mov (.c (.int .i64 9)), none⟩])
    .ret) .skip))
    (.seq (.reg [⟨some 18, .ld 2 true (.t 4), none⟩,
      ⟨none, .st 2 (.t 2) (.t 18), none⟩,
      ⟨some 3, .mov (.c (.int .i64 0)), none⟩])
    .ret)))))
def rs_thread_Address : List IRes := [.c 2 2 true, .t 3]
theorem ck_thread_Address : chkF Tryz.prog Tryz.f104 ir_thread_Address rs_thread_Address 19 = true := by kernel_rfl
/- paperchase/chaselaw1.threads -/
def ir_chaselaw1_threads : IC :=
  (.seq (.reg [⟨some 0, .mov (.c (.bool false)), none⟩])
    (.seq (.reg [⟨some 4, .call 104 [.c (.str [65, 110, 110, 32, 60, 97, 64, 98, 46, 100, 101, 62])], none⟩,
      ⟨some 3, .mov (.t 4), none⟩,
      ⟨some 5, .ext 0 (.t 3), none⟩,
      ⟨some 6, .ext 1 (.t 3), none⟩,
      ⟨some 1, .alc 71 [.str [], .str []], none⟩,
      ⟨none, .st 2 (.t 1) (.t 5), none⟩,
      ⟨some 2, .mov (.t 6), none⟩])
    (.seq (.reg [⟨some 7, .mov (.t 2), none⟩,
      ⟨some 8, .bin .eql (.t 7) (.c (.int .i64 0)), none⟩,
      ⟨some 9, .mov (.t 8), none⟩,
      ⟨some 10, .ld 2 true (.t 1), (some (9, true))⟩,
      ⟨some 11, .bld [.str [], .str []] [(0, 1, .c (.str [65, 110, 110])), (1, 1, .c (.str [97, 64, 98, 46, 100, 101]))], (some (9, true))⟩,
      ⟨some 12, .eqa false [.s, .s] (.t 10) (.t 11), (some (9, true))⟩,
      ⟨some 13, .pick (.t 9) (.t 12) (.c (.bool false)), none⟩,
      ⟨some 0, .mov (.t 13), none⟩])
    .ret)))
def rs_chaselaw1_threads : List IRes := [.t 0]
theorem ck_chaselaw1_threads : chkF Tryz.prog Tryz.f33 ir_chaselaw1_threads rs_chaselaw1_threads 14 = true := by kernel_rfl


section
variable {E : Envt}
theorem TrimRightSet_ok (s cs : List UInt8) (hs : s.length ≤ 1000000000) (hcs : cs.length ≤ 1000000) (h2 : asc cs = true) : PCall Tryz.prog E 251 [.str s, .str cs] (· = .str (Lib.trimRightS s cs)) :=
  pcall_flat rfl rfl fun w _ => (Any.strings_TrimRight_laid Tryz.layTrimRight (by kernel_rfl) ⟨s.toArray⟩ ⟨cs.toArray⟩ w (by rw [ba_size]; omega) (by rw [ba_size]; omega) (asc_at h2)).mono fun e w' h => ⟨h.1, grow_below h.2⟩
def cutSufF (s p : List UInt8) : List UInt8 × Bool := if sufE s p = true then (s.take (s.length - p.length), true) else (s, false)
def cutPreF (s p : List UInt8) : List UInt8 × Bool := if Lib.hasPrefix s p = true then (s.drop p.length, true) else (s, false)
theorem CutSuffixL_ok (s p : List UInt8) (hs : s.length ≤ 1000000000) (hp : p.length ≤ 1000000000) : PCall Tryz.prog E 266 [.str s, .str p] (· = .tup [.str (cutSufF s p).1, .bool (cutSufF s p).2]) := by
  refine pcallF mixed Tryz.func266 ck_internal_stringslite_CutSuffix ?_
  simp only [a0, l0, OS.ao, List.map_cons, List.map_nil, List.length_cons, List.length_nil, List.cons_append, List.nil_append, Nat.reduceSub, Nat.reduceAdd, List.replicate_succ, List.replicate_zero, ir_internal_stringslite_CutSuffix, rs_internal_stringslite_CutSuffix, ZZ, YY, Ze, ite_true, ite_false, forall_const, reduceCtorEq, Nat.reduceAdd, Nat.reduceMul, Nat.reduceLeDiff, Nat.reduceLT, Nat.reduceEqDiff]
  refine use1 (sHasSuffix_ok s p (by omega)) rfl (.inl rfl) ?_
  simp only [ZZ, YY, Ze, ite_true, ite_false, forall_const, reduceCtorEq, Nat.reduceAdd, Nat.reduceMul, Nat.reduceLeDiff, Nat.reduceLT, Nat.reduceEqDiff]
  unfold cutSufF
  refine br ?_ ?_
  · intro h
    have h : sufE s p = false := by rwa [Bool.not_eq_true'] at h
    simp only [ZZ, YY, Ze, ite_true, ite_false, forall_const, reduceCtorEq, Nat.reduceAdd, Nat.reduceMul, Nat.reduceLeDiff, Nat.reduceLT, Nat.reduceEqDiff]
    rw [if_neg (by simp [h])]
  · intro h
    have h : sufE s p = true := by rwa [Bool.not_eq_false'] at h
    have hb : p.length ≤ s.length := by
      have := of_decide_eq_true (Bool.and_eq_true_iff.1 h).1
      omega
    have e : ((s.length : Int) - p.length).toNat = s.length - p.length := by omega
    simp only [ZZ, YY, Ze, ite_true, ite_false, forall_const, reduceCtorEq, Nat.reduceAdd, Nat.reduceMul, Nat.reduceLeDiff, Nat.reduceLT, Nat.reduceEqDiff, e]
    refine ⟨i64_of (by omega) (by omega), ⟨by omega, by omega⟩, ?_⟩
    rw [if_pos h]
theorem CutSuffix_ok (s p : List UInt8) (hs : s.length ≤ 1000000000) (hp : p.length ≤ 1000000000) : PCall Tryz.prog E 207 [.str s, .str p] (· = .tup [.str (cutSufF s p).1, .bool (cutSufF s p).2]) := by
  refine pcallF mixed Tryz.func207 ck_strings_CutSuffix ?_
  simp only [a0, l0, OS.ao, List.map_cons, List.map_nil, List.length_cons, List.length_nil, List.cons_append, List.nil_append, Nat.reduceSub, Nat.reduceAdd, List.replicate_succ, List.replicate_zero, ir_strings_CutSuffix, rs_strings_CutSuffix, ZZ, YY, Ze, ite_true, ite_false, forall_const, reduceCtorEq, Nat.reduceAdd, Nat.reduceMul, Nat.reduceLeDiff, Nat.reduceLT, Nat.reduceEqDiff]
  refine use1 (CutSuffixL_ok s p hs hp) rfl (.inl rfl) ?_
  simp only [ZZ, YY, Ze, ite_true, ite_false, forall_const, reduceCtorEq, Nat.reduceAdd, Nat.reduceMul, Nat.reduceLeDiff, Nat.reduceLT, Nat.reduceEqDiff]
theorem hasPrefix_len {s p : List UInt8} (h : Lib.hasPrefix s p = true) : p.length ≤ s.length := by
  unfold Lib.hasPrefix at h
  simp at h
  first | exact (List.IsPrefix.length_le (List.isPrefixOf_iff_prefix.1 h)) | exact h.length_le | omega
theorem preE_eq (s p : List UInt8) : (decide ((p.length : Int) ≤ s.length) && decide (s.take p.length = p)) = Lib.hasPrefix s p := by
  rw [Bool.eq_iff_iff]
  unfold Lib.hasPrefix
  rw [List.isPrefixOf_iff_prefix, List.prefix_iff_eq_take]
  simp only [Bool.and_eq_true, decide_eq_true_eq]
  constructor
  · rintro ⟨_, h⟩; exact h.symm
  · intro h
    have := congrArg List.length h
    simp at this
    exact ⟨by omega, h.symm⟩
theorem sHasPrefix_ok (s p : List UInt8) (hs : s.length ≤ 1000000000) : PCall Tryz.prog E 203 [.str s, .str p] (· = .bool (Lib.hasPrefix s p)) := by
  rw [← preE_eq]
  refine pcallF mixed Tryz.func203 ck_internal_stringslite_HasPrefix ?_
  simp only [a0, l0, OS.ao, List.map_cons, List.map_nil, List.length_cons, List.length_nil, List.cons_append, List.nil_append, Nat.reduceSub, Nat.reduceAdd, List.replicate_succ, List.replicate_zero, ir_internal_stringslite_HasPrefix, rs_internal_stringslite_HasPrefix, ZZ, YY, Ze, ite_true, ite_false, forall_const, reduceCtorEq, Nat.reduceAdd, Nat.reduceMul, Nat.reduceLeDiff, Nat.reduceLT, Nat.reduceEqDiff]
  ((repeat' (with_reducible apply And.intro)) <;> try ((first | first | assumption | trivial | exact (fun hq => by rw [hq]; rfl) | exact i64_of (by omega) (by omega) | omega | (simp; done) | (simp; omega) | (intro hsc; have hs0 := hsc; (try have hsd := of_decide_eq_true hsc); (try simp only [Bool.not_eq_true', Bool.or_eq_false_iff, Bool.and_eq_true, Bool.or_eq_true, decide_eq_true_eq, decide_eq_false_iff_not] at hsc); (repeat' (with_reducible apply And.intro)) <;> (first | assumption | trivial | exact (fun hq => by rw [hq]; rfl) | exact i64_of (by omega) (by omega) | omega | (simp; done) | (simp; omega) | (intro hse; simp [hse, hs0]; done) | (intro hse; simp only [hse, hs0, Bool.true_and, Bool.and_true, Bool.not_false, Bool.not_true, Bool.and_self]; done))))))
theorem CutPrefixL_ok (s p : List UInt8) (hs : s.length ≤ 1000000000) (hp : p.length ≤ 1000000000) : PCall Tryz.prog E 295 [.str s, .str p] (· = .tup [.str (cutPreF s p).1, .bool (cutPreF s p).2]) := by
  refine pcallF mixed Tryz.func295 ck_internal_stringslite_CutPrefix ?_
  simp only [a0, l0, OS.ao, List.map_cons, List.map_nil, List.length_cons, List.length_nil, List.cons_append, List.nil_append, Nat.reduceSub, Nat.reduceAdd, List.replicate_succ, List.replicate_zero, ir_internal_stringslite_CutPrefix, rs_internal_stringslite_CutPrefix, ZZ, YY, Ze, ite_true, ite_false, forall_const, reduceCtorEq, Nat.reduceAdd, Nat.reduceMul, Nat.reduceLeDiff, Nat.reduceLT, Nat.reduceEqDiff]
  refine use1 (sHasPrefix_ok s p hs) rfl (.inl rfl) ?_
  simp only [ZZ, YY, Ze, ite_true, ite_false, forall_const, reduceCtorEq, Nat.reduceAdd, Nat.reduceMul, Nat.reduceLeDiff, Nat.reduceLT, Nat.reduceEqDiff]
  unfold cutPreF
  refine br ?_ ?_
  · intro h
    have h : Lib.hasPrefix s p = false := by rwa [Bool.not_eq_true'] at h
    simp only [ZZ, YY, Ze, ite_true, ite_false, forall_const, reduceCtorEq, Nat.reduceAdd, Nat.reduceMul, Nat.reduceLeDiff, Nat.reduceLT, Nat.reduceEqDiff]
    rw [if_neg (by simp [h])]
  · intro h
    have h : Lib.hasPrefix s p = true := by rwa [Bool.not_eq_false'] at h
    have hb := hasPrefix_len h
    simp only [ZZ, YY, Ze, ite_true, ite_false, forall_const, reduceCtorEq, Nat.reduceAdd, Nat.reduceMul, Nat.reduceLeDiff, Nat.reduceLT, Nat.reduceEqDiff]
    refine ⟨⟨by omega, by omega⟩, ?_⟩
    rw [if_pos h]
    try simp
theorem CutPrefix_ok (s p : List UInt8) (hs : s.length ≤ 1000000000) (hp : p.length ≤ 1000000000) : PCall Tryz.prog E 252 [.str s, .str p] (· = .tup [.str (cutPreF s p).1, .bool (cutPreF s p).2]) := by
  refine pcallF mixed Tryz.func252 ck_strings_CutPrefix ?_
  simp only [a0, l0, OS.ao, List.map_cons, List.map_nil, List.length_cons, List.length_nil, List.cons_append, List.nil_append, Nat.reduceSub, Nat.reduceAdd, List.replicate_succ, List.replicate_zero, ir_strings_CutPrefix, rs_strings_CutPrefix, ZZ, YY, Ze, ite_true, ite_false, forall_const, reduceCtorEq, Nat.reduceAdd, Nat.reduceMul, Nat.reduceLeDiff, Nat.reduceLT, Nat.reduceEqDiff]
  refine use1 (CutPrefixL_ok s p hs hp) rfl (.inl rfl) ?_
  simp only [ZZ, YY, Ze, ite_true, ite_false, forall_const, reduceCtorEq, Nat.reduceAdd, Nat.reduceMul, Nat.reduceLeDiff, Nat.reduceLT, Nat.reduceEqDiff]
theorem TrimPrefixL_ok (s p : List UInt8) (hs : s.length ≤ 1000000000) (hp : p.length ≤ 1000000000) : PCall Tryz.prog E 249 [.str s, .str p] (· = .str (cutPreF s p).1) := by
  refine pcallF mixed Tryz.func249 ck_internal_stringslite_TrimPrefix ?_
  simp only [a0, l0, OS.ao, List.map_cons, List.map_nil, List.length_cons, List.length_nil, List.cons_append, List.nil_append, Nat.reduceSub, Nat.reduceAdd, List.replicate_succ, List.replicate_zero, ir_internal_stringslite_TrimPrefix, rs_internal_stringslite_TrimPrefix, ZZ, YY, Ze, ite_true, ite_false, forall_const, reduceCtorEq, Nat.reduceAdd, Nat.reduceMul, Nat.reduceLeDiff, Nat.reduceLT, Nat.reduceEqDiff]
  refine use1 (sHasPrefix_ok s p hs) rfl (.inl rfl) ?_
  simp only [ZZ, YY, Ze, ite_true, ite_false, forall_const, reduceCtorEq, Nat.reduceAdd, Nat.reduceMul, Nat.reduceLeDiff, Nat.reduceLT, Nat.reduceEqDiff]
  unfold cutPreF
  refine br ?_ ?_
  · intro h
    have hb := hasPrefix_len h
    simp only [ZZ, YY, Ze, ite_true, ite_false, forall_const, reduceCtorEq, Nat.reduceAdd, Nat.reduceMul, Nat.reduceLeDiff, Nat.reduceLT, Nat.reduceEqDiff]
    refine ⟨⟨by omega, by omega⟩, ?_⟩
    rw [if_pos h]
    try simp
  · intro h
    simp only [ZZ, YY, Ze, ite_true, ite_false, forall_const, reduceCtorEq, Nat.reduceAdd, Nat.reduceMul, Nat.reduceLeDiff, Nat.reduceLT, Nat.reduceEqDiff]
    rw [if_neg (by simp [h])]
theorem TrimPrefix_ok (s p : List UInt8) (hs : s.length ≤ 1000000000) (hp : p.length ≤ 1000000000) : PCall Tryz.prog E 178 [.str s, .str p] (· = .str (cutPreF s p).1) := by
  refine pcallF mixed Tryz.func178 ck_strings_TrimPrefix ?_
  simp only [a0, l0, OS.ao, List.map_cons, List.map_nil, List.length_cons, List.length_nil, List.cons_append, List.nil_append, Nat.reduceSub, Nat.reduceAdd, List.replicate_succ, List.replicate_zero, ir_strings_TrimPrefix, rs_strings_TrimPrefix, ZZ, YY, Ze, ite_true, ite_false, forall_const, reduceCtorEq, Nat.reduceAdd, Nat.reduceMul, Nat.reduceLeDiff, Nat.reduceLT, Nat.reduceEqDiff]
  refine use1 (TrimPrefixL_ok s p hs hp) rfl (.inl rfl) ?_
  simp only [ZZ, YY, Ze, ite_true, ite_false, forall_const, reduceCtorEq, Nat.reduceAdd, Nat.reduceMul, Nat.reduceLeDiff, Nat.reduceLT, Nat.reduceEqDiff]
theorem ContainsAny_ok (s cs : List UInt8) (hs : s.length ≤ 1000000000) (hcs : cs.length ≤ 1000000) (h2 : asc cs = true) : PCall Tryz.prog E 300 [.str s, .str cs] (· = .bool (decide (0 ≤ Lib.indexAny s cs))) := by
  refine pcallF mixed Tryz.func300 ck_strings_ContainsAny ?_
  simp only [a0, l0, OS.ao, List.map_cons, List.map_nil, List.length_cons, List.length_nil, List.cons_append, List.nil_append, Nat.reduceSub, Nat.reduceAdd, List.replicate_succ, List.replicate_zero, ir_strings_ContainsAny, rs_strings_ContainsAny, ZZ, YY, Ze, ite_true, ite_false, forall_const, reduceCtorEq, Nat.reduceAdd, Nat.reduceMul, Nat.reduceLeDiff, Nat.reduceLT, Nat.reduceEqDiff]
  refine use1 (IndexAny_ok s cs hs hcs h2) rfl (.inl rfl) ?_
  simp only [ZZ, YY, Ze, ite_true, ite_false, forall_const, reduceCtorEq, Nat.reduceAdd, Nat.reduceMul, Nat.reduceLeDiff, Nat.reduceLT, Nat.reduceEqDiff]
end
def plainB (s : List UInt8) : Bool := ((visE s false && !Lib.hasPrefix s [32]) && !sufE s [32]) && !decide (0 ≤ Lib.index s [32, 32])
theorem Plain_ok (s : List UInt8) (hs : s.length ≤ 1000000000) : PCall Tryz.prog E0 148 [.str s] (· = .bool (plainB s)) := by
  refine pcallF mixed Tryz.func148 ck_base_Plain ?_
  simp only [a0, l0, OS.ao, List.map_cons, List.map_nil, List.length_cons, List.length_nil, List.cons_append, List.nil_append, Nat.reduceSub, Nat.reduceAdd, List.replicate_succ, List.replicate_zero, ir_base_Plain, rs_base_Plain, ZZ, YY, Ze, ite_true, ite_false, forall_const, reduceCtorEq, Nat.reduceAdd, Nat.reduceMul, Nat.reduceLeDiff, Nat.reduceLT, Nat.reduceEqDiff]
  refine use1 (Visible_ok s false hs) rfl (.inl rfl) ?_
  simp only [ZZ, YY, Ze, ite_true, ite_false, forall_const, reduceCtorEq, Nat.reduceAdd, Nat.reduceMul, Nat.reduceLeDiff, Nat.reduceLT, Nat.reduceEqDiff]
  refine useG (fun _ => HasPrefix_ok s [32]) rfl (.inl rfl) ?_
  simp only [ZZ, YY, Ze, ite_true, ite_false, forall_const, reduceCtorEq, Nat.reduceAdd, Nat.reduceMul, Nat.reduceLeDiff, Nat.reduceLT, Nat.reduceEqDiff]
  refine useG (fun _ => HasSuffix_ok s [32] (by omega)) rfl (.inl rfl) ?_
  simp only [ZZ, YY, Ze, ite_true, ite_false, forall_const, reduceCtorEq, Nat.reduceAdd, Nat.reduceMul, Nat.reduceLeDiff, Nat.reduceLT, Nat.reduceEqDiff]
  refine useG (fun _ => Contains_ok s [32, 32] hs) rfl (.inl rfl) ?_
  simp only [ZZ, YY, Ze, ite_true, ite_false, forall_const, reduceCtorEq, Nat.reduceAdd, Nat.reduceMul, Nat.reduceLeDiff, Nat.reduceLT, Nat.reduceEqDiff]
  ((repeat' (with_reducible apply And.intro)) <;> try ((first | first | assumption | trivial | exact (fun hq => by rw [hq]; rfl) | exact i64_of (by omega) (by omega) | omega | (simp; done) | (simp; omega) | (intro hsc; have hs0 := hsc; (try have hsd := of_decide_eq_true hsc); (try simp only [Bool.not_eq_true', Bool.or_eq_false_iff, Bool.and_eq_true, Bool.or_eq_true, decide_eq_true_eq, decide_eq_false_iff_not] at hsc); (repeat' (with_reducible apply And.intro)) <;> (first | assumption | trivial | exact (fun hq => by rw [hq]; rfl) | exact i64_of (by omega) (by omega) | omega | (simp; done) | (simp; omega) | (intro hse; simp [hse, hs0]; done) | (intro hse; simp only [hse, hs0, Bool.true_and, Bool.and_true, Bool.not_false, Bool.not_true, Bool.and_self]; done))))))
def nameS : List UInt8 := [34, 60, 62, 44, 59]
def nameB (s : List UInt8) : Bool := (decide ((s.length : Int) ≤ 60) && plainB s) && !decide (0 ≤ Lib.indexAny s nameS)
theorem isName_ok (s : List UInt8) (hs : s.length ≤ 1000000000) : PCall Tryz.prog E0 260 [.str s] (· = .bool (nameB s)) := by
  refine pcallF mixed Tryz.func260 ck_thread_isName ?_
  simp only [a0, l0, OS.ao, List.map_cons, List.map_nil, List.length_cons, List.length_nil, List.cons_append, List.nil_append, Nat.reduceSub, Nat.reduceAdd, List.replicate_succ, List.replicate_zero, ir_thread_isName, rs_thread_isName, ZZ, YY, Ze, ite_true, ite_false, forall_const, reduceCtorEq, Nat.reduceAdd, Nat.reduceMul, Nat.reduceLeDiff, Nat.reduceLT, Nat.reduceEqDiff]
  refine useG (fun _ => Plain_ok s (by omega)) rfl (.inl rfl) ?_
  simp only [ZZ, YY, Ze, ite_true, ite_false, forall_const, reduceCtorEq, Nat.reduceAdd, Nat.reduceMul, Nat.reduceLeDiff, Nat.reduceLT, Nat.reduceEqDiff]
  refine useG (fun _ => ContainsAny_ok s nameS hs (by decide) (by decide)) rfl (.inl rfl) ?_
  simp only [ZZ, YY, Ze, ite_true, ite_false, forall_const, reduceCtorEq, Nat.reduceAdd, Nat.reduceMul, Nat.reduceLeDiff, Nat.reduceLT, Nat.reduceEqDiff]
  ((repeat' (with_reducible apply And.intro)) <;> try ((first | first | assumption | trivial | exact (fun hq => by rw [hq]; rfl) | exact i64_of (by omega) (by omega) | omega | (simp; done) | (simp; omega) | (intro hsc; have hs0 := hsc; (try have hsd := of_decide_eq_true hsc); (try simp only [Bool.not_eq_true', Bool.or_eq_false_iff, Bool.and_eq_true, Bool.or_eq_true, decide_eq_true_eq, decide_eq_false_iff_not] at hsc); (repeat' (with_reducible apply And.intro)) <;> (first | assumption | trivial | exact (fun hq => by rw [hq]; rfl) | exact i64_of (by omega) (by omega) | omega | (simp; done) | (simp; omega) | (intro hse; simp [hse, hs0]; done) | (intro hse; simp only [hse, hs0, Bool.true_and, Bool.and_true, Bool.not_false, Bool.not_true, Bool.and_self]; done))))))
theorem right_ok (n m : List UInt8) (hn : n.length ≤ 1000000000) (hm : m.length ≤ 1000000000) : PCall Tryz.prog E0 193 [.agg [.str n, .str m]] (· = .bool (nameB n && mailF m)) := by
  refine pcallF mixed Tryz.func193 ck_thread_right ?_
  simp only [a0, l0, OS.ao, List.map_cons, List.map_nil, List.length_cons, List.length_nil, List.cons_append, List.nil_append, Nat.reduceSub, Nat.reduceAdd, List.replicate_succ, List.replicate_zero, ir_thread_right, rs_thread_right, ZZ, YY, Ze, ite_true, ite_false, forall_const, reduceCtorEq, Nat.reduceAdd, Nat.reduceMul, Nat.reduceLeDiff, Nat.reduceLT, Nat.reduceEqDiff]
  refine use1 (isName_ok n hn) rfl (.inl rfl) ?_
  simp only [ZZ, YY, Ze, ite_true, ite_false, forall_const, reduceCtorEq, Nat.reduceAdd, Nat.reduceMul, Nat.reduceLeDiff, Nat.reduceLT, Nat.reduceEqDiff]
  refine useG (fun _ => IsMail_ok m (by omega)) rfl (.inl rfl) ?_
  simp only [ZZ, YY, Ze, ite_true, ite_false, forall_const, reduceCtorEq, Nat.reduceAdd, Nat.reduceMul, Nat.reduceLeDiff, Nat.reduceLT, Nat.reduceEqDiff]
def annS : List UInt8 := [65, 110, 110, 32, 60, 97, 64, 98, 46, 100, 101, 62]
theorem address_ann : PCall Tryz.prog E0 182 [.str annS] (· = .tup [.agg [.str [65, 110, 110], .str [97, 64, 98, 46, 100, 101]], .bool true]) := by
  refine pcallF mixed Tryz.func182 ck_thread_address ?_
  simp only [a0, l0, OS.ao, List.map_cons, List.map_nil, List.length_cons, List.length_nil, List.cons_append, List.nil_append, Nat.reduceSub, Nat.reduceAdd, List.replicate_succ, List.replicate_zero, ir_thread_address, rs_thread_address, ZZ, YY, Ze, ite_true, ite_false, forall_const, reduceCtorEq, Nat.reduceAdd, Nat.reduceMul, Nat.reduceLeDiff, Nat.reduceLT, Nat.reduceEqDiff]
  refine use1 (TrimSet_ok annS [32] (by decide) (by decide) (by decide)) rfl (.inl rfl) ?_
  rw [show Lib.trimS annS [32] = annS from by decide +kernel]
  simp only [ZZ, YY, Ze, ite_true, ite_false, forall_const, reduceCtorEq, Nat.reduceAdd, Nat.reduceMul, Nat.reduceLeDiff, Nat.reduceLT, Nat.reduceEqDiff]
  refine use1 (Cut_ok annS [60] (by decide)) rfl (.inl rfl) ?_
  rw [show cutF annS [60] = ([65, 110, 110, 32], [97, 64, 98, 46, 100, 101, 62], true) from by decide +kernel]
  simp only [ZZ, YY, Ze, ite_true, ite_false, forall_const, reduceCtorEq, Nat.reduceAdd, Nat.reduceMul, Nat.reduceLeDiff, Nat.reduceLT, Nat.reduceEqDiff]
  refine use1 (CutSuffix_ok [97, 64, 98, 46, 100, 101, 62] [62] (by decide) (by decide)) rfl (.inl rfl) ?_
  rw [show cutSufF [97, 64, 98, 46, 100, 101, 62] [62] = ([97, 64, 98, 46, 100, 101], true) from by decide +kernel]
  simp only [ZZ, YY, Ze, ite_true, ite_false, forall_const, reduceCtorEq, Nat.reduceAdd, Nat.reduceMul, Nat.reduceLeDiff, Nat.reduceLT, Nat.reduceEqDiff]
  refine use1 (Lower_ok [97, 64, 98, 46, 100, 101] (by decide)) rfl (.inl rfl) ?_
  rw [show lowF [97, 64, 98, 46, 100, 101] = [97, 64, 98, 46, 100, 101] from by decide +kernel]
  simp only [ZZ, YY, Ze, ite_true, ite_false, forall_const, reduceCtorEq, Nat.reduceAdd, Nat.reduceMul, Nat.reduceLeDiff, Nat.reduceLT, Nat.reduceEqDiff]
  refine br (fun h => by simp at h) ?_
  intro _
  simp only [ZZ, YY, Ze, ite_true, ite_false, forall_const, reduceCtorEq, Nat.reduceAdd, Nat.reduceMul, Nat.reduceLeDiff, Nat.reduceLT, Nat.reduceEqDiff]
  refine use1 (TrimRightSet_ok [65, 110, 110, 32] [32] (by decide) (by decide) (by decide)) rfl (.inl rfl) ?_
  rw [show Lib.trimRightS [65, 110, 110, 32] [32] = [65, 110, 110] from by decide +kernel]
  simp only [ZZ, YY, Ze, ite_true, ite_false, forall_const, reduceCtorEq, Nat.reduceAdd, Nat.reduceMul, Nat.reduceLeDiff, Nat.reduceLT, Nat.reduceEqDiff]
  refine br (fun h => by simp at h) ?_
  intro _
  simp only [ZZ, YY, Ze, ite_true, ite_false, forall_const, reduceCtorEq, Nat.reduceAdd, Nat.reduceMul, Nat.reduceLeDiff, Nat.reduceLT, Nat.reduceEqDiff]
  refine use1 (CutPrefix_ok [65, 110, 110] [34] (by decide) (by decide)) rfl (.inl rfl) ?_
  rw [show cutPreF [65, 110, 110] [34] = ([65, 110, 110], false) from by decide +kernel]
  simp only [ZZ, YY, Ze, ite_true, ite_false, forall_const, reduceCtorEq, Nat.reduceAdd, Nat.reduceMul, Nat.reduceLeDiff, Nat.reduceLT, Nat.reduceEqDiff]
  refine cut_same (by simp only [ZZ, YY, Ze, ite_true, ite_false, forall_const, reduceCtorEq, Nat.reduceAdd, Nat.reduceMul, Nat.reduceLeDiff, Nat.reduceLT, Nat.reduceEqDiff]) ?_
  simp only [ZZ, YY, Ze, ite_true, ite_false, forall_const, reduceCtorEq, Nat.reduceAdd, Nat.reduceMul, Nat.reduceLeDiff, Nat.reduceLT, Nat.reduceEqDiff]
  refine drg1 (x1 := .bool true) ?_
  have hr := right_ok [65, 110, 110] [97, 64, 98, 46, 100, 101] (by decide) (by decide)
  rw [show (nameB [65, 110, 110] && mailF [97, 64, 98, 46, 100, 101]) = true from by decide +kernel] at hr
  simp only [ZZ, YY, Ze, ite_true, ite_false, forall_const, reduceCtorEq, Nat.reduceAdd, Nat.reduceMul, Nat.reduceLeDiff, Nat.reduceLT, Nat.reduceEqDiff]
  ((repeat' (with_reducible apply And.intro)) <;> try (first | exact fun h => ⟨h, usep hr rfl (.inl rfl)⟩ | (first | first | assumption | trivial | exact (fun hq => by rw [hq]; rfl) | exact i64_of (by omega) (by omega) | omega | (simp; done) | (simp; omega) | (intro hsc; have hs0 := hsc; (try have hsd := of_decide_eq_true hsc); (try simp only [Bool.not_eq_true', Bool.or_eq_false_iff, Bool.and_eq_true, Bool.or_eq_true, decide_eq_true_eq, decide_eq_false_iff_not] at hsc); (repeat' (with_reducible apply And.intro)) <;> (first | assumption | trivial | exact (fun hq => by rw [hq]; rfl) | exact i64_of (by omega) (by omega) | omega | (simp; done) | (simp; omega) | (intro hse; simp [hse, hs0]; done) | (intro hse; simp only [hse, hs0, Bool.true_and, Bool.and_true, Bool.not_false, Bool.not_true, Bool.and_self]; done))))))
theorem Address_ann : PCall Tryz.prog E0 104 [.str annS] (· = .tup [.agg [.str [65, 110, 110], .str [97, 64, 98, 46, 100, 101]], int 0]) := by
  refine pcallF mixed Tryz.func104 ck_thread_Address ?_
  simp only [a0, l0, OS.ao, List.map_cons, List.map_nil, List.length_cons, List.length_nil, List.cons_append, List.nil_append, Nat.reduceSub, Nat.reduceAdd, List.replicate_succ, List.replicate_zero, ir_thread_Address, rs_thread_Address, ZZ, YY, Ze, ite_true, ite_false, forall_const, reduceCtorEq, Nat.reduceAdd, Nat.reduceMul, Nat.reduceLeDiff, Nat.reduceLT, Nat.reduceEqDiff]
  refine br (fun h => by simp [annS] at h) ?_
  intro _
  simp only [ZZ, YY, Ze, ite_true, ite_false, forall_const, reduceCtorEq, Nat.reduceAdd, Nat.reduceMul, Nat.reduceLeDiff, Nat.reduceLT, Nat.reduceEqDiff]
  refine use1 address_ann rfl (.inl rfl) ?_
  simp only [ZZ, YY, Ze, ite_true, ite_false, forall_const, reduceCtorEq, Nat.reduceAdd, Nat.reduceMul, Nat.reduceLeDiff, Nat.reduceLT, Nat.reduceEqDiff]
theorem threads_ok : PCall Tryz.prog E0 33 [] (· = .bool true) := by
  refine pcallF mixed Tryz.func33 ck_chaselaw1_threads ?_
  simp only [a0, l0, OS.ao, List.map_cons, List.map_nil, List.length_cons, List.length_nil, List.cons_append, List.nil_append, Nat.reduceSub, Nat.reduceAdd, List.replicate_succ, List.replicate_zero, ir_chaselaw1_threads, rs_chaselaw1_threads, ZZ, YY, Ze, ite_true, ite_false, forall_const, reduceCtorEq, Nat.reduceAdd, Nat.reduceMul, Nat.reduceLeDiff, Nat.reduceLT, Nat.reduceEqDiff]
  refine use1 Address_ann rfl (.inl rfl) ?_
  simp only [ZZ, YY, Ze, ite_true, ite_false, forall_const, reduceCtorEq, Nat.reduceAdd, Nat.reduceMul, Nat.reduceLeDiff, Nat.reduceLT, Nat.reduceEqDiff]
  simp
end Go.Proofs.YtidmphcocnaonaaGreatDoor

/- Numbers and clocks, on both sides. -/
namespace Go.Proofs.YtidmphcocnaonaaGreatDoor
open Go.RowKit
set_option linter.unusedVariables false
set_option linter.unusedSimpArgs false
set_option linter.defProp false

/- paperchase/base.Number -/
def ir_base_Number_L0 : IC :=
  (.seq (.reg [⟨some 41, .bin .lss (.t 40) (.t 39), none⟩])
    (.seq (.cond (.t 41) .skip (.exit 0))
    (.seq (.block 1 (.seq (.reg [⟨some 42, .mov (.t 40), none⟩,
      ⟨some 8, .mov (.t 42), none⟩])
    (.seq (.reg [⟨some 43, .mov (.t 6), none⟩,
      ⟨some 44, .mov (.t 8), none⟩,
      ⟨some 45, .idx (.t 43) (.t 44), none⟩,
      ⟨some 46, .call 240 [.t 45], none⟩,
      ⟨some 47, .not (.t 46), none⟩])
    (.cond (.t 47) (.seq (.reg [⟨some 4, .mov (.c (.int .i64 0)), none⟩,
      ⟨some 5, .mov (.c (.bool false)), none⟩])
    .ret) .skip))))
    (.reg [⟨some 48, .bin .add (.t 40) (.c (.int .i64 1)), none⟩,
      ⟨some 40, .mov (.t 48), none⟩]))))
def ir_base_Number : IC :=
  (.seq (.reg [⟨some 4, .mov (.c (.int .i64 0)), none⟩,
      ⟨some 5, .mov (.c (.bool false)), none⟩])
    (.seq (.reg [⟨some 12, .mov (.t 0), none⟩,
      ⟨some 13, .call 252 [.t 12, .c (.str [45])], none⟩,
      ⟨some 11, .mov (.t 13), none⟩,
      ⟨some 14, .ext 0 (.t 11), none⟩,
      ⟨some 15, .ext 1 (.t 11), none⟩,
      ⟨some 6, .mov (.t 14), none⟩,
      ⟨some 7, .mov (.t 15), none⟩])
    (.seq (.seq (.reg [⟨some 16, .mov (.t 6), none⟩,
      ⟨some 17, .sln (.t 16), none⟩,
      ⟨some 18, .mov (.t 1), none⟩,
      ⟨some 19, .call 71 [.t 17, .c (.int .i64 1), .t 18], none⟩,
      ⟨some 20, .not (.t 19), none⟩,
      ⟨some 21, .mov (.t 20), none⟩,
      ⟨some 22, .mov (.t 6), (some (21, false))⟩,
      ⟨some 23, .sln (.t 22), (some (21, false))⟩,
      ⟨some 24, .bin .gtr (.t 23) (.c (.int .i64 1)), (some (21, false))⟩,
      ⟨some 25, .mov (.t 24), (some (21, false))⟩,
      ⟨some 26, .mov (.t 6), (some (25, true))⟩,
      ⟨some 27, .idx (.t 26) (.c (.int .i64 0)), (some (25, true))⟩,
      ⟨some 28, .bin .eql (.t 27) (.c (.int .u8 48)), (some (25, true))⟩,
      ⟨some 29, .pick (.t 25) (.t 28) (.c (.bool false)), (some (21, false))⟩,
      ⟨some 30, .pick (.t 21) (.c (.bool true)) (.t 29), none⟩,
      ⟨some 31, .mov (.t 30), none⟩,
      ⟨some 32, .mov (.t 7), (some (31, false))⟩,
      ⟨some 33, .mov (.t 32), (some (31, false))⟩,
      ⟨some 34, .mov (.t 6), (some (33, true))⟩,
      ⟨some 35, .bin .eql (.t 34) (.c (.str [48])), (some (33, true))⟩,
      ⟨some 36, .pick (.t 33) (.t 35) (.c (.bool false)), (some (31, false))⟩,
      ⟨some 37, .pick (.t 31) (.c (.bool true)) (.t 36), none⟩])
    (.cond (.t 37) (.seq (.reg [⟨some 4, .mov (.c (.int .i64 0)), none⟩,
      ⟨some 5, .mov (.c (.bool false)), none⟩])
    .ret) .skip))
    (.seq (.seq (.reg [⟨some 38, .mov (.t 6), none⟩,
      ⟨some 39, .sln (.t 38), none⟩,
      ⟨some 40, .mov (.c (.int .i64 0)), none⟩])
    (.block 0 (.loop ir_base_Number_L0)))
    (.seq (.reg [⟨some 50, .mov (.t 0), none⟩,
      ⟨some 51, .call 177 [.t 50], none⟩,
      ⟨some 49, .mov (.t 51), none⟩,
      ⟨some 52, .ext 0 (.t 49), none⟩,
      ⟨some 53, .ext 1 (.t 49), none⟩,
      ⟨some 9, .mov (.t 52), none⟩,
      ⟨some 10, .mov (.t 53), none⟩])
    (.seq (.drg [⟨some 54, .mov (.t 9), none⟩,
      ⟨some 55, .mov (.t 10), none⟩,
      ⟨some 56, .nli false (.t 55), none⟩,
      ⟨some 4, .mov (.t 54), none⟩,
      ⟨some 5, .mov (.t 56), none⟩])
    .ret))))))
def rs_base_Number : List IRes := [.t 4, .t 5]
theorem ck_base_Number : chkF Tryz.prog Tryz.f239 ir_base_Number rs_base_Number 57 = true := by kernel_rfl
/- paperchase/base.Natural -/
def ir_base_Natural : IC :=
  (.seq (.reg [⟨some 4, .mov (.c (.int .i64 0)), none⟩,
      ⟨some 5, .mov (.c (.bool false)), none⟩])
    (.seq (.reg [⟨some 9, .mov (.t 0), none⟩,
      ⟨some 10, .mov (.t 1), none⟩,
      ⟨some 11, .call 239 [.t 9, .t 10], none⟩,
      ⟨some 8, .mov (.t 11), none⟩,
      ⟨some 12, .ext 0 (.t 8), none⟩,
      ⟨some 13, .ext 1 (.t 8), none⟩,
      ⟨some 6, .mov (.t 12), none⟩,
      ⟨some 7, .mov (.t 13), none⟩])
    (.seq (.reg [⟨some 14, .mov (.t 6), none⟩,
      ⟨some 15, .mov (.t 7), none⟩,
      ⟨some 16, .mov (.t 15), none⟩,
      ⟨some 17, .mov (.t 6), (some (16, true))⟩,
      ⟨some 18, .bin .geq (.t 17) (.c (.int .i64 0)), (some (16, true))⟩,
      ⟨some 19, .pick (.t 16) (.t 18) (.c (.bool false)), none⟩,
      ⟨some 4, .mov (.t 14), none⟩,
      ⟨some 5, .mov (.t 19), none⟩])
    .ret)))
def rs_base_Natural : List IRes := [.t 4, .t 5]
theorem ck_base_Natural : chkF Tryz.prog Tryz.f171 ir_base_Natural rs_base_Natural 20 = true := by kernel_rfl
/- paperchase/chaseref1.number -/
def ir_chaseref1_number : IC :=
  (.seq (.reg [⟨some 4, .mov (.c (.int .i64 0)), none⟩,
      ⟨some 5, .mov (.c (.bool false)), none⟩])
    (.seq (.reg [⟨some 9, .mov (.t 0), none⟩,
      ⟨some 10, .call 177 [.t 9], none⟩,
      ⟨some 8, .mov (.t 10), none⟩,
      ⟨some 11, .ext 0 (.t 8), none⟩,
      ⟨some 12, .ext 1 (.t 8), none⟩,
      ⟨some 6, .mov (.t 11), none⟩,
      ⟨some 7, .mov (.t 12), none⟩])
    (.seq (.reg [⟨some 13, .mov (.t 6), none⟩,
      ⟨some 14, .mov (.t 7), none⟩,
      ⟨some 15, .nli false (.t 14), none⟩,
      ⟨some 16, .mov (.t 15), none⟩,
      ⟨some 17, .mov (.t 6), (some (16, true))⟩,
      ⟨some 18, .call 105 [.t 17], (some (16, true))⟩,
      ⟨some 19, .mov (.t 0), (some (16, true))⟩,
      ⟨some 20, .bin .eql (.t 18) (.t 19), (some (16, true))⟩,
      ⟨some 21, .pick (.t 16) (.t 20) (.c (.bool false)), none⟩,
      ⟨some 22, .mov (.t 21), none⟩,
      ⟨some 23, .mov (.t 0), (some (22, true))⟩,
      ⟨some 24, .call 178 [.t 23, .c (.str [45])], (some (22, true))⟩,
      ⟨some 25, .sln (.t 24), (some (22, true))⟩,
      ⟨some 26, .mov (.t 1), (some (22, true))⟩,
      ⟨some 27, .bin .leq (.t 25) (.t 26), (some (22, true))⟩,
      ⟨some 28, .pick (.t 22) (.t 27) (.c (.bool false)), none⟩,
      ⟨some 4, .mov (.t 13), none⟩,
      ⟨some 5, .mov (.t 28), none⟩])
    .ret)))
def rs_chaseref1_number : List IRes := [.t 4, .t 5]
theorem ck_chaseref1_number : chkF Tryz.prog Tryz.f96 ir_chaseref1_number rs_chaseref1_number 29 = true := by kernel_rfl
/- paperchase/chaseref1.digitsOf -/
def ir_chaseref1_digitsOf : IC :=
  (.seq (.reg [⟨some 4, .mov (.c (.int .i64 0)), none⟩,
      ⟨some 5, .mov (.c (.bool false)), none⟩])
    (.seq (.seq (.reg [⟨some 8, .mov (.t 0), none⟩,
      ⟨some 9, .sln (.t 8), none⟩,
      ⟨some 10, .mov (.t 1), none⟩,
      ⟨some 11, .bin .neq (.t 9) (.t 10), none⟩,
      ⟨some 12, .mov (.t 11), none⟩,
      ⟨some 13, .mov (.t 0), (some (12, false))⟩,
      ⟨some 14, .call 116 [.t 13, .c (.str [48, 49, 50, 51, 52, 53, 54, 55, 56, 57])], (some (12, false))⟩,
      ⟨some 15, .not (.t 14), (some (12, false))⟩,
      ⟨some 16, .pick (.t 12) (.c (.bool true)) (.t 15), none⟩])
    (.cond (.t 16) (.seq (.reg [⟨some 4, .mov (.c (.int .i64 0)), none⟩,
      ⟨some 5, .mov (.c (.bool false)), none⟩])
    .ret) .skip))
    (.seq (.reg [⟨some 18, .mov (.t 0), none⟩,
      ⟨some 19, .call 177 [.t 18], none⟩,
      ⟨some 17, .mov (.t 19), none⟩,
      ⟨some 20, .ext 0 (.t 17), none⟩,
      ⟨some 21, .ext 1 (.t 17), none⟩,
      ⟨some 6, .mov (.t 20), none⟩,
      ⟨some 7, .mov (.t 21), none⟩])
    (.seq (.reg [⟨some 22, .mov (.t 6), none⟩,
      ⟨some 4, .mov (.t 22), none⟩,
      ⟨some 5, .mov (.c (.bool true)), none⟩])
    .ret))))
def rs_chaseref1_digitsOf : List IRes := [.t 4, .t 5]
theorem ck_chaseref1_digitsOf : chkF Tryz.prog Tryz.f98 ir_chaseref1_digitsOf rs_chaseref1_digitsOf 23 = true := by kernel_rfl
/- paperchase/chaseref1.clock -/
def ir_chaseref1_clock : IC :=
  (.seq (.reg [⟨some 6, .mov (.c (.int .i64 0)), none⟩,
      ⟨some 7, .mov (.c (.bool false)), none⟩])
    (.seq (.seq (.reg [⟨some 12, .mov (.t 0), none⟩,
      ⟨some 13, .sln (.t 12), none⟩,
      ⟨some 14, .mov (.t 1), none⟩,
      ⟨some 15, .sln (.t 14), none⟩,
      ⟨some 16, .bin .add (.c (.int .i64 4)) (.t 15), none⟩,
      ⟨some 17, .bin .neq (.t 13) (.t 16), none⟩,
      ⟨some 18, .mov (.t 17), none⟩,
      ⟨some 19, .mov (.t 0), (some (18, false))⟩,
      ⟨some 20, .mov (.t 1), (some (18, false))⟩,
      ⟨some 21, .sln (.t 20), (some (18, false))⟩,
      ⟨some 22, .bin .add (.c (.int .i64 2)) (.t 21), (some (18, false))⟩,
      ⟨some 23, .ssl (.t 19) (some (.c (.int .i64 2))) (some (.t 22)), (some (18, false))⟩,
      ⟨some 24, .mov (.t 1), (some (18, false))⟩,
      ⟨some 25, .bin .neq (.t 23) (.t 24), (some (18, false))⟩,
      ⟨some 26, .pick (.t 18) (.c (.bool true)) (.t 25), none⟩])
    (.cond (.t 26) (.seq (.reg [⟨some 6, .mov (.c (.int .i64 0)), none⟩,
      ⟨some 7, .mov (.c (.bool false)), none⟩])
    .ret) .skip))
    (.seq (.reg [⟨some 28, .mov (.t 0), none⟩,
      ⟨some 29, .ssl (.t 28) none (some (.c (.int .i64 2))), none⟩,
      ⟨some 30, .call 98 [.t 29, .c (.int .i64 2)], none⟩,
      ⟨some 27, .mov (.t 30), none⟩,
      ⟨some 31, .ext 0 (.t 27), none⟩,
      ⟨some 32, .ext 1 (.t 27), none⟩,
      ⟨some 8, .mov (.t 31), none⟩,
      ⟨some 9, .mov (.t 32), none⟩])
    (.seq (.reg [⟨some 34, .mov (.t 0), none⟩,
      ⟨some 35, .mov (.t 1), none⟩,
      ⟨some 36, .sln (.t 35), none⟩,
      ⟨some 37, .bin .add (.c (.int .i64 2)) (.t 36), none⟩,
      ⟨some 38, .ssl (.t 34) (some (.t 37)) none, none⟩,
      ⟨some 39, .call 98 [.t 38, .c (.int .i64 2)], none⟩,
      ⟨some 33, .mov (.t 39), none⟩,
      ⟨some 40, .ext 0 (.t 33), none⟩,
      ⟨some 41, .ext 1 (.t 33), none⟩,
      ⟨some 10, .mov (.t 40), none⟩,
      ⟨some 11, .mov (.t 41), none⟩])
    (.seq (.reg [⟨some 42, .mov (.t 8), none⟩,
      ⟨some 43, .bin .mul (.c (.int .i64 60)) (.t 42), none⟩,
      ⟨some 44, .mov (.t 10), none⟩,
      ⟨some 45, .bin .add (.t 43) (.t 44), none⟩,
      ⟨some 46, .mov (.t 9), none⟩,
      ⟨some 47, .mov (.t 46), none⟩,
      ⟨some 48, .mov (.t 11), (some (47, true))⟩,
      ⟨some 49, .pick (.t 47) (.t 48) (.c (.bool false)), none⟩,
      ⟨some 50, .mov (.t 49), none⟩,
      ⟨some 51, .mov (.t 8), (some (50, true))⟩,
      ⟨some 52, .mov (.t 2), (some (50, true))⟩,
      ⟨some 53, .bin .leq (.t 51) (.t 52), (some (50, true))⟩,
      ⟨some 54, .pick (.t 50) (.t 53) (.c (.bool false)), none⟩,
      ⟨some 55, .mov (.t 54), none⟩,
      ⟨some 56, .mov (.t 10), (some (55, true))⟩,
      ⟨some 57, .bin .lss (.t 56) (.c (.int .i64 60)), (some (55, true))⟩,
      ⟨some 58, .pick (.t 55) (.t 57) (.c (.bool false)), none⟩,
      ⟨some 6, .mov (.t 45), none⟩,
      ⟨some 7, .mov (.t 58), none⟩])
    .ret)))))
def rs_chaseref1_clock : List IRes := [.t 6, .t 7]
theorem ck_chaseref1_clock : chkF Tryz.prog Tryz.f99 ir_chaseref1_clock rs_chaseref1_clock 59 = true := by kernel_rfl

theorem atV_bd (s : List UInt8) : -9223372036854775808 ≤ atV s ∧ atV s ≤ 9223372036854775807 := by
  unfold atV
  cases h : Lib.atoiAll s with
  | ok v => exact Lib.atoiAll_bounds h
  | range => simp only [Lib.atoiSat]; split <;> omega
  | _ =>
    show (-9223372036854775808 : Int) ≤ 0 ∧ (0 : Int) ≤ 9223372036854775807
    decide
def numOk (s : List UInt8) (n : Int) : Bool := atB s && decide (Lib.itoa (atV s) = s) && decide (((cutPreF s [45]).1.length : Int) ≤ n)
theorem cutPre_len (s p : List UInt8) : (cutPreF s p).1.length ≤ s.length := by
  unfold cutPreF
  split <;> simp
theorem number_ok (s : List UInt8) (n : Int) (hs : s.length ≤ 1000000) : PCall Tryz.prog E5 96 [.str s, int n] (· = .tup [int (atV s), .bool (numOk s n)]) := by
  refine pcallF mixed Tryz.func96 ck_chaseref1_number ?_
  simp only [a0, l0, OS.ao, List.map_cons, List.map_nil, List.length_cons, List.length_nil, List.cons_append, List.nil_append, Nat.reduceSub, Nat.reduceAdd, List.replicate_succ, List.replicate_zero, ir_chaseref1_number, rs_chaseref1_number, ZZ, YY, Ze, ite_true, ite_false, forall_const, reduceCtorEq, Nat.reduceAdd, Nat.reduceMul, Nat.reduceLeDiff, Nat.reduceLT, Nat.reduceEqDiff]
  refine use (Atoi_ok5 s hs) rfl (.inl rfl) ?_
  rintro y ⟨v, rfl, hv⟩
  have hb := atV_bd s
  simp only [ZZ, YY, Ze, ite_true, ite_false, forall_const, reduceCtorEq, Nat.reduceAdd, Nat.reduceMul, Nat.reduceLeDiff, Nat.reduceLT, Nat.reduceEqDiff, hv]
  refine useG (fun _ => Itoa_ok5 (atV s) hb.1 hb.2) rfl (.inl rfl) ?_
  simp only [ZZ, YY, Ze, ite_true, ite_false, forall_const, reduceCtorEq, Nat.reduceAdd, Nat.reduceMul, Nat.reduceLeDiff, Nat.reduceLT, Nat.reduceEqDiff]
  refine useG (fun _ => TrimPrefix_ok s [45] (by omega) (by decide)) rfl (.inl rfl) ?_
  simp only [ZZ, YY, Ze, ite_true, ite_false, forall_const, reduceCtorEq, Nat.reduceAdd, Nat.reduceMul, Nat.reduceLeDiff, Nat.reduceLT, Nat.reduceEqDiff]
  rfl
def badN (s : List UInt8) (dg : Int) : Bool := (!inE (cutPreF s [45]).1.length 1 dg || decide ((1 : Int) < ((cutPreF s [45]).1.length : Nat)) && decide ((((cutPreF s [45]).1.getD 0 0).toNat : Int) = 48)) || (cutPreF s [45]).2 && decide ((cutPreF s [45]).1 = [48])
theorem Number_ok5 (s : List UInt8) (dg : Int) (hs : s.length ≤ 1000000) : PCall Tryz.prog E5 239 [.str s, int dg] (· = if badN s dg = false ∧ (cutPreF s [45]).1.all digB = true then .tup [int (atV s), .bool (atB s)] else .tup [int 0, .bool false]) := by
  refine pcallF mixed Tryz.func239 ck_base_Number ?_
  simp only [a0, l0, OS.ao, List.map_cons, List.map_nil, List.length_cons, List.length_nil, List.cons_append, List.nil_append, Nat.reduceSub, Nat.reduceAdd, List.replicate_succ, List.replicate_zero, ir_base_Number, rs_base_Number, ZZ, YY, Ze, ite_true, ite_false, forall_const, reduceCtorEq, Nat.reduceAdd, Nat.reduceMul, Nat.reduceLeDiff, Nat.reduceLT, Nat.reduceEqDiff]
  refine use1 (CutPrefix_ok s [45] (by omega) (by decide)) rfl (.inl rfl) ?_
  have hcl := cutPre_len s [45]
  unfold badN
  generalize cutPreF s [45] = q at *
  obtain ⟨d, m⟩ := q
  simp only at hcl ⊢
  simp only [ZZ, YY, Ze, ite_true, ite_false, forall_const, reduceCtorEq, Nat.reduceAdd, Nat.reduceMul, Nat.reduceLeDiff, Nat.reduceLT, Nat.reduceEqDiff]
  refine use1 (In_ok (d.length : Nat) 1 dg) rfl (.inl rfl) ?_
  have hx : decide ((1 : Int) < (d.length : Nat)) = true → (0 : Int) < (d.length : Nat) := by
    intro h
    have := of_decide_eq_true h
    omega
  have e0 : Int.toNat 0 = 0 := rfl
  simp only [ZZ, YY, Ze, ite_true, ite_false, forall_const, reduceCtorEq, Nat.reduceAdd, Nat.reduceMul, Nat.reduceLeDiff, Nat.reduceLT, Nat.reduceEqDiff, e0]
  refine ⟨fun h => ⟨h, by omega, hx (by simp only [Bool.and_eq_true] at h; exact h.2.2)⟩, fun h => ⟨h, fun h2 => by rw [h, h2]; rfl⟩, fun h => by rw [h]; rfl, fun h => ⟨h, fun h2 => by rw [h, h2]; rfl⟩, fun h => by rw [h]; rfl, ?_⟩
  refine br ?_ ?_
  · intro h
    simp only [ZZ, YY, Ze, ite_true, ite_false, forall_const, reduceCtorEq, Nat.reduceAdd, Nat.reduceMul, Nat.reduceLeDiff, Nat.reduceLT, Nat.reduceEqDiff]
    rw [if_neg (by rw [h]; simp)]
  · intro h
    simp only [ZZ, YY, Ze, ite_true, ite_false, forall_const, reduceCtorEq, Nat.reduceAdd, Nat.reduceMul, Nat.reduceLeDiff, Nat.reduceLT, Nat.reduceEqDiff]
    refine loop_intro (fun n fr L => ∃ (j : Nat), j ≤ d.length ∧ n = d.length - j ∧ ((d.take j).all digB = true) ∧ fr = [.p (.str s), .any, .any, .any, .any, .any, .p (.str d), .any, .any, .any, .any, .any, .any, .any, .any, .any, .any, .any, .any, .any, .any, .any, .any, .any, .any, .any, .any, .any, .any, .any, .any, .any, .any, .any, .any, .any, .any, .any, .any, .p (int (d.length : Nat)), .p (int (j : Nat)), .any, .any, .any, .any, .any, .any, .any, .any, .any, .any, .any, .any, .any, .any, .any, .any] ∧ L = []) (d.length) [.p (.str s), .any, .any, .any, .any, .any, .p (.str d), .any, .any, .any, .any, .any, .any, .any, .any, .any, .any, .any, .any, .any, .any, .any, .any, .any, .any, .any, .any, .any, .any, .any, .any, .any, .any, .any, .any, .any, .any, .any, .any, .p (int (d.length : Nat)), .p (int (0 : Nat)), .any, .any, .any, .any, .any, .any, .any, .any, .any, .any, .any, .any, .any, .any, .any, .any] [] (by (simp only [ZZ, YY, Ze, ite_true, ite_false, forall_const, reduceCtorEq, Nat.reduceAdd, Nat.reduceMul, Nat.reduceLeDiff, Nat.reduceLT, Nat.reduceEqDiff]; try trivial)) (by (simp only [ZZ, YY, Ze, ite_true, ite_false, forall_const, reduceCtorEq, Nat.reduceAdd, Nat.reduceMul, Nat.reduceLeDiff, Nat.reduceLT, Nat.reduceEqDiff]; try trivial)) ⟨0, by omega, by omega, by simp, rfl, rfl⟩ ?_
    rintro n fr L ⟨j, hj, rfl, hall, rfl, rfl⟩
    simp only [ir_base_Number_L0, ZZ, YY, Ze, ite_true, ite_false, forall_const, reduceCtorEq, Nat.reduceAdd, Nat.reduceMul, Nat.reduceLeDiff, Nat.reduceLT, Nat.reduceEqDiff]
    refine br ?_ ?_
    · intro h2
      have hju : j < d.length := by have := of_decide_eq_true h2; omega
      have hnx := all_takeV (p := digB) hju
      simp only [ZZ, YY, Ze, ite_true, ite_false, forall_const, reduceCtorEq, Nat.reduceAdd, Nat.reduceMul, Nat.reduceLeDiff, Nat.reduceLT, Nat.reduceEqDiff]
      ((repeat' (with_reducible apply And.intro)) <;> try ((first | first | assumption | trivial | exact (fun hq => by rw [hq]; rfl) | exact i64_of (by omega) (by omega) | omega | (simp; done) | (simp; omega) | (intro hsc; have hs0 := hsc; (try have hsd := of_decide_eq_true hsc); (try simp only [Bool.not_eq_true', Bool.or_eq_false_iff, Bool.and_eq_true, Bool.or_eq_true, decide_eq_true_eq, decide_eq_false_iff_not] at hsc); (repeat' (with_reducible apply And.intro)) <;> (first | assumption | trivial | exact (fun hq => by rw [hq]; rfl) | exact i64_of (by omega) (by omega) | omega | (simp; done) | (simp; omega) | (intro hse; simp [hse, hs0]; done) | (intro hse; simp only [hse, hs0, Bool.true_and, Bool.and_true, Bool.not_false, Bool.not_true, Bool.and_self]; done))))))
      refine use1 (Digit_ok (d.getD j 0)) rfl (.inl rfl) ?_
      simp only [ZZ, YY, Ze, ite_true, ite_false, forall_const, reduceCtorEq, Nat.reduceAdd, Nat.reduceMul, Nat.reduceLeDiff, Nat.reduceLT, Nat.reduceEqDiff]
      refine br ?_ ?_
      · intro hd2
        have hd2 : digB (d.getD j 0) = false := by simpa using hd2
        simp only [ZZ, YY, Ze, ite_true, ite_false, forall_const, reduceCtorEq, Nat.reduceAdd, Nat.reduceMul, Nat.reduceLeDiff, Nat.reduceLT, Nat.reduceEqDiff]
        rw [if_neg]
        rintro ⟨_, h3⟩
        rw [List.all_eq_true] at h3
        have := h3 (d.getD j 0) (by simp [List.getD, hju])
        rw [hd2] at this
        cases this
      · intro hd2
        have hd2 : digB (d.getD j 0) = true := by simpa using hd2
        simp only [ZZ, YY, Ze, ite_true, ite_false, forall_const, reduceCtorEq, Nat.reduceAdd, Nat.reduceMul, Nat.reduceLeDiff, Nat.reduceLT, Nat.reduceEqDiff]
        ((repeat' (with_reducible apply And.intro)) <;> try ((first | first | assumption | trivial | exact (fun hq => by rw [hq]; rfl) | exact i64_of (by omega) (by omega) | omega | (simp; done) | (simp; omega) | (intro hsc; have hs0 := hsc; (try have hsd := of_decide_eq_true hsc); (try simp only [Bool.not_eq_true', Bool.or_eq_false_iff, Bool.and_eq_true, Bool.or_eq_true, decide_eq_true_eq, decide_eq_false_iff_not] at hsc); (repeat' (with_reducible apply And.intro)) <;> (first | assumption | trivial | exact (fun hq => by rw [hq]; rfl) | exact i64_of (by omega) (by omega) | omega | (simp; done) | (simp; omega) | (intro hse; simp [hse, hs0]; done) | (intro hse; simp only [hse, hs0, Bool.true_and, Bool.and_true, Bool.not_false, Bool.not_true, Bool.and_self]; done))))))
        refine end_round (d.length - (j + 1)) [.p (.str s), .any, .any, .any, .any, .any, .p (.str d), .any, .any, .any, .any, .any, .any, .any, .any, .any, .any, .any, .any, .any, .any, .any, .any, .any, .any, .any, .any, .any, .any, .any, .any, .any, .any, .any, .any, .any, .any, .any, .any, .p (int (d.length : Nat)), .p (int ((j + 1) : Nat)), .any, .any, .any, .any, .any, .any, .any, .any, .any, .any, .any, .any, .any, .any, .any, .any] [] (by omega) (by (simp only [ZZ, YY, Ze, ite_true, ite_false, forall_const, reduceCtorEq, Nat.reduceAdd, Nat.reduceMul, Nat.reduceLeDiff, Nat.reduceLT, Nat.reduceEqDiff]; try trivial)) (by (simp only [ZZ, YY, Ze, ite_true, ite_false, forall_const, reduceCtorEq, Nat.reduceAdd, Nat.reduceMul, Nat.reduceLeDiff, Nat.reduceLT, Nat.reduceEqDiff]; try trivial)) ⟨j + 1, by omega, rfl, by rw [hnx, hall, hd2]; rfl, rfl, rfl⟩
    · intro h2
      have hju : j = d.length := by have := of_decide_eq_false h2; omega
      subst hju
      rw [List.take_length] at hall
      rw [if_pos ⟨h, hall⟩]
      simp only [ZZ, YY, Ze, ite_true, ite_false, forall_const, reduceCtorEq, Nat.reduceAdd, Nat.reduceMul, Nat.reduceLeDiff, Nat.reduceLT, Nat.reduceEqDiff]
      refine use (Atoi_ok5 s hs) rfl (.inl rfl) ?_
      rintro y ⟨v, rfl, hv⟩
      simp only [ZZ, YY, Ze, ite_true, ite_false, forall_const, reduceCtorEq, Nat.reduceAdd, Nat.reduceMul, Nat.reduceLeDiff, Nat.reduceLT, Nat.reduceEqDiff]
      refine drg0 ?_
      simp only [ZZ, YY, Ze, ite_true, ite_false, forall_const, reduceCtorEq, Nat.reduceAdd, Nat.reduceMul, Nat.reduceLeDiff, Nat.reduceLT, Nat.reduceEqDiff, hv]
theorem Natural_ok (s : List UInt8) (dg : Int) (hs : s.length ≤ 1000000) : PCall Tryz.prog E5 171 [.str s, int dg] (· = if badN s dg = false ∧ (cutPreF s [45]).1.all digB = true then .tup [int (atV s), .bool (atB s && decide (0 ≤ atV s))] else .tup [int 0, .bool false]) := by
  refine pcallF mixed Tryz.func171 ck_base_Natural ?_
  simp only [a0, l0, OS.ao, List.map_cons, List.map_nil, List.length_cons, List.length_nil, List.cons_append, List.nil_append, Nat.reduceSub, Nat.reduceAdd, List.replicate_succ, List.replicate_zero, ir_base_Natural, rs_base_Natural, ZZ, YY, Ze, ite_true, ite_false, forall_const, reduceCtorEq, Nat.reduceAdd, Nat.reduceMul, Nat.reduceLeDiff, Nat.reduceLT, Nat.reduceEqDiff]
  by_cases h : badN s dg = false ∧ (cutPreF s [45]).1.all digB = true
  · have hN := Number_ok5 s dg hs
    rw [if_pos h] at hN
    rw [if_pos h]
    refine use1 hN rfl (.inl rfl) ?_
    simp only [ZZ, YY, Ze, ite_true, ite_false, forall_const, reduceCtorEq, Nat.reduceAdd, Nat.reduceMul, Nat.reduceLeDiff, Nat.reduceLT, Nat.reduceEqDiff]
  · have hN := Number_ok5 s dg hs
    rw [if_neg h] at hN
    rw [if_neg h]
    refine use1 hN rfl (.inl rfl) ?_
    simp only [ZZ, YY, Ze, ite_true, ite_false, forall_const, reduceCtorEq, Nat.reduceAdd, Nat.reduceMul, Nat.reduceLeDiff, Nat.reduceLT, Nat.reduceEqDiff]
theorem made_dig (s : List UInt8) : madeF s figL = s.all digB := by
  rw [madeF_all]
  congr 1
  funext c
  exact all256 (p := fun c => figL.contains c = digB c) (by decide +kernel) c
def dgF (s : List UInt8) (n : Nat) : Int × Bool := if fxOk s n = true then ((foldD s : Nat), true) else (0, false)
theorem parse_dig : ∀ (s : List UInt8) (acc : Nat), s.all digB = true → (acc + 1) * 10 ^ s.length ≤ 1000000000000000000 → Lib.parseUint10 acc s = .ok (s.foldl (fun n c => 10 * n + (c.toNat - 48)) acc)
  | [], acc, _, _ => rfl
  | c :: r, acc, h, hb => by
    simp only [List.all_cons, Bool.and_eq_true] at h
    have hc := h.1
    simp only [digB, Bool.and_eq_true, decide_eq_true_eq] at hc
    have hp : 1 ≤ 10 ^ r.length := Nat.pow_pos (by decide)
    have hq : (acc + 1) * 10 ≤ 1000000000000000000 := by
      rw [List.length_cons, Nat.pow_succ, Nat.mul_comm (10 ^ r.length) 10, ← Nat.mul_assoc] at hb
      exact Nat.le_trans (Nat.le_mul_of_pos_right _ hp) hb
    rw [Lib.parseUint10, if_pos ⟨by omega, by omega⟩, if_neg (by omega), if_neg (by omega), parse_dig r _ h.2 ?_, List.foldl_cons, Nat.mul_comm acc 10]
    rw [List.length_cons, Nat.pow_succ, Nat.mul_comm (10 ^ r.length) 10, ← Nat.mul_assoc] at hb
    exact Nat.le_trans (Nat.mul_le_mul_right _ (by omega)) hb
theorem atV_dig {s : List UInt8} (hne : s ≠ []) (h : s.all digB = true) (hl : s.length ≤ 18) : atV s = (foldD s : Nat) ∧ atB s = true := by
  cases s with
  | nil => exact absurd rfl hne
  | cons c r =>
    have hc := h
    simp only [List.all_cons, Bool.and_eq_true] at hc
    have hc := hc.1
    simp only [digB, Bool.and_eq_true, decide_eq_true_eq] at hc
    have hp : (10 : Nat) ^ (c :: r).length ≤ 10 ^ 18 := Nat.pow_le_pow_right (by decide) hl
    have e := parse_dig (c :: r) 0 h (by omega)
    have hb := vfoldD_lt (c :: r) h
    have e2 : Lib.atoiAll (c :: r) = .ok ((foldD (c :: r) : Nat) : Int) := by
      rw [Lib.atoiAll_plain c r (by omega) (by omega), Lib.parseMag, if_neg (by simp), e]
      rw [show (c :: r).foldl (fun n c => 10 * n + (c.toNat - 48)) 0 = foldD (c :: r) from rfl]
      rw [Lib.signless, if_neg (by omega)]
    unfold atV atB
    rw [e2]
    exact ⟨rfl, rfl⟩
theorem digitsOf_ok (s : List UInt8) (n : Nat) (hn0 : 1 ≤ n) (hn : n ≤ 9) (hs : s.length ≤ 1000000) : PCall Tryz.prog E5 98 [.str s, int (n : Nat)] (· = .tup [int (dgF s n).1, .bool (dgF s n).2]) := by
  refine pcallF mixed Tryz.func98 ck_chaseref1_digitsOf ?_
  simp only [a0, l0, OS.ao, List.map_cons, List.map_nil, List.length_cons, List.length_nil, List.cons_append, List.nil_append, Nat.reduceSub, Nat.reduceAdd, List.replicate_succ, List.replicate_zero, ir_chaseref1_digitsOf, rs_chaseref1_digitsOf, ZZ, YY, Ze, ite_true, ite_false, forall_const, reduceCtorEq, Nat.reduceAdd, Nat.reduceMul, Nat.reduceLeDiff, Nat.reduceLT, Nat.reduceEqDiff]
  refine useG (fun _ => made_ok s figL (by omega) (by decide) rfl) rfl (.inl rfl) ?_
  rw [made_dig]
  simp only [ZZ, YY, Ze, ite_true, ite_false, forall_const, reduceCtorEq, Nat.reduceAdd, Nat.reduceMul, Nat.reduceLeDiff, Nat.reduceLT, Nat.reduceEqDiff]
  refine ⟨fun h => by rw [h]; rfl, ?_⟩
  refine br ?_ ?_
  · intro h
    have hf : fxOk s n = false := by
      unfold fxOk
      rw [Bool.or_eq_true] at h
      rcases h with h | h
      · have h : ¬ s.length = n := by simp at h; omega
        simp [h]
      · rw [Bool.not_eq_true'] at h
        rw [h]
        simp
    simp only [ZZ, YY, Ze, ite_true, ite_false, forall_const, reduceCtorEq, Nat.reduceAdd, Nat.reduceMul, Nat.reduceLeDiff, Nat.reduceLT, Nat.reduceEqDiff]
    unfold dgF
    rw [if_neg (by rw [hf]; simp)]
  · intro h
    rw [Bool.or_eq_false_iff, Bool.not_eq_false', Bool.not_eq_false'] at h
    have h1 : s.length = n := by have := of_decide_eq_true h.1; omega
    have hf : fxOk s n = true := by
      unfold fxOk
      rw [h.2, decide_eq_true h1]
      rfl
    obtain ⟨e1, e2⟩ := atV_dig (s := s) (by intro e; rw [e] at h1; simp at h1; omega) h.2 (by omega)
    simp only [ZZ, YY, Ze, ite_true, ite_false, forall_const, reduceCtorEq, Nat.reduceAdd, Nat.reduceMul, Nat.reduceLeDiff, Nat.reduceLT, Nat.reduceEqDiff]
    refine use (Atoi_ok5 s hs) rfl (.inl rfl) ?_
    rintro y ⟨v, rfl, hv⟩
    rw [e1]
    simp only [ZZ, YY, Ze, ite_true, ite_false, forall_const, reduceCtorEq, Nat.reduceAdd, Nat.reduceMul, Nat.reduceLeDiff, Nat.reduceLT, Nat.reduceEqDiff]
    unfold dgF
    rw [if_pos hf]
def ckF (s b : List UInt8) (most : Int) : Int × Bool :=
  if s.length = 4 + b.length ∧ (s.take (2 + b.length)).drop 2 = b then
    (60 * (dgF (s.take 2) 2).1 + (dgF (s.drop (2 + b.length)) 2).1, (((dgF (s.take 2) 2).2 && (dgF (s.drop (2 + b.length)) 2).2) && decide ((dgF (s.take 2) 2).1 ≤ most)) && decide ((dgF (s.drop (2 + b.length)) 2).1 < 60))
  else (0, false)
theorem dgF_bd (s : List UInt8) {n : Nat} (hn : n ≤ 9) : 0 ≤ (dgF s n).1 ∧ (dgF s n).1 < 1000000000 := by
  unfold dgF
  split
  · rename_i h
    simp only [fxOk, Bool.and_eq_true, decide_eq_true_eq] at h
    have hb := vfoldD_lt s h.2
    have hp : (10 : Nat) ^ s.length ≤ 10 ^ 9 := Nat.pow_le_pow_right (by decide) (by omega)
    simp only
    omega
  · exact ⟨by decide, by decide⟩
theorem clock_ok (s b : List UInt8) (most : Int) (hs : s.length ≤ 1000000) (hb : b.length ≤ 1000) : PCall Tryz.prog E5 99 [.str s, .str b, int most] (· = .tup [int (ckF s b most).1, .bool (ckF s b most).2]) := by
  refine pcallF mixed Tryz.func99 ck_chaseref1_clock ?_
  simp only [a0, l0, OS.ao, List.map_cons, List.map_nil, List.length_cons, List.length_nil, List.cons_append, List.nil_append, Nat.reduceSub, Nat.reduceAdd, List.replicate_succ, List.replicate_zero, ir_chaseref1_clock, rs_chaseref1_clock, ZZ, YY, Ze, ite_true, ite_false, forall_const, reduceCtorEq, Nat.reduceAdd, Nat.reduceMul, Nat.reduceLeDiff, Nat.reduceLT, Nat.reduceEqDiff]
  ((repeat' (with_reducible apply And.intro)) <;> try ((first | first | assumption | trivial | exact (fun hq => by rw [hq]; rfl) | exact i64_of (by omega) (by omega) | omega | (simp; done) | (simp; omega) | (intro hsc; have hs0 := hsc; (try have hsd := of_decide_eq_true hsc); (try simp only [Bool.not_eq_true', Bool.or_eq_false_iff, Bool.and_eq_true, Bool.or_eq_true, decide_eq_true_eq, decide_eq_false_iff_not] at hsc); (repeat' (with_reducible apply And.intro)) <;> (first | assumption | trivial | exact (fun hq => by rw [hq]; rfl) | exact i64_of (by omega) (by omega) | omega | (simp; done) | (simp; omega) | (intro hse; simp [hse, hs0]; done) | (intro hse; simp only [hse, hs0, Bool.true_and, Bool.and_true, Bool.not_false, Bool.not_true, Bool.and_self]; done))))))
  have e0 : Int.toNat 2 = 2 := rfl
  have e1 : (2 + (b.length : Int)).toNat = 2 + b.length := by omega
  rw [e0, e1]
  refine br ?_ ?_
  · intro h
    simp only [ZZ, YY, Ze, ite_true, ite_false, forall_const, reduceCtorEq, Nat.reduceAdd, Nat.reduceMul, Nat.reduceLeDiff, Nat.reduceLT, Nat.reduceEqDiff]
    unfold ckF
    rw [if_neg]
    rintro ⟨h1, h2⟩
    rw [Bool.or_eq_true, Bool.not_eq_true', Bool.not_eq_true', decide_eq_false_iff_not, decide_eq_false_iff_not] at h
    rcases h with h | h
    · omega
    · exact h h2
  · intro h
    rw [Bool.or_eq_false_iff, Bool.not_eq_false', Bool.not_eq_false', decide_eq_true_iff, decide_eq_true_iff] at h
    obtain ⟨h1, h2⟩ := h
    have h1 : s.length = 4 + b.length := by omega
    have hd1 := dgF_bd (s.take 2) (n := 2) (by decide)
    have hd2 := dgF_bd (s.drop (2 + b.length)) (n := 2) (by decide)
    unfold ckF
    rw [if_pos ⟨h1, h2⟩]
    simp only [ZZ, YY, Ze, ite_true, ite_false, forall_const, reduceCtorEq, Nat.reduceAdd, Nat.reduceMul, Nat.reduceLeDiff, Nat.reduceLT, Nat.reduceEqDiff, e0]
    ((repeat' (with_reducible apply And.intro)) <;> try ((first | first | assumption | trivial | exact (fun hq => by rw [hq]; rfl) | exact i64_of (by omega) (by omega) | omega | (simp; done) | (simp; omega) | (intro hsc; have hs0 := hsc; (try have hsd := of_decide_eq_true hsc); (try simp only [Bool.not_eq_true', Bool.or_eq_false_iff, Bool.and_eq_true, Bool.or_eq_true, decide_eq_true_eq, decide_eq_false_iff_not] at hsc); (repeat' (with_reducible apply And.intro)) <;> (first | assumption | trivial | exact (fun hq => by rw [hq]; rfl) | exact i64_of (by omega) (by omega) | omega | (simp; done) | (simp; omega) | (intro hse; simp [hse, hs0]; done) | (intro hse; simp only [hse, hs0, Bool.true_and, Bool.and_true, Bool.not_false, Bool.not_true, Bool.and_self]; done))))))
    refine use1 (digitsOf_ok (s.take 2) 2 (by decide) (by decide) (by rw [List.length_take]; omega)) rfl (.inl rfl) ?_
    simp only [ZZ, YY, Ze, ite_true, ite_false, forall_const, reduceCtorEq, Nat.reduceAdd, Nat.reduceMul, Nat.reduceLeDiff, Nat.reduceLT, Nat.reduceEqDiff, e1, List.take_length]
    ((repeat' (with_reducible apply And.intro)) <;> try ((first | first | assumption | trivial | exact (fun hq => by rw [hq]; rfl) | exact i64_of (by omega) (by omega) | omega | (simp; done) | (simp; omega) | (intro hsc; have hs0 := hsc; (try have hsd := of_decide_eq_true hsc); (try simp only [Bool.not_eq_true', Bool.or_eq_false_iff, Bool.and_eq_true, Bool.or_eq_true, decide_eq_true_eq, decide_eq_false_iff_not] at hsc); (repeat' (with_reducible apply And.intro)) <;> (first | assumption | trivial | exact (fun hq => by rw [hq]; rfl) | exact i64_of (by omega) (by omega) | omega | (simp; done) | (simp; omega) | (intro hse; simp [hse, hs0]; done) | (intro hse; simp only [hse, hs0, Bool.true_and, Bool.and_true, Bool.not_false, Bool.not_true, Bool.and_self]; done))))))
    refine use1 (digitsOf_ok (s.drop (2 + b.length)) 2 (by decide) (by decide) (by rw [List.length_drop]; omega)) rfl (.inl rfl) ?_
    generalize dgF (s.take 2) 2 = u at *
    generalize dgF (s.drop (2 + b.length)) 2 = v at *
    simp only [ZZ, YY, Ze, ite_true, ite_false, forall_const, reduceCtorEq, Nat.reduceAdd, Nat.reduceMul, Nat.reduceLeDiff, Nat.reduceLT, Nat.reduceEqDiff]
    ((repeat' (with_reducible apply And.intro)) <;> try ((first | first | assumption | trivial | exact (fun hq => by rw [hq]; rfl) | exact i64_of (by omega) (by omega) | omega | (simp; done) | (simp; omega) | (intro hsc; have hs0 := hsc; (try have hsd := of_decide_eq_true hsc); (try simp only [Bool.not_eq_true', Bool.or_eq_false_iff, Bool.and_eq_true, Bool.or_eq_true, decide_eq_true_eq, decide_eq_false_iff_not] at hsc); (repeat' (with_reducible apply And.intro)) <;> (first | assumption | trivial | exact (fun hq => by rw [hq]; rfl) | exact i64_of (by omega) (by omega) | omega | (simp; done) | (simp; omega) | (intro hse; simp [hse, hs0]; done) | (intro hse; simp only [hse, hs0, Bool.true_and, Bool.and_true, Bool.not_false, Bool.not_true, Bool.and_self]; done))))))
    done
end Go.Proofs.YtidmphcocnaonaaGreatDoor
