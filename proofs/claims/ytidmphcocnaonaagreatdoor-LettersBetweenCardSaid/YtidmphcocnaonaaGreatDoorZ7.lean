
/- Own texts, put together: I2 G1 G2 G3 G4 G5 G6 I7 K2 H1 H2. -/
import Derived.Test.YtidmphcocnaonaaGreatDoorZ6
import Derived.Test.YtidmphcocnaonaaGreatDoorZ5
import Derived.Test.YtidmphcocnaonaaGreatDoorZ3
import Derived.Test.YtidmphcocnaonaaGreatDoorRep
import Derived.Test.YtidmphcocnaonaaGreatDoorLayTrimRight
import Derived.Test.YtidmphcocnaonaaGreatDoorZ4
import Derived.WalkKit
import Derived.OwnWalk
import Derived.Lib.Builder
import Derived.Laws.Externs
import Derived.Maps.AppendAt
import Derived.Shelf.RegionOpenPlain
import Derived.Lib.Strings
import Derived.Lib.Slices
import Derived.Lib.Walk
import Derived.Lib.MakeNoZero
import Derived.Laws.IdiomCopy
import Derived.Laws.BitsLemmas
import Derived.KernelRfl
/- Addresses: their form, on both sides. -/
namespace Go.Proofs.YtidmphcocnaonaaGreatDoor
open Go.RowKit
set_option linter.unusedVariables false
set_option linter.unusedSimpArgs false
set_option linter.defProp false

/- paperchase/thread.all -/
def ir_thread_all_L0 : IC :=
  (.seq (.reg [⟨some 14, .bin .lss (.t 13) (.t 12), none⟩])
    (.seq (.cond (.t 14) .skip (.exit 0))
    (.seq (.block 1 (.seq (.reg [⟨some 15, .mov (.t 13), none⟩,
      ⟨some 9, .mov (.t 15), none⟩])
    (.seq (.reg [⟨some 16, .mov (.t 0), none⟩,
      ⟨some 17, .mov (.t 9), none⟩,
      ⟨some 18, .idx (.t 16) (.t 17), none⟩,
      ⟨some 10, .mov (.t 18), none⟩])
    (.seq (.reg [⟨some 19, .mov (.t 10), none⟩,
      ⟨some 20, .bin .geq (.t 19) (.c (.int .u8 97)), none⟩,
      ⟨some 21, .mov (.t 20), none⟩,
      ⟨some 22, .mov (.t 10), (some (21, true))⟩,
      ⟨some 23, .bin .leq (.t 22) (.c (.int .u8 122)), (some (21, true))⟩,
      ⟨some 24, .pick (.t 21) (.t 23) (.c (.bool false)), none⟩,
      ⟨some 25, .not (.t 24), none⟩,
      ⟨some 26, .mov (.t 25), none⟩,
      ⟨some 27, .mov (.t 10), (some (26, true))⟩,
      ⟨some 28, .call 240 [.t 27], (some (26, true))⟩,
      ⟨some 29, .not (.t 28), (some (26, true))⟩,
      ⟨some 30, .pick (.t 26) (.t 29) (.c (.bool false)), none⟩,
      ⟨some 31, .mov (.t 30), none⟩,
      ⟨some 32, .mov (.t 1), (some (31, true))⟩,
      ⟨some 33, .mov (.t 10), (some (31, true))⟩,
      ⟨some 34, .call 261 [.t 32, .t 33], (some (31, true))⟩,
      ⟨some 35, .bin .lss (.t 34) (.c (.int .i64 0)), (some (31, true))⟩,
      ⟨some 36, .pick (.t 31) (.t 35) (.c (.bool false)), none⟩])
    (.cond (.t 36) (.seq (.reg [⟨some 8, .mov (.c (.bool false)), none⟩])
    .ret) .skip)))))
    (.reg [⟨some 37, .bin .add (.t 13) (.c (.int .i64 1)), none⟩,
      ⟨some 13, .mov (.t 37), none⟩]))))
def ir_thread_all : IC :=
  (.seq (.reg [⟨some 8, .mov (.c (.bool false)), none⟩])
    (.seq (.seq (.reg [⟨some 11, .mov (.t 0), none⟩,
      ⟨some 12, .sln (.t 11), none⟩,
      ⟨some 13, .mov (.c (.int .i64 0)), none⟩])
    (.block 0 (.loop ir_thread_all_L0)))
    (.seq (.reg [⟨some 38, .mov (.t 0), none⟩,
      ⟨some 39, .sln (.t 38), none⟩,
      ⟨some 40, .mov (.t 2), none⟩,
      ⟨some 41, .mov (.t 3), none⟩,
      ⟨some 42, .call 71 [.t 39, .t 40, .t 41], none⟩,
      ⟨some 8, .mov (.t 42), none⟩])
    .ret)))
def rs_thread_all : List IRes := [.t 8]
theorem ck_thread_all : chkF Tryz.prog Tryz.f195 ir_thread_all rs_thread_all 43 = true := by kernel_rfl
/- paperchase/thread.IsDomain -/
def ir_thread_IsDomain_L0 : IC :=
  (.seq (.reg [⟨some 11, .bin .lss (.t 10) (.t 9), none⟩])
    (.seq (.cond (.t 11) .skip (.exit 0))
    (.seq (.block 1 (.seq (.reg [⟨some 12, .ixa 1 (.t 8) (.t 10), none⟩,
      ⟨some 13, .ld 1 false (.t 12), none⟩,
      ⟨some 5, .mov (.t 13), none⟩])
    (.seq (.reg [⟨some 14, .mov (.t 5), none⟩,
      ⟨some 15, .call 195 [.t 14, .c (.str [45]), .c (.int .i64 1), .c (.int .i64 30)], none⟩,
      ⟨some 16, .not (.t 15), none⟩])
    (.cond (.t 16) (.seq (.reg [⟨some 2, .mov (.c (.bool false)), none⟩])
    .ret) .skip))))
    (.reg [⟨some 17, .bin .add (.t 10) (.c (.int .i64 1)), none⟩,
      ⟨some 10, .mov (.t 17), none⟩]))))
def ir_thread_IsDomain : IC :=
  (.seq (.reg [⟨some 2, .mov (.c (.bool false)), none⟩])
    (.seq (.reg [⟨some 6, .mov (.t 0), none⟩,
      ⟨some 7, .call 93 [.t 6, .c (.str [46])], none⟩,
      ⟨some 3, .mov (.t 7), none⟩])
    (.seq (.seq (.reg [⟨some 8, .mov (.t 3), none⟩,
      ⟨some 9, .len (.t 8), none⟩,
      ⟨some 10, .mov (.c (.int .i64 0)), none⟩])
    (.block 0 (.loop ir_thread_IsDomain_L0)))
    (.seq (.reg [⟨some 18, .mov (.t 3), none⟩,
      ⟨some 19, .len (.t 18), none⟩,
      ⟨some 20, .bin .gtr (.t 19) (.c (.int .i64 1)), none⟩,
      ⟨some 2, .mov (.t 20), none⟩])
    .ret))))
def rs_thread_IsDomain : List IRes := [.t 2]
theorem ck_thread_IsDomain : chkF Tryz.prog Tryz.f196 ir_thread_IsDomain rs_thread_IsDomain 21 = true := by kernel_rfl
/- paperchase/thread.IsMail -/
def ir_thread_IsMail : IC :=
  (.seq (.reg [⟨some 2, .mov (.c (.bool false)), none⟩])
    (.seq (.reg [⟨some 7, .mov (.t 0), none⟩,
      ⟨some 8, .call 115 [.t 7, .c (.str [64])], none⟩,
      ⟨some 6, .mov (.t 8), none⟩,
      ⟨some 9, .ext 0 (.t 6), none⟩,
      ⟨some 10, .ext 1 (.t 6), none⟩,
      ⟨some 11, .ext 2 (.t 6), none⟩,
      ⟨some 3, .mov (.t 9), none⟩,
      ⟨some 4, .mov (.t 10), none⟩,
      ⟨some 5, .mov (.t 11), none⟩])
    (.seq (.seq (.reg [⟨some 12, .mov (.t 5), none⟩,
      ⟨some 13, .not (.t 12), none⟩,
      ⟨some 14, .mov (.t 13), none⟩,
      ⟨some 15, .mov (.t 0), (some (14, false))⟩,
      ⟨some 16, .sln (.t 15), (some (14, false))⟩,
      ⟨some 17, .bin .gtr (.t 16) (.c (.int .i64 80)), (some (14, false))⟩,
      ⟨some 18, .pick (.t 14) (.c (.bool true)) (.t 17), none⟩,
      ⟨some 19, .mov (.t 18), none⟩,
      ⟨some 20, .mov (.t 3), (some (19, false))⟩,
      ⟨some 21, .call 195 [.t 20, .c (.str [46, 45, 95, 43]), .c (.int .i64 1), .c (.int .i64 40)], (some (19, false))⟩,
      ⟨some 22, .not (.t 21), (some (19, false))⟩,
      ⟨some 23, .pick (.t 19) (.c (.bool true)) (.t 22), none⟩])
    (.cond (.t 23) (.seq (.reg [⟨some 2, .mov (.c (.bool false)), none⟩])
    .ret) .skip))
    (.seq (.reg [⟨some 24, .mov (.t 4), none⟩,
      ⟨some 25, .call 196 [.t 24], none⟩,
      ⟨some 2, .mov (.t 25), none⟩])
    .ret))))
def rs_thread_IsMail : List IRes := [.t 2]
theorem ck_thread_IsMail : chkF Tryz.prog Tryz.f113 ir_thread_IsMail rs_thread_IsMail 26 = true := by kernel_rfl
/- paperchase/chaseref1.MailOf -/
def ir_chaseref1_MailOf_L0 : IC :=
  (.seq (.reg [⟨some 42, .bin .lss (.t 41) (.t 40), none⟩])
    (.seq (.cond (.t 42) .skip (.exit 0))
    (.seq (.block 1 (.seq (.reg [⟨some 43, .ixa 1 (.t 39) (.t 41), none⟩,
      ⟨some 44, .ld 1 false (.t 43), none⟩,
      ⟨some 8, .mov (.t 44), none⟩])
    (.seq (.reg [⟨some 45, .mov (.t 8), none⟩,
      ⟨some 46, .sln (.t 45), none⟩,
      ⟨some 47, .bin .lss (.t 46) (.c (.int .i64 1)), none⟩,
      ⟨some 48, .mov (.t 47), none⟩,
      ⟨some 49, .mov (.t 8), (some (48, false))⟩,
      ⟨some 50, .sln (.t 49), (some (48, false))⟩,
      ⟨some 51, .bin .gtr (.t 50) (.c (.int .i64 30)), (some (48, false))⟩,
      ⟨some 52, .pick (.t 48) (.c (.bool true)) (.t 51), none⟩,
      ⟨some 53, .mov (.t 52), none⟩,
      ⟨some 54, .mov (.t 8), (some (53, false))⟩,
      ⟨some 55, .call 116 [.t 54, .c (.str [97, 98, 99, 100, 101, 102, 103, 104, 105, 106, 107, 108, 109, 110, 111, 112, 113, 114, 115, 116, 117, 118, 119, 120, 121, 122, 48, 49, 50, 51, 52, 53, 54, 55, 56, 57, 45])], (some (53, false))⟩,
      ⟨some 56, .not (.t 55), (some (53, false))⟩,
      ⟨some 57, .pick (.t 53) (.c (.bool true)) (.t 56), none⟩])
    (.cond (.t 57) (.seq (.reg [⟨some 2, .mov (.c (.bool false)), none⟩])
    .ret) .skip))))
    (.reg [⟨some 58, .bin .add (.t 41) (.c (.int .i64 1)), none⟩,
      ⟨some 41, .mov (.t 58), none⟩]))))
def ir_chaseref1_MailOf : IC :=
  (.seq (.reg [⟨some 2, .mov (.c (.bool false)), none⟩])
    (.seq (.reg [⟨some 10, .mov (.t 0), none⟩,
      ⟨some 11, .call 115 [.t 10, .c (.str [64])], none⟩,
      ⟨some 9, .mov (.t 11), none⟩,
      ⟨some 12, .ext 0 (.t 9), none⟩,
      ⟨some 13, .ext 1 (.t 9), none⟩,
      ⟨some 14, .ext 2 (.t 9), none⟩,
      ⟨some 3, .mov (.t 12), none⟩,
      ⟨some 4, .mov (.t 13), none⟩,
      ⟨some 5, .mov (.t 14), none⟩])
    (.seq (.seq (.reg [⟨some 15, .mov (.t 5), none⟩,
      ⟨some 16, .not (.t 15), none⟩,
      ⟨some 17, .mov (.t 16), none⟩,
      ⟨some 18, .mov (.t 0), (some (17, false))⟩,
      ⟨some 19, .sln (.t 18), (some (17, false))⟩,
      ⟨some 20, .bin .gtr (.t 19) (.c (.int .i64 80)), (some (17, false))⟩,
      ⟨some 21, .pick (.t 17) (.c (.bool true)) (.t 20), none⟩,
      ⟨some 22, .mov (.t 21), none⟩,
      ⟨some 23, .mov (.t 3), (some (22, false))⟩,
      ⟨some 24, .sln (.t 23), (some (22, false))⟩,
      ⟨some 25, .bin .lss (.t 24) (.c (.int .i64 1)), (some (22, false))⟩,
      ⟨some 26, .pick (.t 22) (.c (.bool true)) (.t 25), none⟩,
      ⟨some 27, .mov (.t 26), none⟩,
      ⟨some 28, .mov (.t 3), (some (27, false))⟩,
      ⟨some 29, .sln (.t 28), (some (27, false))⟩,
      ⟨some 30, .bin .gtr (.t 29) (.c (.int .i64 40)), (some (27, false))⟩,
      ⟨some 31, .pick (.t 27) (.c (.bool true)) (.t 30), none⟩,
      ⟨some 32, .mov (.t 31), none⟩,
      ⟨some 33, .mov (.t 3), (some (32, false))⟩,
      ⟨some 34, .call 116 [.t 33, .c (.str [97, 98, 99, 100, 101, 102, 103, 104, 105, 106, 107, 108, 109, 110, 111, 112, 113, 114, 115, 116, 117, 118, 119, 120, 121, 122, 48, 49, 50, 51, 52, 53, 54, 55, 56, 57, 46, 45, 95, 43])], (some (32, false))⟩,
      ⟨some 35, .not (.t 34), (some (32, false))⟩,
      ⟨some 36, .pick (.t 32) (.c (.bool true)) (.t 35), none⟩])
    (.cond (.t 36) (.seq (.reg [⟨some 2, .mov (.c (.bool false)), none⟩])
    .ret) .skip))
    (.seq (.reg [⟨some 37, .mov (.t 4), none⟩,
      ⟨some 38, .call 93 [.t 37, .c (.str [46])], none⟩,
      ⟨some 6, .mov (.t 38), none⟩])
    (.seq (.seq (.reg [⟨some 39, .mov (.t 6), none⟩,
      ⟨some 40, .len (.t 39), none⟩,
      ⟨some 41, .mov (.c (.int .i64 0)), none⟩])
    (.block 0 (.loop ir_chaseref1_MailOf_L0)))
    (.seq (.reg [⟨some 59, .mov (.t 6), none⟩,
      ⟨some 60, .len (.t 59), none⟩,
      ⟨some 61, .bin .gtr (.t 60) (.c (.int .i64 1)), none⟩,
      ⟨some 2, .mov (.t 61), none⟩])
    .ret))))))
def rs_chaseref1_MailOf : List IRes := [.t 2]
theorem ck_chaseref1_MailOf : chkF Tryz.prog Tryz.f40 ir_chaseref1_MailOf rs_chaseref1_MailOf 62 = true := by kernel_rfl


def inB (o : List UInt8) (c : UInt8) : Bool := ((decide (97 ≤ (c.toNat : Int)) && decide ((c.toNat : Int) ≤ 122)) || digB c) || decide (0 ≤ Lib.indexByte o c)
def allB (s o : List UInt8) : Bool := s.all (inB o)
def domF (s : List UInt8) : Bool := (splF s 46).all (fun x => allB x [45] && inE x.length 1 30) && decide (1 < (splF s 46).length)
def mailF (s : List UInt8) : Bool := (((cutF s [64]).2.2 && decide ((s.length : Int) ≤ 80)) && (allB (cutF s [64]).1 [46, 45, 95, 43] && inE (cutF s [64]).1.length 1 40)) && domF (cutF s [64]).2.1
theorem all_snoc {l : List UInt8} {p : UInt8 → Bool} {k : Nat} {c : UInt8} (h : l[k]? = some c) : (l.take (k + 1)).all p = ((l.take k).all p && p c) := all_take h
theorem all_false {α : Type} {l : List α} {p : α → Bool} {k : Nat} {c : α} (h : l[k]? = some c) (hp : p c = false) : l.all p = false := by
  rw [List.all_eq_false]
  exact ⟨c, List.mem_of_getElem? h, by simp [hp]⟩
section
variable {E : Envt}
theorem all_ok (s o : List UInt8) (lo hi : Int) (hs : s.length ≤ 1000000000) : PCall Tryz.prog E 195 [.str s, .str o, int lo, int hi] (· = .bool (allB s o && inE s.length lo hi)) := by
  refine pcallF mixed Tryz.func195 ck_thread_all ?_
  simp only [a0, l0, OS.ao, List.map_cons, List.map_nil, List.length_cons, List.length_nil, List.cons_append, List.nil_append, Nat.reduceSub, Nat.reduceAdd, List.replicate_succ, List.replicate_zero, ir_thread_all, rs_thread_all, ZZ, YY, Ze, ite_true, ite_false, forall_const, reduceCtorEq, Nat.reduceAdd, Nat.reduceMul, Nat.reduceLeDiff, Nat.reduceLT, Nat.reduceEqDiff]
  refine loop_intro (fun n fr L => ∃ (k : Nat), k ≤ s.length ∧ n = s.length - k ∧ ((s.take k).all (inB o) = true) ∧ fr = [.p (.str s), .p (.str o), .p (int lo), .p (int hi), .any, .any, .any, .any, .any, .any, .any, .any, .p (int (s.length : Nat)), .p (int (k : Nat)), .any, .any, .any, .any, .any, .any, .any, .any, .any, .any, .any, .any, .any, .any, .any, .any, .any, .any, .any, .any, .any, .any, .any, .any, .any, .any, .any, .any, .any] ∧ L = []) (s.length) [.p (.str s), .p (.str o), .p (int lo), .p (int hi), .any, .any, .any, .any, .any, .any, .any, .any, .p (int (s.length : Nat)), .p (int (0 : Nat)), .any, .any, .any, .any, .any, .any, .any, .any, .any, .any, .any, .any, .any, .any, .any, .any, .any, .any, .any, .any, .any, .any, .any, .any, .any, .any, .any, .any, .any] [] (by (simp only [ZZ, YY, Ze, ite_true, ite_false, forall_const, reduceCtorEq, Nat.reduceAdd, Nat.reduceMul, Nat.reduceLeDiff, Nat.reduceLT, Nat.reduceEqDiff]; try trivial)) (by (simp only [ZZ, YY, Ze, ite_true, ite_false, forall_const, reduceCtorEq, Nat.reduceAdd, Nat.reduceMul, Nat.reduceLeDiff, Nat.reduceLT, Nat.reduceEqDiff]; try trivial)) ⟨0, by omega, by omega, by simp, rfl, rfl⟩ ?_
  rintro n fr L ⟨k, hk, rfl, ha, rfl, rfl⟩
  simp only [ir_thread_all_L0, ZZ, YY, Ze, ite_true, ite_false, forall_const, reduceCtorEq, Nat.reduceAdd, Nat.reduceMul, Nat.reduceLeDiff, Nat.reduceLT, Nat.reduceEqDiff]
  refine br ?_ ?_
  · intro h
    have hlt : k < s.length := by have := of_decide_eq_true h; omega
    obtain ⟨c, hc⟩ : ∃ c, s[k]? = some c := ⟨_, List.getElem?_eq_getElem hlt⟩
    have hg : s.getD k 0 = c := by simp [List.getD, hc]
    simp only [ZZ, YY, Ze, ite_true, ite_false, forall_const, reduceCtorEq, Nat.reduceAdd, Nat.reduceMul, Nat.reduceLeDiff, Nat.reduceLT, Nat.reduceEqDiff, hg]
    ((repeat' (with_reducible apply And.intro)) <;> try ((first | first | assumption | trivial | exact (fun hq => by rw [hq]; rfl) | exact i64_of (by omega) (by omega) | omega | (simp; done) | (simp; omega) | (intro hsc; have hs0 := hsc; (try have hsd := of_decide_eq_true hsc); (try simp only [Bool.not_eq_true', Bool.or_eq_false_iff, Bool.and_eq_true, Bool.or_eq_true, decide_eq_true_eq, decide_eq_false_iff_not] at hsc); (repeat' (with_reducible apply And.intro)) <;> (first | assumption | trivial | exact (fun hq => by rw [hq]; rfl) | exact i64_of (by omega) (by omega) | omega | (simp; done) | (simp; omega) | (intro hse; simp [hse, hs0]; done) | (intro hse; simp only [hse, hs0, Bool.true_and, Bool.and_true, Bool.not_false, Bool.not_true, Bool.and_self]; done))))))
    refine useG (fun _ => Digit_ok c) rfl (.inl rfl) ?_
    simp only [ZZ, YY, Ze, ite_true, ite_false, forall_const, reduceCtorEq, Nat.reduceAdd, Nat.reduceMul, Nat.reduceLeDiff, Nat.reduceLT, Nat.reduceEqDiff]
    ((repeat' (with_reducible apply And.intro)) <;> try ((first | first | assumption | trivial | exact (fun hq => by rw [hq]; rfl) | exact i64_of (by omega) (by omega) | omega | (simp; done) | (simp; omega) | (intro hsc; have hs0 := hsc; (try have hsd := of_decide_eq_true hsc); (try simp only [Bool.not_eq_true', Bool.or_eq_false_iff, Bool.and_eq_true, Bool.or_eq_true, decide_eq_true_eq, decide_eq_false_iff_not] at hsc); (repeat' (with_reducible apply And.intro)) <;> (first | assumption | trivial | exact (fun hq => by rw [hq]; rfl) | exact i64_of (by omega) (by omega) | omega | (simp; done) | (simp; omega) | (intro hse; simp [hse, hs0]; done) | (intro hse; simp only [hse, hs0, Bool.true_and, Bool.and_true, Bool.not_false, Bool.not_true, Bool.and_self]; done))))))
    refine useG (fun _ => IndexByte_ok o c) rfl (.inl rfl) ?_
    simp only [ZZ, YY, Ze, ite_true, ite_false, forall_const, reduceCtorEq, Nat.reduceAdd, Nat.reduceMul, Nat.reduceLeDiff, Nat.reduceLT, Nat.reduceEqDiff]
    ((repeat' (with_reducible apply And.intro)) <;> try ((first | first | assumption | trivial | exact (fun hq => by rw [hq]; rfl) | exact i64_of (by omega) (by omega) | omega | (simp; done) | (simp; omega) | (intro hsc; have hs0 := hsc; (try have hsd := of_decide_eq_true hsc); (try simp only [Bool.not_eq_true', Bool.or_eq_false_iff, Bool.and_eq_true, Bool.or_eq_true, decide_eq_true_eq, decide_eq_false_iff_not] at hsc); (repeat' (with_reducible apply And.intro)) <;> (first | assumption | trivial | exact (fun hq => by rw [hq]; rfl) | exact i64_of (by omega) (by omega) | omega | (simp; done) | (simp; omega) | (intro hse; simp [hse, hs0]; done) | (intro hse; simp only [hse, hs0, Bool.true_and, Bool.and_true, Bool.not_false, Bool.not_true, Bool.and_self]; done))))))
    have hB : (((!(decide (97 ≤ (c.toNat : Int)) && decide ((c.toNat : Int) ≤ 122)) && !digB c)) && decide (Lib.indexByte o c < 0)) = !inB o c := by
      unfold inB
      have : decide (Lib.indexByte o c < 0) = !decide (0 ≤ Lib.indexByte o c) := by
        by_cases h : 0 ≤ Lib.indexByte o c <;> simp [h] <;> omega
      rw [this]
      cases (decide (97 ≤ (c.toNat : Int)) && decide ((c.toNat : Int) ≤ 122)) <;> cases digB c <;> simp
    refine br ?_ ?_
    · intro hx
      have hf : inB o c = false := by rw [hB] at hx; simpa using hx
      simp only [ZZ, YY, Ze, ite_true, ite_false, forall_const, reduceCtorEq, Nat.reduceAdd, Nat.reduceMul, Nat.reduceLeDiff, Nat.reduceLT, Nat.reduceEqDiff]
      rw [allB, all_false hc hf]
      rfl
    · intro hx
      have hf : inB o c = true := by rw [hB] at hx; simpa using hx
      simp only [ZZ, YY, Ze, ite_true, ite_false, forall_const, reduceCtorEq, Nat.reduceAdd, Nat.reduceMul, Nat.reduceLeDiff, Nat.reduceLT, Nat.reduceEqDiff]
      refine ⟨i64_of (by omega) (by omega), ?_⟩
      refine end_round (s.length - (k + 1)) [.p (.str s), .p (.str o), .p (int lo), .p (int hi), .any, .any, .any, .any, .any, .any, .any, .any, .p (int (s.length : Nat)), .p (int ((k + 1) : Nat)), .any, .any, .any, .any, .any, .any, .any, .any, .any, .any, .any, .any, .any, .any, .any, .any, .any, .any, .any, .any, .any, .any, .any, .any, .any, .any, .any, .any, .any] [] (by omega) (by (simp only [ZZ, YY, Ze, ite_true, ite_false, forall_const, reduceCtorEq, Nat.reduceAdd, Nat.reduceMul, Nat.reduceLeDiff, Nat.reduceLT, Nat.reduceEqDiff]; try trivial)) (by (simp only [ZZ, YY, Ze, ite_true, ite_false, forall_const, reduceCtorEq, Nat.reduceAdd, Nat.reduceMul, Nat.reduceLeDiff, Nat.reduceLT, Nat.reduceEqDiff]; try trivial)) ⟨k + 1, by omega, rfl, by rw [all_snoc hc, ha, hf]; rfl, rfl, rfl⟩
  · intro h
    have hge : k = s.length := by have := of_decide_eq_false h; omega
    subst hge
    rw [List.take_length] at ha
    simp only [ZZ, YY, Ze, ite_true, ite_false, forall_const, reduceCtorEq, Nat.reduceAdd, Nat.reduceMul, Nat.reduceLeDiff, Nat.reduceLT, Nat.reduceEqDiff]
    refine use1 (In_ok _ _ _) rfl (.inl rfl) ?_
    simp only [ZZ, YY, Ze, ite_true, ite_false, forall_const, reduceCtorEq, Nat.reduceAdd, Nat.reduceMul, Nat.reduceLeDiff, Nat.reduceLT, Nat.reduceEqDiff]
    rw [allB, ha]
    rfl
end
theorem IsDomain_ok (s : List UInt8) (hs : s.length ≤ 1000000000) : PCall Tryz.prog E0 196 [.str s] (· = .bool (domF s)) := by
  refine pcallF mixed Tryz.func196 ck_thread_IsDomain ?_
  simp only [a0, l0, OS.ao, List.map_cons, List.map_nil, List.length_cons, List.length_nil, List.cons_append, List.nil_append, Nat.reduceSub, Nat.reduceAdd, List.replicate_succ, List.replicate_zero, ir_thread_IsDomain, rs_thread_IsDomain, ZZ, YY, Ze, ite_true, ite_false, forall_const, reduceCtorEq, Nat.reduceAdd, Nat.reduceMul, Nat.reduceLeDiff, Nat.reduceLT, Nat.reduceEqDiff]
  refine use1 (Split_ok s 46 hs) rfl (.inl rfl) ?_
  rw [strs_eq]
  have hD : domF s = ((splF s 46).all (fun x => allB x [45] && inE x.length 1 30) && decide (1 < (splF s 46).length)) := rfl
  rw [hD]
  have hmem := splF_mem s 46
  have hlen := splF_len s 46
  generalize splF s 46 = ls at *
  simp only [ZZ, YY, Ze, ite_true, ite_false, forall_const, reduceCtorEq, Nat.reduceAdd, Nat.reduceMul, Nat.reduceLeDiff, Nat.reduceLT, Nat.reduceEqDiff, strE_len]
  refine loop_intro (fun n fr L => ∃ (k : Nat), k ≤ ls.length ∧ n = ls.length - k ∧ ((ls.take k).all (fun x => allB x [45] && inE x.length 1 30) = true) ∧ fr = [.any, .any, .any, .p (.sl 1 (strE ls)), .any, .any, .any, .any, .p (.sl 1 (strE ls)), .p (int (ls.length : Nat)), .p (int (k : Nat)), .any, .any, .any, .any, .any, .any, .any, .any, .any, .any] ∧ L = []) (ls.length) [.any, .any, .any, .p (.sl 1 (strE ls)), .any, .any, .any, .any, .p (.sl 1 (strE ls)), .p (int (ls.length : Nat)), .p (int (0 : Nat)), .any, .any, .any, .any, .any, .any, .any, .any, .any, .any] [] (by simp only [ZZ, YY, Ze, ite_true, ite_false, forall_const, reduceCtorEq, Nat.reduceAdd, Nat.reduceMul, Nat.reduceLeDiff, Nat.reduceLT, Nat.reduceEqDiff, strE_len]; try trivial) (by (simp only [ZZ, YY, Ze, ite_true, ite_false, forall_const, reduceCtorEq, Nat.reduceAdd, Nat.reduceMul, Nat.reduceLeDiff, Nat.reduceLT, Nat.reduceEqDiff]; try trivial)) ⟨0, by omega, by omega, by simp, rfl, rfl⟩ ?_
  rintro n fr L ⟨k, hk, rfl, ha, rfl, rfl⟩
  simp only [ir_thread_IsDomain_L0, ZZ, YY, Ze, ite_true, ite_false, forall_const, reduceCtorEq, Nat.reduceAdd, Nat.reduceMul, Nat.reduceLeDiff, Nat.reduceLT, Nat.reduceEqDiff]
  refine br ?_ ?_
  · intro h
    have hlt : k < ls.length := by have := of_decide_eq_true h; omega
    obtain ⟨x, hx⟩ : ∃ x, ls[k]? = some x := ⟨_, List.getElem?_eq_getElem hlt⟩
    have hg := strE_get hx
    have hxl := hmem x (List.mem_of_getElem? hx)
    simp only [ZZ, YY, Ze, ite_true, ite_false, forall_const, reduceCtorEq, Nat.reduceAdd, Nat.reduceMul, Nat.reduceLeDiff, Nat.reduceLT, Nat.reduceEqDiff, hg, strE_len]
    ((repeat' (with_reducible apply And.intro)) <;> try ((first | first | assumption | trivial | exact (fun hq => by rw [hq]; rfl) | exact i64_of (by omega) (by omega) | omega | (simp; done) | (simp; omega) | (intro hsc; have hs0 := hsc; (try have hsd := of_decide_eq_true hsc); (try simp only [Bool.not_eq_true', Bool.or_eq_false_iff, Bool.and_eq_true, Bool.or_eq_true, decide_eq_true_eq, decide_eq_false_iff_not] at hsc); (repeat' (with_reducible apply And.intro)) <;> (first | assumption | trivial | exact (fun hq => by rw [hq]; rfl) | exact i64_of (by omega) (by omega) | omega | (simp; done) | (simp; omega) | (intro hse; simp [hse, hs0]; done) | (intro hse; simp only [hse, hs0, Bool.true_and, Bool.and_true, Bool.not_false, Bool.not_true, Bool.and_self]; done))))))
    refine use1 (all_ok x [45] 1 30 (by omega)) rfl (.inl rfl) ?_
    simp only [ZZ, YY, Ze, ite_true, ite_false, forall_const, reduceCtorEq, Nat.reduceAdd, Nat.reduceMul, Nat.reduceLeDiff, Nat.reduceLT, Nat.reduceEqDiff]
    refine br ?_ ?_
    · intro hf
      have hf : (allB x [45] && inE x.length 1 30) = false := by rwa [Bool.not_eq_true'] at hf
      simp only [ZZ, YY, Ze, ite_true, ite_false, forall_const, reduceCtorEq, Nat.reduceAdd, Nat.reduceMul, Nat.reduceLeDiff, Nat.reduceLT, Nat.reduceEqDiff]
      rw [all_false hx hf]
      rfl
    · intro hf
      have hf : (allB x [45] && inE x.length 1 30) = true := by rwa [Bool.not_eq_false'] at hf
      simp only [ZZ, YY, Ze, ite_true, ite_false, forall_const, reduceCtorEq, Nat.reduceAdd, Nat.reduceMul, Nat.reduceLeDiff, Nat.reduceLT, Nat.reduceEqDiff]
      refine ⟨i64_of (by omega) (by omega), ?_⟩
      refine end_round (ls.length - (k + 1)) [.any, .any, .any, .p (.sl 1 (strE ls)), .any, .any, .any, .any, .p (.sl 1 (strE ls)), .p (int (ls.length : Nat)), .p (int ((k + 1) : Nat)), .any, .any, .any, .any, .any, .any, .any, .any, .any, .any] [] (by omega) (by (simp only [ZZ, YY, Ze, ite_true, ite_false, forall_const, reduceCtorEq, Nat.reduceAdd, Nat.reduceMul, Nat.reduceLeDiff, Nat.reduceLT, Nat.reduceEqDiff]; try trivial)) (by (simp only [ZZ, YY, Ze, ite_true, ite_false, forall_const, reduceCtorEq, Nat.reduceAdd, Nat.reduceMul, Nat.reduceLeDiff, Nat.reduceLT, Nat.reduceEqDiff]; try trivial)) ⟨k + 1, by omega, rfl, by rw [List.take_succ_eq_append_getElem hlt, List.all_append, ha, (List.getElem?_eq_some_iff.1 hx).2]; simpa using hf, rfl, rfl⟩
  · intro h
    have hge : k = ls.length := by have := of_decide_eq_false h; omega
    subst hge
    rw [List.take_length] at ha
    simp only [ZZ, YY, Ze, ite_true, ite_false, forall_const, reduceCtorEq, Nat.reduceAdd, Nat.reduceMul, Nat.reduceLeDiff, Nat.reduceLT, Nat.reduceEqDiff, strE_len]
    rw [ha]
    simp
    omega
theorem IsMail_ok (s : List UInt8) (hs : s.length ≤ 1000000000) : PCall Tryz.prog E0 113 [.str s] (· = .bool (mailF s)) := by
  refine pcallF mixed Tryz.func113 ck_thread_IsMail ?_
  simp only [a0, l0, OS.ao, List.map_cons, List.map_nil, List.length_cons, List.length_nil, List.cons_append, List.nil_append, Nat.reduceSub, Nat.reduceAdd, List.replicate_succ, List.replicate_zero, ir_thread_IsMail, rs_thread_IsMail, ZZ, YY, Ze, ite_true, ite_false, forall_const, reduceCtorEq, Nat.reduceAdd, Nat.reduceMul, Nat.reduceLeDiff, Nat.reduceLT, Nat.reduceEqDiff]
  refine use1 (Cut_ok s [64] hs) rfl (.inl rfl) ?_
  have hc := cutF_len s [64]
  unfold mailF
  generalize cutF s [64] = q at *
  simp only [ZZ, YY, Ze, ite_true, ite_false, forall_const, reduceCtorEq, Nat.reduceAdd, Nat.reduceMul, Nat.reduceLeDiff, Nat.reduceLT, Nat.reduceEqDiff]
  ((repeat' (with_reducible apply And.intro)) <;> try ((first | first | assumption | trivial | exact (fun hq => by rw [hq]; rfl) | exact i64_of (by omega) (by omega) | omega | (simp; done) | (simp; omega) | (intro hsc; have hs0 := hsc; (try have hsd := of_decide_eq_true hsc); (try simp only [Bool.not_eq_true', Bool.or_eq_false_iff, Bool.and_eq_true, Bool.or_eq_true, decide_eq_true_eq, decide_eq_false_iff_not] at hsc); (repeat' (with_reducible apply And.intro)) <;> (first | assumption | trivial | exact (fun hq => by rw [hq]; rfl) | exact i64_of (by omega) (by omega) | omega | (simp; done) | (simp; omega) | (intro hse; simp [hse, hs0]; done) | (intro hse; simp only [hse, hs0, Bool.true_and, Bool.and_true, Bool.not_false, Bool.not_true, Bool.and_self]; done))))))
  refine useG (fun _ => all_ok q.1 [46, 45, 95, 43] 1 40 (by omega)) rfl (.inl rfl) ?_
  simp only [ZZ, YY, Ze, ite_true, ite_false, forall_const, reduceCtorEq, Nat.reduceAdd, Nat.reduceMul, Nat.reduceLeDiff, Nat.reduceLT, Nat.reduceEqDiff]
  ((repeat' (with_reducible apply And.intro)) <;> try ((first | first | assumption | trivial | exact (fun hq => by rw [hq]; rfl) | exact i64_of (by omega) (by omega) | omega | (simp; done) | (simp; omega) | (intro hsc; have hs0 := hsc; (try have hsd := of_decide_eq_true hsc); (try simp only [Bool.not_eq_true', Bool.or_eq_false_iff, Bool.and_eq_true, Bool.or_eq_true, decide_eq_true_eq, decide_eq_false_iff_not] at hsc); (repeat' (with_reducible apply And.intro)) <;> (first | assumption | trivial | exact (fun hq => by rw [hq]; rfl) | exact i64_of (by omega) (by omega) | omega | (simp; done) | (simp; omega) | (intro hse; simp [hse, hs0]; done) | (intro hse; simp only [hse, hs0, Bool.true_and, Bool.and_true, Bool.not_false, Bool.not_true, Bool.and_self]; done))))))
  refine br ?_ ?_
  · intro h
    simp only [ZZ, YY, Ze, ite_true, ite_false, forall_const, reduceCtorEq, Nat.reduceAdd, Nat.reduceMul, Nat.reduceLeDiff, Nat.reduceLT, Nat.reduceEqDiff]
    congr 1
    symm
    cases h1 : q.2.2 <;> cases h2 : (allB q.1 [46, 45, 95, 43] && inE q.1.length 1 40) <;> simp [h1, h2] at h ⊢
    omega
  · intro h
    simp only [ZZ, YY, Ze, ite_true, ite_false, forall_const, reduceCtorEq, Nat.reduceAdd, Nat.reduceMul, Nat.reduceLeDiff, Nat.reduceLT, Nat.reduceEqDiff]
    refine use1 (IsDomain_ok q.2.1 (by omega)) rfl (.inl rfl) ?_
    simp only [ZZ, YY, Ze, ite_true, ite_false, forall_const, reduceCtorEq, Nat.reduceAdd, Nat.reduceMul, Nat.reduceLeDiff, Nat.reduceLT, Nat.reduceEqDiff]
    congr 1
    cases h1 : q.2.2 <;> cases h2 : (allB q.1 [46, 45, 95, 43] && inE q.1.length 1 40) <;> simp [h1, h2] at h ⊢
    omega
def nsL : List UInt8 := smallL ++ [48, 49, 50, 51, 52, 53, 54, 55, 56, 57]
theorem made_loc (s : List UInt8) : madeF s (nsL ++ [46, 45, 95, 43]) = allB s [46, 45, 95, 43] := by
  rw [madeF_all, allB]
  congr 1
  funext c
  exact all256 (p := fun c => (nsL ++ [46, 45, 95, 43]).contains c = inB [46, 45, 95, 43] c) (by decide +kernel) c
theorem made_lab (s : List UInt8) : madeF s (nsL ++ [45]) = allB s [45] := by
  rw [madeF_all, allB]
  congr 1
  funext c
  exact all256 (p := fun c => (nsL ++ [45]).contains c = inB [45] c) (by decide +kernel) c
theorem MailOf_ok (s : List UInt8) (hs : s.length ≤ 1000000000) : PCall Tryz.prog E0 40 [.str s] (· = .bool (mailF s)) := by
  refine pcallF mixed Tryz.func40 ck_chaseref1_MailOf ?_
  simp only [a0, l0, OS.ao, List.map_cons, List.map_nil, List.length_cons, List.length_nil, List.cons_append, List.nil_append, Nat.reduceSub, Nat.reduceAdd, List.replicate_succ, List.replicate_zero, ir_chaseref1_MailOf, rs_chaseref1_MailOf, ZZ, YY, Ze, ite_true, ite_false, forall_const, reduceCtorEq, Nat.reduceAdd, Nat.reduceMul, Nat.reduceLeDiff, Nat.reduceLT, Nat.reduceEqDiff]
  refine use1 (Cut_ok s [64] hs) rfl (.inl rfl) ?_
  have hc := cutF_len s [64]
  unfold mailF
  generalize cutF s [64] = q at *
  simp only [ZZ, YY, Ze, ite_true, ite_false, forall_const, reduceCtorEq, Nat.reduceAdd, Nat.reduceMul, Nat.reduceLeDiff, Nat.reduceLT, Nat.reduceEqDiff]
  ((repeat' (with_reducible apply And.intro)) <;> try ((first | first | assumption | trivial | exact (fun hq => by rw [hq]; rfl) | exact i64_of (by omega) (by omega) | omega | (simp; done) | (simp; omega) | (intro hsc; have hs0 := hsc; (try have hsd := of_decide_eq_true hsc); (try simp only [Bool.not_eq_true', Bool.or_eq_false_iff, Bool.and_eq_true, Bool.or_eq_true, decide_eq_true_eq, decide_eq_false_iff_not] at hsc); (repeat' (with_reducible apply And.intro)) <;> (first | assumption | trivial | exact (fun hq => by rw [hq]; rfl) | exact i64_of (by omega) (by omega) | omega | (simp; done) | (simp; omega) | (intro hse; simp [hse, hs0]; done) | (intro hse; simp only [hse, hs0, Bool.true_and, Bool.and_true, Bool.not_false, Bool.not_true, Bool.and_self]; done))))))
  refine useG (fun _ => made_ok q.1 (nsL ++ [46, 45, 95, 43]) (by omega) (by decide) (by decide)) rfl (.inl rfl) ?_
  rw [made_loc]
  simp only [ZZ, YY, Ze, ite_true, ite_false, forall_const, reduceCtorEq, Nat.reduceAdd, Nat.reduceMul, Nat.reduceLeDiff, Nat.reduceLT, Nat.reduceEqDiff]
  ((repeat' (with_reducible apply And.intro)) <;> try ((first | first | assumption | trivial | exact (fun hq => by rw [hq]; rfl) | exact i64_of (by omega) (by omega) | omega | (simp; done) | (simp; omega) | (intro hsc; have hs0 := hsc; (try have hsd := of_decide_eq_true hsc); (try simp only [Bool.not_eq_true', Bool.or_eq_false_iff, Bool.and_eq_true, Bool.or_eq_true, decide_eq_true_eq, decide_eq_false_iff_not] at hsc); (repeat' (with_reducible apply And.intro)) <;> (first | assumption | trivial | exact (fun hq => by rw [hq]; rfl) | exact i64_of (by omega) (by omega) | omega | (simp; done) | (simp; omega) | (intro hse; simp [hse, hs0]; done) | (intro hse; simp only [hse, hs0, Bool.true_and, Bool.and_true, Bool.not_false, Bool.not_true, Bool.and_self]; done))))))
  refine br ?_ ?_
  · intro h
    simp only [ZZ, YY, Ze, ite_true, ite_false, forall_const, reduceCtorEq, Nat.reduceAdd, Nat.reduceMul, Nat.reduceLeDiff, Nat.reduceLT, Nat.reduceEqDiff]
    congr 1
    symm
    cases h1 : q.2.2 <;> cases h2 : allB q.1 [46, 45, 95, 43] <;> simp [h1, h2, inE] at h ⊢
    omega
  intro h
  have hq : (((q.2.2 && decide ((s.length : Int) ≤ 80)) && (allB q.1 [46, 45, 95, 43] && inE q.1.length 1 40)) && domF q.2.1) = domF q.2.1 := by
    cases h1 : q.2.2 <;> cases h2 : allB q.1 [46, 45, 95, 43] <;> simp [h1, h2, inE] at h ⊢
    omega
  rw [hq]
  simp only [ZZ, YY, Ze, ite_true, ite_false, forall_const, reduceCtorEq, Nat.reduceAdd, Nat.reduceMul, Nat.reduceLeDiff, Nat.reduceLT, Nat.reduceEqDiff]
  refine use1 (Split_ok q.2.1 46 (by omega)) rfl (.inl rfl) ?_
  rw [strs_eq]
  have hD : domF q.2.1 = ((splF q.2.1 46).all (fun x => allB x [45] && inE x.length 1 30) && decide (1 < (splF q.2.1 46).length)) := rfl
  rw [hD]
  have hmem := splF_mem q.2.1 46
  have hlen := splF_len q.2.1 46
  generalize splF q.2.1 46 = ls at *
  simp only [ZZ, YY, Ze, ite_true, ite_false, forall_const, reduceCtorEq, Nat.reduceAdd, Nat.reduceMul, Nat.reduceLeDiff, Nat.reduceLT, Nat.reduceEqDiff, strE_len]
  refine loop_intro (fun n fr L => ∃ (k : Nat), k ≤ ls.length ∧ n = ls.length - k ∧ ((ls.take k).all (fun x => allB x [45] && inE x.length 1 30) = true) ∧ fr = [.any, .any, .any, .any, .any, .any, .p (.sl 1 (strE ls)), .any, .any, .any, .any, .any, .any, .any, .any, .any, .any, .any, .any, .any, .any, .any, .any, .any, .any, .any, .any, .any, .any, .any, .any, .any, .any, .any, .any, .any, .any, .any, .any, .p (.sl 1 (strE ls)), .p (int (ls.length : Nat)), .p (int (k : Nat)), .any, .any, .any, .any, .any, .any, .any, .any, .any, .any, .any, .any, .any, .any, .any, .any, .any, .any, .any, .any] ∧ L = []) (ls.length) [.any, .any, .any, .any, .any, .any, .p (.sl 1 (strE ls)), .any, .any, .any, .any, .any, .any, .any, .any, .any, .any, .any, .any, .any, .any, .any, .any, .any, .any, .any, .any, .any, .any, .any, .any, .any, .any, .any, .any, .any, .any, .any, .any, .p (.sl 1 (strE ls)), .p (int (ls.length : Nat)), .p (int (0 : Nat)), .any, .any, .any, .any, .any, .any, .any, .any, .any, .any, .any, .any, .any, .any, .any, .any, .any, .any, .any, .any] [] (by simp only [ZZ, YY, Ze, ite_true, ite_false, forall_const, reduceCtorEq, Nat.reduceAdd, Nat.reduceMul, Nat.reduceLeDiff, Nat.reduceLT, Nat.reduceEqDiff, strE_len]; try trivial) (by (simp only [ZZ, YY, Ze, ite_true, ite_false, forall_const, reduceCtorEq, Nat.reduceAdd, Nat.reduceMul, Nat.reduceLeDiff, Nat.reduceLT, Nat.reduceEqDiff]; try trivial)) ⟨0, by omega, by omega, by simp, rfl, rfl⟩ ?_
  rintro n fr L ⟨k, hk, rfl, ha, rfl, rfl⟩
  simp only [ir_chaseref1_MailOf_L0, ZZ, YY, Ze, ite_true, ite_false, forall_const, reduceCtorEq, Nat.reduceAdd, Nat.reduceMul, Nat.reduceLeDiff, Nat.reduceLT, Nat.reduceEqDiff]
  refine br ?_ ?_
  · intro h
    have hlt : k < ls.length := by have := of_decide_eq_true h; omega
    obtain ⟨x, hx⟩ : ∃ x, ls[k]? = some x := ⟨_, List.getElem?_eq_getElem hlt⟩
    have hg := strE_get hx
    have hxl := hmem x (List.mem_of_getElem? hx)
    simp only [ZZ, YY, Ze, ite_true, ite_false, forall_const, reduceCtorEq, Nat.reduceAdd, Nat.reduceMul, Nat.reduceLeDiff, Nat.reduceLT, Nat.reduceEqDiff, hg, strE_len]
    ((repeat' (with_reducible apply And.intro)) <;> try ((first | first | assumption | trivial | exact (fun hq => by rw [hq]; rfl) | exact i64_of (by omega) (by omega) | omega | (simp; done) | (simp; omega) | (intro hsc; have hs0 := hsc; (try have hsd := of_decide_eq_true hsc); (try simp only [Bool.not_eq_true', Bool.or_eq_false_iff, Bool.and_eq_true, Bool.or_eq_true, decide_eq_true_eq, decide_eq_false_iff_not] at hsc); (repeat' (with_reducible apply And.intro)) <;> (first | assumption | trivial | exact (fun hq => by rw [hq]; rfl) | exact i64_of (by omega) (by omega) | omega | (simp; done) | (simp; omega) | (intro hse; simp [hse, hs0]; done) | (intro hse; simp only [hse, hs0, Bool.true_and, Bool.and_true, Bool.not_false, Bool.not_true, Bool.and_self]; done))))))
    refine useG (fun _ => made_ok x (nsL ++ [45]) (by omega) (by decide) (by decide)) rfl (.inl rfl) ?_
    rw [made_lab]
    simp only [ZZ, YY, Ze, ite_true, ite_false, forall_const, reduceCtorEq, Nat.reduceAdd, Nat.reduceMul, Nat.reduceLeDiff, Nat.reduceLT, Nat.reduceEqDiff]
    ((repeat' (with_reducible apply And.intro)) <;> try ((first | first | assumption | trivial | exact (fun hq => by rw [hq]; rfl) | exact i64_of (by omega) (by omega) | omega | (simp; done) | (simp; omega) | (intro hsc; have hs0 := hsc; (try have hsd := of_decide_eq_true hsc); (try simp only [Bool.not_eq_true', Bool.or_eq_false_iff, Bool.and_eq_true, Bool.or_eq_true, decide_eq_true_eq, decide_eq_false_iff_not] at hsc); (repeat' (with_reducible apply And.intro)) <;> (first | assumption | trivial | exact (fun hq => by rw [hq]; rfl) | exact i64_of (by omega) (by omega) | omega | (simp; done) | (simp; omega) | (intro hse; simp [hse, hs0]; done) | (intro hse; simp only [hse, hs0, Bool.true_and, Bool.and_true, Bool.not_false, Bool.not_true, Bool.and_self]; done))))))
    refine br ?_ ?_
    · intro hf
      have hf : (allB x [45] && inE x.length 1 30) = false := by
        cases h2 : allB x [45] <;> simp [h2, inE] at hf ⊢
        omega
      simp only [ZZ, YY, Ze, ite_true, ite_false, forall_const, reduceCtorEq, Nat.reduceAdd, Nat.reduceMul, Nat.reduceLeDiff, Nat.reduceLT, Nat.reduceEqDiff]
      rw [all_false hx hf]
      rfl
    · intro hf
      have hf : (allB x [45] && inE x.length 1 30) = true := by
        cases h2 : allB x [45] <;> simp [h2, inE] at hf ⊢
        omega
      simp only [ZZ, YY, Ze, ite_true, ite_false, forall_const, reduceCtorEq, Nat.reduceAdd, Nat.reduceMul, Nat.reduceLeDiff, Nat.reduceLT, Nat.reduceEqDiff]
      refine ⟨i64_of (by omega) (by omega), ?_⟩
      refine end_round (ls.length - (k + 1)) [.any, .any, .any, .any, .any, .any, .p (.sl 1 (strE ls)), .any, .any, .any, .any, .any, .any, .any, .any, .any, .any, .any, .any, .any, .any, .any, .any, .any, .any, .any, .any, .any, .any, .any, .any, .any, .any, .any, .any, .any, .any, .any, .any, .p (.sl 1 (strE ls)), .p (int (ls.length : Nat)), .p (int ((k + 1) : Nat)), .any, .any, .any, .any, .any, .any, .any, .any, .any, .any, .any, .any, .any, .any, .any, .any, .any, .any, .any, .any] [] (by omega) (by (simp only [ZZ, YY, Ze, ite_true, ite_false, forall_const, reduceCtorEq, Nat.reduceAdd, Nat.reduceMul, Nat.reduceLeDiff, Nat.reduceLT, Nat.reduceEqDiff]; try trivial)) (by (simp only [ZZ, YY, Ze, ite_true, ite_false, forall_const, reduceCtorEq, Nat.reduceAdd, Nat.reduceMul, Nat.reduceLeDiff, Nat.reduceLT, Nat.reduceEqDiff]; try trivial)) ⟨k + 1, by omega, rfl, by rw [List.take_succ_eq_append_getElem hlt, List.all_append, ha, (List.getElem?_eq_some_iff.1 hx).2]; simpa using hf, rfl, rfl⟩
  · intro h
    have hge : k = ls.length := by have := of_decide_eq_false h; omega
    subst hge
    rw [List.take_length] at ha
    simp only [ZZ, YY, Ze, ite_true, ite_false, forall_const, reduceCtorEq, Nat.reduceAdd, Nat.reduceMul, Nat.reduceLeDiff, Nat.reduceLT, Nat.reduceEqDiff, strE_len]
    rw [ha]
    simp
    omega
end Go.Proofs.YtidmphcocnaonaaGreatDoor

/- slices.Clone, slices.Reverse at the circle's parts. -/
namespace Go.Proofs.YtidmphcocnaonaaGreatDoor
open Go.RowKit
set_option linter.unusedVariables false
set_option linter.unusedSimpArgs false
set_option linter.defProp false

/- slices.Clone[[]string,string] -/
def ir_slices_Clone_string_string : IC :=
  (.seq (.reg [⟨some 2, .nilr 9 1, none⟩])
    (.seq (.seq (.reg [⟨some 3, .mov (.t 0), none⟩,
      ⟨some 4, .isn (.t 3), none⟩])
    (.cond (.t 4) (.seq (.reg [⟨some 2, .nilr 9 1, none⟩])
    .ret) .skip))
    (.seq (.reg [⟨some 5, .bsr 9 1 [], none⟩,
      ⟨some 6, .mov (.t 0), none⟩,
      ⟨some 7, .app 9 1 16 (.t 5) (.t 6), none⟩,
      ⟨some 2, .mov (.t 7), none⟩])
    .ret)))
def rs_slices_Clone_string_string : List IRes := [.t 2]
theorem ck_slices_Clone_string_string : chkF Tryz.prog Tryz.f50 ir_slices_Clone_string_string rs_slices_Clone_string_string 8 = true := by kernel_rfl


section
variable {E : Envt}
abbrev tStrG : Nat := 9
theorem RepeatG_ok (s : List UInt8) (n : Nat) (hn : n ≤ 1000000) (hs : s.length ≤ 1000000) : PCall Tryz.prog E 46 [.str s, int n] (· = .str (Lib.repeatL s n)) :=
  pcall_flat rfl rfl fun w _ => (r_Repeat ⟨s.toArray⟩ n w (by omega) (by rw [show (⟨s.toArray⟩ : ByteArray).size = s.length from by simp [ByteArray.size]]; exact Nat.le_trans (Nat.mul_le_mul hs hn) (by decide))).mono fun e w' h => ⟨h.1, grow_below h.2⟩
theorem CloneS_ok (es : List (List PV)) (hn : es.length ≤ 1000000) : FCall Tryz.prog E 50 [.sl 1 es] tStrG 1 (· = es) := by
  unfold FCall
  refine gcallR mixed Tryz.func50 ck_slices_Clone_string_string ?_
  simp only [a0, l0, OS.ao, List.map_cons, List.map_nil, List.length_cons, List.length_nil, List.cons_append, List.nil_append, Nat.reduceSub, Nat.reduceAdd, List.replicate_succ, List.replicate_zero, ir_slices_Clone_string_string, rs_slices_Clone_string_string, ZZ, YY, Ze, ite_true, ite_false, forall_const, reduceCtorEq, Nat.reduceAdd, Nat.reduceMul, Nat.reduceLeDiff, Nat.reduceLT, Nat.reduceEqDiff]
  intro b hb
  refine br ?_ ?_
  · intro h
    have := hb h
    simp only [ZZ, YY, Ze, ite_true, ite_false, forall_const, reduceCtorEq, Nat.reduceAdd, Nat.reduceMul, Nat.reduceLeDiff, Nat.reduceLT, Nat.reduceEqDiff]
    exact fin_F 2 [] rfl rfl this.symm
  · intro h
    simp only [ZZ, YY, Ze, ite_true, ite_false, forall_const, reduceCtorEq, Nat.reduceAdd, Nat.reduceMul, Nat.reduceLeDiff, Nat.reduceLT, Nat.reduceEqDiff]
    exact ⟨by omega, fin_F 5 es rfl rfl rfl⟩
end
end Go.Proofs.YtidmphcocnaonaaGreatDoor

/- The circle of a text: what the maker makes. -/
namespace Go.Proofs.YtidmphcocnaonaaGreatDoor
set_option linter.unusedVariables false
set_option linter.unusedSimpArgs false
set_option linter.defProp false



section
variable {E : Envt}
abbrev Par := List UInt8 × Int × Int
def t0 : List UInt8 := [99, 97, 114, 101, 102, 117, 108]
def p0 : List Par := [([97, 105, 100, 64, 111, 117, 114, 115, 46, 100, 101], 1, 3), ([97, 110, 110, 64, 102, 105, 114, 109, 46, 100, 101], 1, 2), ([108, 97, 119, 64, 111, 117, 114, 115, 46, 100, 101], 1, 1)]
def d0 (y : Int) : List Par := [([102, 105, 114, 109, 46, 100, 101], 1, 4), ([120, 46, 102, 105, 114, 109, 46, 100, 101], y, 2), ([111, 117, 114, 115, 46, 100, 101], 1, 4)]
end
end Go.Proofs.YtidmphcocnaonaaGreatDoor

/- The terms of a circle. -/
namespace Go.Proofs.YtidmphcocnaonaaGreatDoor
set_option linter.unusedVariables false
set_option linter.unusedSimpArgs false
set_option linter.defProp false



section
variable {E : Envt}
end
end Go.Proofs.YtidmphcocnaonaaGreatDoor

/- The body of a mail: what the maker makes. -/
namespace Go.Proofs.YtidmphcocnaonaaGreatDoor
set_option linter.unusedVariables false
set_option linter.unusedSimpArgs false
set_option linter.defProp false

/- (*paperchase/chasemake.Stream).body -/
def ir_chasemake_Stream_body_L0 : IC :=
  (.seq (.reg [⟨some 7, .bin .lss (.t 6) (.t 5), none⟩])
    (.seq (.cond (.t 7) .skip (.exit 0))
    (.seq (.block 1 (.seq (.reg [⟨some 8, .mov (.t 3), none⟩,
      ⟨some 9, .mov (.t 0), none⟩,
      ⟨some 10, .bsl 1 [.c (.str []), .c (.str []), .c (.str [62, 32]), .c (.str [62, 32]), .c (.str [62, 32, 62, 32]), .c (.str [62]), .c (.str [62, 62, 32])], none⟩,
      ⟨some 11, .call 45 [.t 9, .t 10], none⟩,
      ⟨some 12, .mov (.t 0), none⟩,
      ⟨some 13, .bsl 1 [.c (.str [98, 101, 32, 99, 97, 114, 101, 102, 117, 108]), .c (.str [116, 104, 105, 115, 32, 105, 115, 32, 108, 101, 103, 97, 108, 32, 97, 100, 118, 105, 99, 101]), .c (.str [108, 117, 110, 99, 104, 63]), .c (.str []), .c (.str [32]), .c (.str [66, 101, 32, 32, 67, 97, 114, 101, 102, 117, 108, 32]), .c (.str [111, 110, 101, 32, 109, 111, 114, 101]), .c (.str [112, 114, 105, 118, 105, 108, 101, 103, 101, 100, 32, 97, 110, 100, 32, 99, 111, 110, 102, 105, 100, 101, 110, 116, 105, 97, 108]), .c (.str [195, 169, 116, 195, 169, 32, 108, 101, 103, 97, 108, 32, 97, 100, 118, 105, 99, 101])], none⟩,
      ⟨some 14, .call 45 [.t 12, .t 13], none⟩,
      ⟨some 15, .bin .add (.t 11) (.t 14), none⟩,
      ⟨some 16, .bin .add (.t 15) (.c (.str [10])), none⟩,
      ⟨some 17, .bin .add (.t 8) (.t 16), none⟩,
      ⟨some 3, .mov (.t 17), none⟩])
    (.seq (.reg [⟨some 18, .mov (.t 0), none⟩,
      ⟨some 19, .call 44 [.t 18, .c (.int .i64 5)], none⟩])
    (.cond (.t 19) (.reg [⟨some 20, .mov (.t 3), none⟩,
      ⟨some 21, .mov (.t 0), none⟩,
      ⟨some 22, .bsl 1 [.c (.str []), .c (.str [62, 32])], none⟩,
      ⟨some 23, .call 45 [.t 21, .t 22], none⟩,
      ⟨some 24, .mov (.t 0), none⟩,
      ⟨some 25, .bsl 1 [.c (.str [66, 111, 32, 119, 114, 111, 116, 101, 58]), .c (.str [79, 110, 32, 77, 111, 110, 100, 97, 121, 32, 65, 110, 110, 32, 119, 114, 111, 116, 101, 58]), .c (.str [119, 114, 111, 116, 101, 58]), .c (.str [67, 121, 32, 115, 99, 104, 114, 105, 101, 98, 58]), .c (.str [45, 45, 45, 45, 45, 79, 114, 105, 103, 105, 110, 97, 108, 32, 77, 101, 115, 115, 97, 103, 101, 45, 45, 45, 45, 45])], none⟩,
      ⟨some 26, .call 45 [.t 24, .t 25], none⟩,
      ⟨some 27, .bin .add (.t 23) (.t 26), none⟩,
      ⟨some 28, .bin .add (.t 27) (.c (.str [10])), none⟩,
      ⟨some 29, .bin .add (.t 20) (.t 28), none⟩,
      ⟨some 3, .mov (.t 29), none⟩]) .skip))))
    (.cut (.reg [⟨some 30, .bin .add (.t 6) (.c (.int .i64 1)), none⟩,
      ⟨some 6, .mov (.t 30), none⟩])))))
def ir_chasemake_Stream_body : IC :=
  (.seq (.reg [⟨some 2, .mov (.c (.str [])), none⟩])
    (.seq (.reg [⟨some 3, .mov (.c (.str [])), none⟩])
    (.seq (.seq (.reg [⟨some 4, .mov (.t 0), none⟩,
      ⟨some 5, .call 58 [.t 4, .c (.int .i64 7)], none⟩,
      ⟨some 6, .mov (.c (.int .i64 0)), none⟩])
    (.block 0 (.loop ir_chasemake_Stream_body_L0)))
    (.seq (.reg [⟨some 31, .mov (.t 3), none⟩,
      ⟨some 2, .mov (.t 31), none⟩])
    .ret))))
def rs_chasemake_Stream_body : List IRes := [.t 2]
theorem ck_chasemake_Stream_body : chkF Tryz.prog Tryz.f255 ir_chasemake_Stream_body rs_chasemake_Stream_body 32 = true := by kernel_rfl


section
variable {E : Envt}
def bA : List (List UInt8) := [[], [], [62, 32], [62, 32], [62, 32, 62, 32], [62], [62, 62, 32]]
def bB : List (List UInt8) := [[98, 101, 32, 99, 97, 114, 101, 102, 117, 108], [116, 104, 105, 115, 32, 105, 115, 32, 108, 101, 103, 97, 108, 32, 97, 100, 118, 105, 99, 101], [108, 117, 110, 99, 104, 63], [], [32], [66, 101, 32, 32, 67, 97, 114, 101, 102, 117, 108, 32], [111, 110, 101, 32, 109, 111, 114, 101], [112, 114, 105, 118, 105, 108, 101, 103, 101, 100, 32, 97, 110, 100, 32, 99, 111, 110, 102, 105, 100, 101, 110, 116, 105, 97, 108], [195, 169, 116, 195, 169, 32, 108, 101, 103, 97, 108, 32, 97, 100, 118, 105, 99, 101]]
def bC : List (List UInt8) := [[], [62, 32]]
def bD : List (List UInt8) := [[66, 111, 32, 119, 114, 111, 116, 101, 58], [79, 110, 32, 77, 111, 110, 100, 97, 121, 32, 65, 110, 110, 32, 119, 114, 111, 116, 101, 58], [119, 114, 111, 116, 101, 58], [67, 121, 32, 115, 99, 104, 114, 105, 101, 98, 58], [45, 45, 45, 45, 45, 79, 114, 105, 103, 105, 110, 97, 108, 32, 77, 101, 115, 115, 97, 103, 101, 45, 45, 45, 45, 45]]
theorem bA_len : ∀ s ∈ bA, s.length ≤ 60 := by decide
theorem bB_len : ∀ s ∈ bB, s.length ≤ 60 := by decide
theorem bC_len : ∀ s ∈ bC, s.length ≤ 60 := by decide
theorem bD_len : ∀ s ∈ bD, s.length ≤ 60 := by decide
theorem body_ok (l : List Int) (k : Nat) (hk : k ≤ 900000) (hl : l.length ≤ 9223372036854775807) :
    SCall Tryz.prog E 255 T (stm l k) [] (fun x cs' => ∃ s k', x = .str s ∧ s.length ≤ 2000 ∧ cs' = stm l k' ∧ k' ≤ k + 40) := by
  unfold SCall
  refine gcallP mixed Tryz.func255 ck_chasemake_Stream_body ?_
  simp only [a0, l0, OS.ao, List.map_cons, List.map_nil, List.length_cons, List.length_nil, List.cons_append, List.nil_append, Nat.reduceSub, Nat.reduceAdd, List.replicate_succ, List.replicate_zero, ir_chasemake_Stream_body, rs_chasemake_Stream_body, ZZ, YY, Ze, ite_true, ite_false, forall_const, reduceCtorEq, Nat.reduceAdd, Nat.reduceMul, Nat.reduceLeDiff, Nat.reduceLT, Nat.reduceEqDiff]
  refine useS (Next_ok l k 7 (by omega) hl (by decide)) rfl rfl rfl (by simp only [ZZ, YY, Ze, ite_true, ite_false, forall_const, reduceCtorEq, Nat.reduceAdd, Nat.reduceMul, Nat.reduceLeDiff, Nat.reduceLT, Nat.reduceEqDiff]) ?_
  rintro x cs' ⟨y, rfl, rfl⟩
  have b1 := below_lo y 7
  have b2 := below_hi y 7 (by omega)
  generalize below y 7 = m at *
  simp only [ZZ, YY, Ze, ite_true, ite_false, forall_const, reduceCtorEq, Nat.reduceAdd, Nat.reduceMul, Nat.reduceLeDiff, Nat.reduceLT, Nat.reduceEqDiff]
  refine loop_intro (fun n fr L => ∃ (i k' : Nat) (s : List UInt8), n = 7 - i ∧ i ≤ 7 ∧ k' ≤ k + 1 + 5 * i ∧ s.length ≤ 250 * i ∧ fr = [.adr (.b 0) 0, .any, .any, .p (.str s), .any, .p (int m), .p (int (i : Nat)), .any, .any, .any, .any, .any, .any, .any, .any, .any, .any, .any, .any, .any, .any, .any, .any, .any, .any, .any, .any, .any, .any, .any, .any, .any] ∧ L = [(.b 0, .box ((stm l k').map .p) T)]) 7 [.adr (.b 0) 0, .any, .any, .p (.str []), .any, .p (int m), .p (int (0 : Nat)), .any, .any, .any, .any, .any, .any, .any, .any, .any, .any, .any, .any, .any, .any, .any, .any, .any, .any, .any, .any, .any, .any, .any, .any, .any] [(.b 0, .box ((stm l (k + 1)).map .p) T)] (by (simp only [ZZ, YY, Ze, ite_true, ite_false, forall_const, reduceCtorEq, Nat.reduceAdd, Nat.reduceMul, Nat.reduceLeDiff, Nat.reduceLT, Nat.reduceEqDiff]; try trivial)) (by simp only [ZZ, YY, Ze, ite_true, ite_false, forall_const, reduceCtorEq, Nat.reduceAdd, Nat.reduceMul, Nat.reduceLeDiff, Nat.reduceLT, Nat.reduceEqDiff]) ⟨0, k + 1, [], by omega, by omega, by omega, by simp, rfl, rfl⟩ ?_
  rintro n fr L ⟨i, k', s, rfl, hi, hk', hs, rfl, rfl⟩
  simp only [ir_chasemake_Stream_body_L0, ZZ, YY, Ze, ite_true, ite_false, forall_const, reduceCtorEq, Nat.reduceAdd, Nat.reduceMul, Nat.reduceLeDiff, Nat.reduceLT, Nat.reduceEqDiff]
  refine br ?_ ?_
  · intro h
    have hlt : (i : Int) < m := of_decide_eq_true h
    simp only [ZZ, YY, Ze, ite_true, ite_false, forall_const, reduceCtorEq, Nat.reduceAdd, Nat.reduceMul, Nat.reduceLeDiff, Nat.reduceLT, Nat.reduceEqDiff]
    refine useS (one_ok l k' bA (by omega) hl (by decide) (by decide)) rfl rfl rfl (by simp only [ZZ, YY, Ze, ite_true, ite_false, forall_const, reduceCtorEq, Nat.reduceAdd, Nat.reduceMul, Nat.reduceLeDiff, Nat.reduceLT, Nat.reduceEqDiff]) ?_
    rintro x cs' ⟨u, rfl, hu, rfl⟩
    have hu := bA_len u hu
    simp only [ZZ, YY, Ze, ite_true, ite_false, forall_const, reduceCtorEq, Nat.reduceAdd, Nat.reduceMul, Nat.reduceLeDiff, Nat.reduceLT, Nat.reduceEqDiff]
    refine useS (one_ok l (k' + 1) bB (by omega) hl (by decide) (by decide)) rfl rfl rfl (by simp only [ZZ, YY, Ze, ite_true, ite_false, forall_const, reduceCtorEq, Nat.reduceAdd, Nat.reduceMul, Nat.reduceLeDiff, Nat.reduceLT, Nat.reduceEqDiff]) ?_
    rintro x cs' ⟨v, rfl, hv, rfl⟩
    have hv := bB_len v hv
    simp only [ZZ, YY, Ze, ite_true, ite_false, forall_const, reduceCtorEq, Nat.reduceAdd, Nat.reduceMul, Nat.reduceLeDiff, Nat.reduceLT, Nat.reduceEqDiff]
    refine ⟨by simp; omega, by simp; omega, by simp; omega, ?_⟩
    refine useS (Flip_ok l (k' + 1 + 1) 5 (by omega) hl (by decide)) rfl rfl rfl (by simp only [ZZ, YY, Ze, ite_true, ite_false, forall_const, reduceCtorEq, Nat.reduceAdd, Nat.reduceMul, Nat.reduceLeDiff, Nat.reduceLT, Nat.reduceEqDiff]) ?_
    rintro x cs' ⟨b, rfl, rfl⟩
    simp only [ZZ, YY, Ze, ite_true, ite_false, forall_const, reduceCtorEq, Nat.reduceAdd, Nat.reduceMul, Nat.reduceLeDiff, Nat.reduceLT, Nat.reduceEqDiff]
    refine br ?_ ?_
    · intro _
      simp only [ZZ, YY, Ze, ite_true, ite_false, forall_const, reduceCtorEq, Nat.reduceAdd, Nat.reduceMul, Nat.reduceLeDiff, Nat.reduceLT, Nat.reduceEqDiff]
      refine useS (one_ok l (k' + 1 + 1 + 1) bC (by omega) hl (by decide) (by decide)) rfl rfl rfl (by simp only [ZZ, YY, Ze, ite_true, ite_false, forall_const, reduceCtorEq, Nat.reduceAdd, Nat.reduceMul, Nat.reduceLeDiff, Nat.reduceLT, Nat.reduceEqDiff]) ?_
      rintro x cs' ⟨u2, rfl, hu2, rfl⟩
      have hu2 := bC_len u2 hu2
      simp only [ZZ, YY, Ze, ite_true, ite_false, forall_const, reduceCtorEq, Nat.reduceAdd, Nat.reduceMul, Nat.reduceLeDiff, Nat.reduceLT, Nat.reduceEqDiff]
      refine useS (one_ok l (k' + 1 + 1 + 1 + 1) bD (by omega) hl (by decide) (by decide)) rfl rfl rfl (by simp only [ZZ, YY, Ze, ite_true, ite_false, forall_const, reduceCtorEq, Nat.reduceAdd, Nat.reduceMul, Nat.reduceLeDiff, Nat.reduceLT, Nat.reduceEqDiff]) ?_
      rintro x cs' ⟨v2, rfl, hv2, rfl⟩
      have hv2 := bD_len v2 hv2
      simp only [ZZ, YY, Ze, ite_true, ite_false, forall_const, reduceCtorEq, Nat.reduceAdd, Nat.reduceMul, Nat.reduceLeDiff, Nat.reduceLT, Nat.reduceEqDiff]
      refine ⟨by simp; omega, by simp; omega, by simp; omega, ?_⟩
      refine cut_same (by simp only [ZZ, YY, Ze, ite_true, ite_false, forall_const, reduceCtorEq, Nat.reduceAdd, Nat.reduceMul, Nat.reduceLeDiff, Nat.reduceLT, Nat.reduceEqDiff]) ?_
      simp only [ZZ, YY, Ze, ite_true, ite_false, forall_const, reduceCtorEq, Nat.reduceAdd, Nat.reduceMul, Nat.reduceLeDiff, Nat.reduceLT, Nat.reduceEqDiff]
      refine ⟨i64_of (by omega) (by omega), end_round (7 - (i + 1)) [.adr (.b 0) 0, .any, .any, .p (.str (s ++ (u ++ v ++ [10]) ++ (u2 ++ v2 ++ [10]))), .any, .p (int m), .p (int ((i + 1 : Nat))), .any, .any, .any, .any, .any, .any, .any, .any, .any, .any, .any, .any, .any, .any, .any, .any, .any, .any, .any, .any, .any, .any, .any, .any, .any] [(.b 0, .box ((stm l (k' + 1 + 1 + 1 + 1 + 1)).map .p) T)] (by omega) (by (simp only [ZZ, YY, Ze, ite_true, ite_false, forall_const, reduceCtorEq, Nat.reduceAdd, Nat.reduceMul, Nat.reduceLeDiff, Nat.reduceLT, Nat.reduceEqDiff]; try trivial)) (by simp only [ZZ, YY, Ze, ite_true, ite_false, forall_const, reduceCtorEq, Nat.reduceAdd, Nat.reduceMul, Nat.reduceLeDiff, Nat.reduceLT, Nat.reduceEqDiff]) ⟨i + 1, k' + 1 + 1 + 1 + 1 + 1, _, rfl, by omega, by omega, by simp; omega, rfl, rfl⟩⟩
    · intro _
      simp only [ZZ, YY, Ze, ite_true, ite_false, forall_const, reduceCtorEq, Nat.reduceAdd, Nat.reduceMul, Nat.reduceLeDiff, Nat.reduceLT, Nat.reduceEqDiff]
      refine cut_same (by simp only [ZZ, YY, Ze, ite_true, ite_false, forall_const, reduceCtorEq, Nat.reduceAdd, Nat.reduceMul, Nat.reduceLeDiff, Nat.reduceLT, Nat.reduceEqDiff]) ?_
      simp only [ZZ, YY, Ze, ite_true, ite_false, forall_const, reduceCtorEq, Nat.reduceAdd, Nat.reduceMul, Nat.reduceLeDiff, Nat.reduceLT, Nat.reduceEqDiff]
      refine ⟨i64_of (by omega) (by omega), end_round (7 - (i + 1)) [.adr (.b 0) 0, .any, .any, .p (.str (s ++ (u ++ v ++ [10]))), .any, .p (int m), .p (int ((i + 1 : Nat))), .any, .any, .any, .any, .any, .any, .any, .any, .any, .any, .any, .any, .any, .any, .any, .any, .any, .any, .any, .any, .any, .any, .any, .any, .any] [(.b 0, .box ((stm l (k' + 1 + 1 + 1)).map .p) T)] (by omega) (by (simp only [ZZ, YY, Ze, ite_true, ite_false, forall_const, reduceCtorEq, Nat.reduceAdd, Nat.reduceMul, Nat.reduceLeDiff, Nat.reduceLT, Nat.reduceEqDiff]; try trivial)) (by simp only [ZZ, YY, Ze, ite_true, ite_false, forall_const, reduceCtorEq, Nat.reduceAdd, Nat.reduceMul, Nat.reduceLeDiff, Nat.reduceLT, Nat.reduceEqDiff]) ⟨i + 1, k' + 1 + 1 + 1, _, rfl, by omega, by omega, by simp; omega, rfl, rfl⟩⟩
  · intro h
    simp only [ZZ, YY, Ze, ite_true, ite_false, forall_const, reduceCtorEq, Nat.reduceAdd, Nat.reduceMul, Nat.reduceLeDiff, Nat.reduceLT, Nat.reduceEqDiff]
    exact fin_S (stm l k') rfl ⟨s, k', rfl, by omega, rfl, by omega⟩
end
end Go.Proofs.YtidmphcocnaonaaGreatDoor

/- The body of a mail, as it may be cut or made large. -/
namespace Go.Proofs.YtidmphcocnaonaaGreatDoor
set_option linter.unusedVariables false
set_option linter.unusedSimpArgs false
set_option linter.defProp false

section
variable {E : Envt}
end
end Go.Proofs.YtidmphcocnaonaaGreatDoor

/- Terms: their checks, on both sides. -/
namespace Go.Proofs.YtidmphcocnaonaaGreatDoor
set_option linter.unusedVariables false
set_option linter.unusedSimpArgs false
set_option linter.defProp false

/- strings.Contains -/
def ir_strings_Contains : IC :=
  (.seq (.reg [⟨some 4, .mov (.c (.bool false)), none⟩])
    (.seq (.reg [⟨some 5, .mov (.t 0), none⟩,
      ⟨some 6, .mov (.t 1), none⟩,
      ⟨some 7, .call 221 [.t 5, .t 6], none⟩,
      ⟨some 8, .bin .geq (.t 7) (.c (.int .i64 0)), none⟩,
      ⟨some 4, .mov (.t 8), none⟩])
    .ret))
def rs_strings_Contains : List IRes := [.t 4]
theorem ck_strings_Contains : chkF Tryz.prog Tryz.f150 ir_strings_Contains rs_strings_Contains 9 = true := by kernel_rfl


section
theorem Contains_ok (s t : List UInt8) (hs : s.length ≤ 1000000000) : PCall Tryz.prog E0 150 [.str s, .str t] (· = .bool (decide (0 ≤ Lib.index s t))) := by
  refine pcallF mixed Tryz.func150 ck_strings_Contains ?_
  simp only [a0, l0, OS.ao, List.map_cons, List.map_nil, List.length_cons, List.length_nil, List.cons_append, List.nil_append, Nat.reduceSub, Nat.reduceAdd, List.replicate_succ, List.replicate_zero, ir_strings_Contains, rs_strings_Contains, ZZ, YY, Ze, ite_true, ite_false, forall_const, reduceCtorEq, Nat.reduceAdd, Nat.reduceMul, Nat.reduceLeDiff, Nat.reduceLT, Nat.reduceEqDiff]
  refine use1 (Index_ok s t hs) rfl (.inl rfl) ?_
  simp only [ZZ, YY, Ze, ite_true, ite_false, forall_const, reduceCtorEq, Nat.reduceAdd, Nat.reduceMul, Nat.reduceLeDiff, Nat.reduceLT, Nat.reduceEqDiff]
end
end Go.Proofs.YtidmphcocnaonaaGreatDoor

/- Prefixes and suffixes that are cut; plain strings; names. -/
namespace Go.Proofs.YtidmphcocnaonaaGreatDoor
open Go.RowKit
set_option linter.unusedVariables false
set_option linter.unusedSimpArgs false
set_option linter.defProp false

/- internal/stringslite.HasPrefix -/
def ir_internal_stringslite_HasPrefix : IC :=
  (.seq (.reg [⟨some 4, .mov (.c (.bool false)), none⟩])
    (.seq (.reg [⟨some 5, .mov (.t 0), none⟩,
      ⟨some 6, .sln (.t 5), none⟩,
      ⟨some 7, .mov (.t 1), none⟩,
      ⟨some 8, .sln (.t 7), none⟩,
      ⟨some 9, .bin .geq (.t 6) (.t 8), none⟩,
      ⟨some 10, .mov (.t 9), none⟩,
      ⟨some 11, .mov (.t 0), (some (10, true))⟩,
      ⟨some 12, .mov (.t 1), (some (10, true))⟩,
      ⟨some 13, .sln (.t 12), (some (10, true))⟩,
      ⟨some 14, .ssl (.t 11) none (some (.t 13)), (some (10, true))⟩,
      ⟨some 15, .mov (.t 1), (some (10, true))⟩,
      ⟨some 16, .bin .eql (.t 14) (.t 15), (some (10, true))⟩,
      ⟨some 17, .pick (.t 10) (.t 16) (.c (.bool false)), none⟩,
      ⟨some 4, .mov (.t 17), none⟩])
    .ret))
def rs_internal_stringslite_HasPrefix : List IRes := [.t 4]
theorem ck_internal_stringslite_HasPrefix : chkF Tryz.prog Tryz.f203 ir_internal_stringslite_HasPrefix rs_internal_stringslite_HasPrefix 18 = true := by kernel_rfl
/- internal/stringslite.CutSuffix -/
def ir_internal_stringslite_CutSuffix : IC :=
  (.seq (.reg [⟨some 4, .mov (.c (.str [])), none⟩,
      ⟨some 5, .mov (.c (.bool false)), none⟩])
    (.seq (.seq (.reg [⟨some 6, .mov (.t 0), none⟩,
      ⟨some 7, .mov (.t 1), none⟩,
      ⟨some 8, .call 179 [.t 6, .t 7], none⟩,
      ⟨some 9, .not (.t 8), none⟩])
    (.cond (.t 9) (.seq (.reg [⟨some 10, .mov (.t 0), none⟩,
      ⟨some 4, .mov (.t 10), none⟩,
      ⟨some 5, .mov (.c (.bool false)), none⟩])
    .ret) .skip))
    (.seq (.reg [⟨some 11, .mov (.t 0), none⟩,
      ⟨some 12, .mov (.t 0), none⟩,
      ⟨some 13, .sln (.t 12), none⟩,
      ⟨some 14, .mov (.t 1), none⟩,
      ⟨some 15, .sln (.t 14), none⟩,
      ⟨some 16, .bin .sub (.t 13) (.t 15), none⟩,
      ⟨some 17, .ssl (.t 11) none (some (.t 16)), none⟩,
      ⟨some 4, .mov (.t 17), none⟩,
      ⟨some 5, .mov (.c (.bool true)), none⟩])
    .ret)))
def rs_internal_stringslite_CutSuffix : List IRes := [.t 4, .t 5]
theorem ck_internal_stringslite_CutSuffix : chkF Tryz.prog Tryz.f266 ir_internal_stringslite_CutSuffix rs_internal_stringslite_CutSuffix 18 = true := by kernel_rfl
/- strings.CutSuffix -/
def ir_strings_CutSuffix : IC :=
  (.seq (.reg [⟨some 4, .mov (.c (.str [])), none⟩,
      ⟨some 5, .mov (.c (.bool false)), none⟩])
    (.seq (.reg [⟨some 6, .mov (.t 0), none⟩,
      ⟨some 7, .mov (.t 1), none⟩,
      ⟨some 8, .call 266 [.t 6, .t 7], none⟩,
      ⟨some 9, .ext 0 (.t 8), none⟩,
      ⟨some 10, .ext 1 (.t 8), none⟩,
      ⟨some 4, .mov (.t 9), none⟩,
      ⟨some 5, .mov (.t 10), none⟩])
    .ret))
def rs_strings_CutSuffix : List IRes := [.t 4, .t 5]
theorem ck_strings_CutSuffix : chkF Tryz.prog Tryz.f207 ir_strings_CutSuffix rs_strings_CutSuffix 11 = true := by kernel_rfl
/- internal/stringslite.CutPrefix -/
def ir_internal_stringslite_CutPrefix : IC :=
  (.seq (.reg [⟨some 4, .mov (.c (.str [])), none⟩,
      ⟨some 5, .mov (.c (.bool false)), none⟩])
    (.seq (.seq (.reg [⟨some 6, .mov (.t 0), none⟩,
      ⟨some 7, .mov (.t 1), none⟩,
      ⟨some 8, .call 203 [.t 6, .t 7], none⟩,
      ⟨some 9, .not (.t 8), none⟩])
    (.cond (.t 9) (.seq (.reg [⟨some 10, .mov (.t 0), none⟩,
      ⟨some 4, .mov (.t 10), none⟩,
      ⟨some 5, .mov (.c (.bool false)), none⟩])
    .ret) .skip))
    (.seq (.reg [⟨some 11, .mov (.t 0), none⟩,
      ⟨some 12, .mov (.t 1), none⟩,
      ⟨some 13, .sln (.t 12), none⟩,
      ⟨some 14, .ssl (.t 11) (some (.t 13)) none, none⟩,
      ⟨some 4, .mov (.t 14), none⟩,
      ⟨some 5, .mov (.c (.bool true)), none⟩])
    .ret)))
def rs_internal_stringslite_CutPrefix : List IRes := [.t 4, .t 5]
theorem ck_internal_stringslite_CutPrefix : chkF Tryz.prog Tryz.f295 ir_internal_stringslite_CutPrefix rs_internal_stringslite_CutPrefix 15 = true := by kernel_rfl
/- strings.CutPrefix -/
def ir_strings_CutPrefix : IC :=
  (.seq (.reg [⟨some 4, .mov (.c (.str [])), none⟩,
      ⟨some 5, .mov (.c (.bool false)), none⟩])
    (.seq (.reg [⟨some 6, .mov (.t 0), none⟩,
      ⟨some 7, .mov (.t 1), none⟩,
      ⟨some 8, .call 295 [.t 6, .t 7], none⟩,
      ⟨some 9, .ext 0 (.t 8), none⟩,
      ⟨some 10, .ext 1 (.t 8), none⟩,
      ⟨some 4, .mov (.t 9), none⟩,
      ⟨some 5, .mov (.t 10), none⟩])
    .ret))
def rs_strings_CutPrefix : List IRes := [.t 4, .t 5]
theorem ck_strings_CutPrefix : chkF Tryz.prog Tryz.f252 ir_strings_CutPrefix rs_strings_CutPrefix 11 = true := by kernel_rfl
/- paperchase/base.Plain -/
def ir_base_Plain : IC :=
  (.seq (.reg [⟨some 2, .mov (.c (.bool false)), none⟩])
    (.seq (.reg [⟨some 3, .mov (.t 0), none⟩,
      ⟨some 4, .call 206 [.t 3, .c (.bool false)], none⟩,
      ⟨some 5, .mov (.t 4), none⟩,
      ⟨some 6, .mov (.t 0), (some (5, true))⟩,
      ⟨some 7, .call 120 [.t 6, .c (.str [32])], (some (5, true))⟩,
      ⟨some 8, .not (.t 7), (some (5, true))⟩,
      ⟨some 9, .pick (.t 5) (.t 8) (.c (.bool false)), none⟩,
      ⟨some 10, .mov (.t 9), none⟩,
      ⟨some 11, .mov (.t 0), (some (10, true))⟩,
      ⟨some 12, .call 100 [.t 11, .c (.str [32])], (some (10, true))⟩,
      ⟨some 13, .not (.t 12), (some (10, true))⟩,
      ⟨some 14, .pick (.t 10) (.t 13) (.c (.bool false)), none⟩,
      ⟨some 15, .mov (.t 14), none⟩,
      ⟨some 16, .mov (.t 0), (some (15, true))⟩,
      ⟨some 17, .call 150 [.t 16, .c (.str [32, 32])], (some (15, true))⟩,
      ⟨some 18, .not (.t 17), (some (15, true))⟩,
      ⟨some 19, .pick (.t 15) (.t 18) (.c (.bool false)), none⟩,
      ⟨some 2, .mov (.t 19), none⟩])
    .ret))
def rs_base_Plain : List IRes := [.t 2]
theorem ck_base_Plain : chkF Tryz.prog Tryz.f148 ir_base_Plain rs_base_Plain 20 = true := by kernel_rfl
/- strings.ContainsAny -/
def ir_strings_ContainsAny : IC :=
  (.seq (.reg [⟨some 4, .mov (.c (.bool false)), none⟩])
    (.seq (.reg [⟨some 5, .mov (.t 0), none⟩,
      ⟨some 6, .mov (.t 1), none⟩,
      ⟨some 7, .call 329 [.t 5, .t 6], none⟩,
      ⟨some 8, .bin .geq (.t 7) (.c (.int .i64 0)), none⟩,
      ⟨some 4, .mov (.t 8), none⟩])
    .ret))
def rs_strings_ContainsAny : List IRes := [.t 4]
theorem ck_strings_ContainsAny : chkF Tryz.prog Tryz.f300 ir_strings_ContainsAny rs_strings_ContainsAny 9 = true := by kernel_rfl
/- paperchase/thread.isName -/
def ir_thread_isName : IC :=
  (.seq (.reg [⟨some 2, .mov (.c (.bool false)), none⟩])
    (.seq (.reg [⟨some 3, .mov (.t 0), none⟩,
      ⟨some 4, .sln (.t 3), none⟩,
      ⟨some 5, .bin .leq (.t 4) (.c (.int .i64 60)), none⟩,
      ⟨some 6, .mov (.t 5), none⟩,
      ⟨some 7, .mov (.t 0), (some (6, true))⟩,
      ⟨some 8, .call 148 [.t 7], (some (6, true))⟩,
      ⟨some 9, .pick (.t 6) (.t 8) (.c (.bool false)), none⟩,
      ⟨some 10, .mov (.t 9), none⟩,
      ⟨some 11, .mov (.t 0), (some (10, true))⟩,
      ⟨some 12, .call 300 [.t 11, .c (.str [34, 60, 62, 44, 59])], (some (10, true))⟩,
      ⟨some 13, .not (.t 12), (some (10, true))⟩,
      ⟨some 14, .pick (.t 10) (.t 13) (.c (.bool false)), none⟩,
      ⟨some 2, .mov (.t 14), none⟩])
    .ret))
def rs_thread_isName : List IRes := [.t 2]
theorem ck_thread_isName : chkF Tryz.prog Tryz.f260 ir_thread_isName rs_thread_isName 15 = true := by kernel_rfl
/- paperchase/thread.right -/
def ir_thread_right : IC :=
  (.seq (.reg [⟨some 1, .box 71 (.t 0), none⟩,
      ⟨some 2, .mov (.c (.bool false)), none⟩])
    (.seq (.reg [⟨some 3, .fla 0 (.t 1), none⟩,
      ⟨some 4, .ld 1 false (.t 3), none⟩,
      ⟨some 5, .call 260 [.t 4], none⟩,
      ⟨some 6, .mov (.t 5), none⟩,
      ⟨some 7, .fla 1 (.t 1), (some (6, true))⟩,
      ⟨some 8, .ld 1 false (.t 7), (some (6, true))⟩,
      ⟨some 9, .call 113 [.t 8], (some (6, true))⟩,
      ⟨some 10, .pick (.t 6) (.t 9) (.c (.bool false)), none⟩,
      ⟨some 2, .mov (.t 10), none⟩])
    .ret))
def rs_thread_right : List IRes := [.t 2]
theorem ck_thread_right : chkF Tryz.prog Tryz.f193 ir_thread_right rs_thread_right 11 = true := by kernel_rfl
/- paperchase/thread.address -/
def ir_thread_address : IC :=
  (.seq (.reg [⟨some 2, .alc 71 [.str [], .str []], none⟩,
      ⟨some 3, .mov (.c (.bool false)), none⟩])
    (.seq (.reg [⟨some 19, .mov (.t 0), none⟩,
      ⟨some 20, .call 55 [.t 19, .c (.str [32])], none⟩,
      ⟨some 4, .mov (.t 20), none⟩])
    (.seq (.reg [⟨some 22, .mov (.t 4), none⟩,
      ⟨some 23, .call 115 [.t 22, .c (.str [60])], none⟩,
      ⟨some 21, .mov (.t 23), none⟩,
      ⟨some 24, .ext 0 (.t 21), none⟩,
      ⟨some 25, .ext 1 (.t 21), none⟩,
      ⟨some 26, .ext 2 (.t 21), none⟩,
      ⟨some 5, .mov (.t 24), none⟩,
      ⟨some 6, .mov (.t 25), none⟩,
      ⟨some 7, .mov (.t 26), none⟩])
    (.seq (.seq (.reg [⟨some 27, .mov (.t 7), none⟩,
      ⟨some 28, .not (.t 27), none⟩])
    (.cond (.t 28) (.seq (.reg [⟨some 29, .mov (.t 4), none⟩,
      ⟨some 30, .call 250 [.t 29], none⟩,
      ⟨some 31, .bld [.str [], .str []] [(1, 1, .t 30)], none⟩,
      ⟨some 8, .alc 71 [.str [], .str []], none⟩,
      ⟨none, .st 2 (.t 8) (.t 31), none⟩])
    (.seq (.drg [⟨some 32, .ld 2 true (.t 8), none⟩,
      ⟨some 33, .ld 2 true (.t 8), none⟩,
      ⟨some 34, .pcall 0 193 [.t 33], none⟩,
      ⟨none, .st 2 (.t 2) (.t 32), none⟩,
      ⟨some 3, .mov (.t 34), none⟩])
    .ret)) .skip))
    (.seq (.reg [⟨some 36, .mov (.t 6), none⟩,
      ⟨some 37, .call 207 [.t 36, .c (.str [62])], none⟩,
      ⟨some 35, .mov (.t 37), none⟩,
      ⟨some 38, .ext 0 (.t 35), none⟩,
      ⟨some 39, .ext 1 (.t 35), none⟩,
      ⟨some 6, .mov (.t 38), none⟩,
      ⟨some 9, .mov (.t 39), none⟩])
    (.seq (.reg [⟨some 40, .mov (.t 6), none⟩,
      ⟨some 41, .call 250 [.t 40], none⟩,
      ⟨some 42, .bld [.str [], .str []] [(1, 1, .t 41)], none⟩,
      ⟨some 10, .alc 71 [.str [], .str []], none⟩,
      ⟨none, .st 2 (.t 10) (.t 42), none⟩])
    (.seq (.seq (.reg [⟨some 43, .mov (.t 5), none⟩,
      ⟨some 44, .bin .eql (.t 43) (.c (.str [])), none⟩])
    (.cond (.t 44) (.seq (.drg [⟨some 45, .ld 2 true (.t 10), none⟩,
      ⟨some 46, .mov (.t 9), none⟩,
      ⟨some 47, .mov (.t 46), none⟩,
      ⟨some 48, .ld 2 true (.t 10), (some (47, true))⟩,
      ⟨some 49, .pcall 0 193 [.t 48], (some (47, true))⟩,
      ⟨some 50, .pick (.t 47) (.t 49) (.c (.bool false)), none⟩,
      ⟨none, .st 2 (.t 2) (.t 45), none⟩,
      ⟨some 3, .mov (.t 50), none⟩])
    .ret) .skip))
    (.seq (.reg [⟨some 51, .mov (.t 5), none⟩,
      ⟨some 52, .call 251 [.t 51, .c (.str [32])], none⟩,
      ⟨some 11, .mov (.t 52), none⟩])
    (.seq (.seq (.reg [⟨some 53, .mov (.t 11), none⟩,
      ⟨some 54, .mov (.t 5), none⟩,
      ⟨some 55, .bin .eql (.t 53) (.t 54), none⟩])
    (.cond (.t 55) (.seq (.reg [⟨some 56, .ld 2 true (.t 10), none⟩,
      ⟨none, .st 2 (.t 2) (.t 56), none⟩,
      ⟨some 3, .mov (.c (.bool false)), none⟩])
    .ret) .skip))
    (.seq (.seq (.reg [⟨some 58, .mov (.t 11), none⟩,
      ⟨some 59, .call 252 [.t 58, .c (.str [34])], none⟩,
      ⟨some 57, .mov (.t 59), none⟩,
      ⟨some 60, .ext 0 (.t 57), none⟩,
      ⟨some 61, .ext 1 (.t 57), none⟩,
      ⟨some 12, .mov (.t 60), none⟩,
      ⟨some 13, .mov (.t 61), none⟩])
    (.seq (.reg [⟨some 62, .mov (.t 13), none⟩])
    (.cond (.t 62) (.seq (.reg [⟨some 64, .mov (.t 12), none⟩,
      ⟨some 65, .call 207 [.t 64, .c (.str [34])], none⟩,
      ⟨some 63, .mov (.t 65), none⟩,
      ⟨some 66, .ext 0 (.t 63), none⟩,
      ⟨some 67, .ext 1 (.t 63), none⟩,
      ⟨some 14, .mov (.t 66), none⟩,
      ⟨some 15, .mov (.t 67), none⟩])
    (.seq (.seq (.reg [⟨some 68, .mov (.t 15), none⟩,
      ⟨some 69, .not (.t 68), none⟩])
    (.cond (.t 69) (.seq (.reg [⟨some 70, .ld 2 true (.t 10), none⟩,
      ⟨none, .st 2 (.t 2) (.t 70), none⟩,
      ⟨some 3, .mov (.c (.bool false)), none⟩])
    .ret) .skip))
    (.seq (.reg [⟨some 71, .mov (.t 14), none⟩,
      ⟨some 11, .mov (.t 71), none⟩])
    (.seq (.reg [⟨some 73, .mov (.t 14), none⟩,
      ⟨some 74, .call 115 [.t 73, .c (.str [44, 32])], none⟩,
      ⟨some 72, .mov (.t 74), none⟩,
      ⟨some 75, .ext 0 (.t 72), none⟩,
      ⟨some 76, .ext 1 (.t 72), none⟩,
      ⟨some 77, .ext 2 (.t 72), none⟩,
      ⟨some 16, .mov (.t 75), none⟩,
      ⟨some 17, .mov (.t 76), none⟩,
      ⟨some 18, .mov (.t 77), none⟩])
    (.seq (.reg [⟨some 78, .mov (.t 18), none⟩,
      ⟨some 79, .mov (.t 78), none⟩,
      ⟨some 80, .mov (.t 16), (some (79, true))⟩,
      ⟨some 81, .bin .neq (.t 80) (.c (.str [])), (some (79, true))⟩,
      ⟨some 82, .pick (.t 79) (.t 81) (.c (.bool false)), none⟩,
      ⟨some 83, .mov (.t 82), none⟩,
      ⟨some 84, .mov (.t 17), (some (83, true))⟩,
      ⟨some 85, .bin .neq (.t 84) (.c (.str [])), (some (83, true))⟩,
      ⟨some 86, .pick (.t 83) (.t 85) (.c (.bool false)), none⟩])
    (.cond (.t 86) (.reg [⟨some 87, .mov (.t 17), none⟩,
      ⟨some 88, .bin .add (.t 87) (.c (.str [32])), none⟩,
      ⟨some 89, .mov (.t 16), none⟩,
      ⟨some 90, .bin .add (.t 88) (.t 89), none⟩,
      ⟨some 11, .mov (.t 90), none⟩]) .skip)))))) .skip)))
    (.cut (.seq (.reg [⟨some 91, .mov (.t 11), none⟩,
      ⟨some 92, .fla 0 (.t 10), none⟩,
      ⟨none, .st 1 (.t 92) (.t 91), none⟩])
    (.seq (.drg [⟨some 93, .ld 2 true (.t 10), none⟩,
      ⟨some 94, .mov (.t 9), none⟩,
      ⟨some 95, .mov (.t 94), none⟩,
      ⟨some 96, .mov (.t 11), (some (95, true))⟩,
      ⟨some 97, .bin .neq (.t 96) (.c (.str [])), (some (95, true))⟩,
      ⟨some 98, .pick (.t 95) (.t 97) (.c (.bool false)), none⟩,
      ⟨some 99, .mov (.t 98), none⟩,
      ⟨some 100, .ld 2 true (.t 10), (some (99, true))⟩,
      ⟨some 101, .pcall 0 193 [.t 100], (some (99, true))⟩,
      ⟨some 102, .pick (.t 99) (.t 101) (.c (.bool false)), none⟩,
      ⟨none, .st 2 (.t 2) (.t 93), none⟩,
      ⟨some 3, .mov (.t 102), none⟩])
    .ret)))))))))))))
def rs_thread_address : List IRes := [.c 2 2 true, .t 3]
theorem ck_thread_address : chkF Tryz.prog Tryz.f182 ir_thread_address rs_thread_address 103 = true := by kernel_rfl
/- paperchase/thread.Address -/
def ir_thread_Address : IC :=
  (.seq (.reg [⟨some 2, .alc 71 [.str [], .str []], none⟩,
      ⟨some 3, .mov (.c (.int .i64 0)), none⟩])
    (.seq (.seq (.reg [⟨some 6, .mov (.t 0), none⟩,
      ⟨some 7, .sln (.t 6), none⟩,
      ⟨some 8, .bin .gtr (.t 7) (.c (.int .i64 500)), none⟩])
    (.cond (.t 8) (.seq (.reg [⟨some 9, .bld [.str [], .str []] [], none⟩,
      ⟨none, .st 2 (.t 2) (.t 9), none⟩,
      ⟨some 3, .mov (.c (.int .i64 2)), none⟩])
    .ret) .skip))
    (.seq (.reg [⟨some 11, .mov (.t 0), none⟩,
      ⟨some 12, .call 182 [.t 11], none⟩,
      ⟨some 10, .mov (.t 12), none⟩,
      ⟨some 13, .ext 0 (.t 10), none⟩,
      ⟨some 14, .ext 1 (.t 10), none⟩,
      ⟨some 4, .alc 71 [.str [], .str []], none⟩,
      ⟨none, .st 2 (.t 4) (.t 13), none⟩,
      ⟨some 5, .mov (.t 14), none⟩])
    (.seq (.seq (.reg [⟨some 15, .mov (.t 5), none⟩,
      ⟨some 16, .not (.t 15), none⟩])
    (.cond (.t 16) (.seq (.reg [⟨some 17, .bld [.str [], .str []] [], none⟩,
      ⟨none, .st 2 (.t 2) (.t 17), none⟩,
      ⟨some 3, .mov (.c (.int .i64 9)), none⟩])
    .ret) .skip))
    (.seq (.reg [⟨some 18, .ld 2 true (.t 4), none⟩,
      ⟨none, .st 2 (.t 2) (.t 18), none⟩,
      ⟨some 3, .mov (.c (.int .i64 0)), none⟩])
    .ret)))))
def rs_thread_Address : List IRes := [.c 2 2 true, .t 3]
theorem ck_thread_Address : chkF Tryz.prog Tryz.f104 ir_thread_Address rs_thread_Address 19 = true := by kernel_rfl
/- paperchase/chaselaw1.threads -/
def ir_chaselaw1_threads : IC :=
  (.seq (.reg [⟨some 0, .mov (.c (.bool false)), none⟩])
    (.seq (.reg [⟨some 4, .call 104 [.c (.str [65, 110, 110, 32, 60, 97, 64, 98, 46, 100, 101, 62])], none⟩,
      ⟨some 3, .mov (.t 4), none⟩,
      ⟨some 5, .ext 0 (.t 3), none⟩,
      ⟨some 6, .ext 1 (.t 3), none⟩,
      ⟨some 1, .alc 71 [.str [], .str []], none⟩,
      ⟨none, .st 2 (.t 1) (.t 5), none⟩,
      ⟨some 2, .mov (.t 6), none⟩])
    (.seq (.reg [⟨some 7, .mov (.t 2), none⟩,
      ⟨some 8, .bin .eql (.t 7) (.c (.int .i64 0)), none⟩,
      ⟨some 9, .mov (.t 8), none⟩,
      ⟨some 10, .ld 2 true (.t 1), (some (9, true))⟩,
      ⟨some 11, .bld [.str [], .str []] [(0, 1, .c (.str [65, 110, 110])), (1, 1, .c (.str [97, 64, 98, 46, 100, 101]))], (some (9, true))⟩,
      ⟨some 12, .eqa false [.s, .s] (.t 10) (.t 11), (some (9, true))⟩,
      ⟨some 13, .pick (.t 9) (.t 12) (.c (.bool false)), none⟩,
      ⟨some 0, .mov (.t 13), none⟩])
    .ret)))
def rs_chaselaw1_threads : List IRes := [.t 0]
theorem ck_chaselaw1_threads : chkF Tryz.prog Tryz.f33 ir_chaselaw1_threads rs_chaselaw1_threads 14 = true := by kernel_rfl


section
variable {E : Envt}
theorem TrimRightSet_ok (s cs : List UInt8) (hs : s.length ≤ 1000000000) (hcs : cs.length ≤ 1000000) (h2 : asc cs = true) : PCall Tryz.prog E 251 [.str s, .str cs] (· = .str (Lib.trimRightS s cs)) :=
  pcall_flat rfl rfl fun w _ => (Any.strings_TrimRight_laid Tryz.layTrimRight (by kernel_rfl) ⟨s.toArray⟩ ⟨cs.toArray⟩ w (by rw [ba_size]; omega) (by rw [ba_size]; omega) (asc_at h2)).mono fun e w' h => ⟨h.1, grow_below h.2⟩
def cutSufF (s p : List UInt8) : List UInt8 × Bool := if sufE s p = true then (s.take (s.length - p.length), true) else (s, false)
def cutPreF (s p : List UInt8) : List UInt8 × Bool := if Lib.hasPrefix s p = true then (s.drop p.length, true) else (s, false)
theorem CutSuffixL_ok (s p : List UInt8) (hs : s.length ≤ 1000000000) (hp : p.length ≤ 1000000000) : PCall Tryz.prog E 266 [.str s, .str p] (· = .tup [.str (cutSufF s p).1, .bool (cutSufF s p).2]) := by
  refine pcallF mixed Tryz.func266 ck_internal_stringslite_CutSuffix ?_
  simp only [a0, l0, OS.ao, List.map_cons, List.map_nil, List.length_cons, List.length_nil, List.cons_append, List.nil_append, Nat.reduceSub, Nat.reduceAdd, List.replicate_succ, List.replicate_zero, ir_internal_stringslite_CutSuffix, rs_internal_stringslite_CutSuffix, ZZ, YY, Ze, ite_true, ite_false, forall_const, reduceCtorEq, Nat.reduceAdd, Nat.reduceMul, Nat.reduceLeDiff, Nat.reduceLT, Nat.reduceEqDiff]
  refine use1 (sHasSuffix_ok s p (by omega)) rfl (.inl rfl) ?_
  simp only [ZZ, YY, Ze, ite_true, ite_false, forall_const, reduceCtorEq, Nat.reduceAdd, Nat.reduceMul, Nat.reduceLeDiff, Nat.reduceLT, Nat.reduceEqDiff]
  unfold cutSufF
  refine br ?_ ?_
  · intro h
    have h : sufE s p = false := by rwa [Bool.not_eq_true'] at h
    simp only [ZZ, YY, Ze, ite_true, ite_false, forall_const, reduceCtorEq, Nat.reduceAdd, Nat.reduceMul, Nat.reduceLeDiff, Nat.reduceLT, Nat.reduceEqDiff]
    rw [if_neg (by simp [h])]
  · intro h
    have h : sufE s p = true := by rwa [Bool.not_eq_false'] at h
    have hb : p.length ≤ s.length := by
      have := of_decide_eq_true (Bool.and_eq_true_iff.1 h).1
      omega
    have e : ((s.length : Int) - p.length).toNat = s.length - p.length := by omega
    simp only [ZZ, YY, Ze, ite_true, ite_false, forall_const, reduceCtorEq, Nat.reduceAdd, Nat.reduceMul, Nat.reduceLeDiff, Nat.reduceLT, Nat.reduceEqDiff, e]
    refine ⟨i64_of (by omega) (by omega), ⟨by omega, by omega⟩, ?_⟩
    rw [if_pos h]
theorem CutSuffix_ok (s p : List UInt8) (hs : s.length ≤ 1000000000) (hp : p.length ≤ 1000000000) : PCall Tryz.prog E 207 [.str s, .str p] (· = .tup [.str (cutSufF s p).1, .bool (cutSufF s p).2]) := by
  refine pcallF mixed Tryz.func207 ck_strings_CutSuffix ?_
  simp only [a0, l0, OS.ao, List.map_cons, List.map_nil, List.length_cons, List.length_nil, List.cons_append, List.nil_append, Nat.reduceSub, Nat.reduceAdd, List.replicate_succ, List.replicate_zero, ir_strings_CutSuffix, rs_strings_CutSuffix, ZZ, YY, Ze, ite_true, ite_false, forall_const, reduceCtorEq, Nat.reduceAdd, Nat.reduceMul, Nat.reduceLeDiff, Nat.reduceLT, Nat.reduceEqDiff]
  refine use1 (CutSuffixL_ok s p hs hp) rfl (.inl rfl) ?_
  simp only [ZZ, YY, Ze, ite_true, ite_false, forall_const, reduceCtorEq, Nat.reduceAdd, Nat.reduceMul, Nat.reduceLeDiff, Nat.reduceLT, Nat.reduceEqDiff]
theorem hasPrefix_len {s p : List UInt8} (h : Lib.hasPrefix s p = true) : p.length ≤ s.length := by
  unfold Lib.hasPrefix at h
  simp at h
  first | exact (List.IsPrefix.length_le (List.isPrefixOf_iff_prefix.1 h)) | exact h.length_le | omega
theorem preE_eq (s p : List UInt8) : (decide ((p.length : Int) ≤ s.length) && decide (s.take p.length = p)) = Lib.hasPrefix s p := by
  rw [Bool.eq_iff_iff]
  unfold Lib.hasPrefix
  rw [List.isPrefixOf_iff_prefix, List.prefix_iff_eq_take]
  simp only [Bool.and_eq_true, decide_eq_true_eq]
  constructor
  · rintro ⟨_, h⟩; exact h.symm
  · intro h
    have := congrArg List.length h
    simp at this
    exact ⟨by omega, h.symm⟩
theorem sHasPrefix_ok (s p : List UInt8) (hs : s.length ≤ 1000000000) : PCall Tryz.prog E 203 [.str s, .str p] (· = .bool (Lib.hasPrefix s p)) := by
  rw [← preE_eq]
  refine pcallF mixed Tryz.func203 ck_internal_stringslite_HasPrefix ?_
  simp only [a0, l0, OS.ao, List.map_cons, List.map_nil, List.length_cons, List.length_nil, List.cons_append, List.nil_append, Nat.reduceSub, Nat.reduceAdd, List.replicate_succ, List.replicate_zero, ir_internal_stringslite_HasPrefix, rs_internal_stringslite_HasPrefix, ZZ, YY, Ze, ite_true, ite_false, forall_const, reduceCtorEq, Nat.reduceAdd, Nat.reduceMul, Nat.reduceLeDiff, Nat.reduceLT, Nat.reduceEqDiff]
  ((repeat' (with_reducible apply And.intro)) <;> try ((first | first | assumption | trivial | exact (fun hq => by rw [hq]; rfl) | exact i64_of (by omega) (by omega) | omega | (simp; done) | (simp; omega) | (intro hsc; have hs0 := hsc; (try have hsd := of_decide_eq_true hsc); (try simp only [Bool.not_eq_true', Bool.or_eq_false_iff, Bool.and_eq_true, Bool.or_eq_true, decide_eq_true_eq, decide_eq_false_iff_not] at hsc); (repeat' (with_reducible apply And.intro)) <;> (first | assumption | trivial | exact (fun hq => by rw [hq]; rfl) | exact i64_of (by omega) (by omega) | omega | (simp; done) | (simp; omega) | (intro hse; simp [hse, hs0]; done) | (intro hse; simp only [hse, hs0, Bool.true_and, Bool.and_true, Bool.not_false, Bool.not_true, Bool.and_self]; done))))))
theorem CutPrefixL_ok (s p : List UInt8) (hs : s.length ≤ 1000000000) (hp : p.length ≤ 1000000000) : PCall Tryz.prog E 295 [.str s, .str p] (· = .tup [.str (cutPreF s p).1, .bool (cutPreF s p).2]) := by
  refine pcallF mixed Tryz.func295 ck_internal_stringslite_CutPrefix ?_
  simp only [a0, l0, OS.ao, List.map_cons, List.map_nil, List.length_cons, List.length_nil, List.cons_append, List.nil_append, Nat.reduceSub, Nat.reduceAdd, List.replicate_succ, List.replicate_zero, ir_internal_stringslite_CutPrefix, rs_internal_stringslite_CutPrefix, ZZ, YY, Ze, ite_true, ite_false, forall_const, reduceCtorEq, Nat.reduceAdd, Nat.reduceMul, Nat.reduceLeDiff, Nat.reduceLT, Nat.reduceEqDiff]
  refine use1 (sHasPrefix_ok s p hs) rfl (.inl rfl) ?_
  simp only [ZZ, YY, Ze, ite_true, ite_false, forall_const, reduceCtorEq, Nat.reduceAdd, Nat.reduceMul, Nat.reduceLeDiff, Nat.reduceLT, Nat.reduceEqDiff]
  unfold cutPreF
  refine br ?_ ?_
  · intro h
    have h : Lib.hasPrefix s p = false := by rwa [Bool.not_eq_true'] at h
    simp only [ZZ, YY, Ze, ite_true, ite_false, forall_const, reduceCtorEq, Nat.reduceAdd, Nat.reduceMul, Nat.reduceLeDiff, Nat.reduceLT, Nat.reduceEqDiff]
    rw [if_neg (by simp [h])]
  · intro h
    have h : Lib.hasPrefix s p = true := by rwa [Bool.not_eq_false'] at h
    have hb := hasPrefix_len h
    simp only [ZZ, YY, Ze, ite_true, ite_false, forall_const, reduceCtorEq, Nat.reduceAdd, Nat.reduceMul, Nat.reduceLeDiff, Nat.reduceLT, Nat.reduceEqDiff]
    refine ⟨⟨by omega, by omega⟩, ?_⟩
    rw [if_pos h]
    try simp
theorem CutPrefix_ok (s p : List UInt8) (hs : s.length ≤ 1000000000) (hp : p.length ≤ 1000000000) : PCall Tryz.prog E 252 [.str s, .str p] (· = .tup [.str (cutPreF s p).1, .bool (cutPreF s p).2]) := by
  refine pcallF mixed Tryz.func252 ck_strings_CutPrefix ?_
  simp only [a0, l0, OS.ao, List.map_cons, List.map_nil, List.length_cons, List.length_nil, List.cons_append, List.nil_append, Nat.reduceSub, Nat.reduceAdd, List.replicate_succ, List.replicate_zero, ir_strings_CutPrefix, rs_strings_CutPrefix, ZZ, YY, Ze, ite_true, ite_false, forall_const, reduceCtorEq, Nat.reduceAdd, Nat.reduceMul, Nat.reduceLeDiff, Nat.reduceLT, Nat.reduceEqDiff]
  refine use1 (CutPrefixL_ok s p hs hp) rfl (.inl rfl) ?_
  simp only [ZZ, YY, Ze, ite_true, ite_false, forall_const, reduceCtorEq, Nat.reduceAdd, Nat.reduceMul, Nat.reduceLeDiff, Nat.reduceLT, Nat.reduceEqDiff]
theorem ContainsAny_ok (s cs : List UInt8) (hs : s.length ≤ 1000000000) (hcs : cs.length ≤ 1000000) (h2 : asc cs = true) : PCall Tryz.prog E 300 [.str s, .str cs] (· = .bool (decide (0 ≤ Lib.indexAny s cs))) := by
  refine pcallF mixed Tryz.func300 ck_strings_ContainsAny ?_
  simp only [a0, l0, OS.ao, List.map_cons, List.map_nil, List.length_cons, List.length_nil, List.cons_append, List.nil_append, Nat.reduceSub, Nat.reduceAdd, List.replicate_succ, List.replicate_zero, ir_strings_ContainsAny, rs_strings_ContainsAny, ZZ, YY, Ze, ite_true, ite_false, forall_const, reduceCtorEq, Nat.reduceAdd, Nat.reduceMul, Nat.reduceLeDiff, Nat.reduceLT, Nat.reduceEqDiff]
  refine use1 (IndexAny_ok s cs hs hcs h2) rfl (.inl rfl) ?_
  simp only [ZZ, YY, Ze, ite_true, ite_false, forall_const, reduceCtorEq, Nat.reduceAdd, Nat.reduceMul, Nat.reduceLeDiff, Nat.reduceLT, Nat.reduceEqDiff]
end
def plainB (s : List UInt8) : Bool := ((visE s false && !Lib.hasPrefix s [32]) && !sufE s [32]) && !decide (0 ≤ Lib.index s [32, 32])
theorem Plain_ok (s : List UInt8) (hs : s.length ≤ 1000000000) : PCall Tryz.prog E0 148 [.str s] (· = .bool (plainB s)) := by
  refine pcallF mixed Tryz.func148 ck_base_Plain ?_
  simp only [a0, l0, OS.ao, List.map_cons, List.map_nil, List.length_cons, List.length_nil, List.cons_append, List.nil_append, Nat.reduceSub, Nat.reduceAdd, List.replicate_succ, List.replicate_zero, ir_base_Plain, rs_base_Plain, ZZ, YY, Ze, ite_true, ite_false, forall_const, reduceCtorEq, Nat.reduceAdd, Nat.reduceMul, Nat.reduceLeDiff, Nat.reduceLT, Nat.reduceEqDiff]
  refine use1 (Visible_ok s false hs) rfl (.inl rfl) ?_
  simp only [ZZ, YY, Ze, ite_true, ite_false, forall_const, reduceCtorEq, Nat.reduceAdd, Nat.reduceMul, Nat.reduceLeDiff, Nat.reduceLT, Nat.reduceEqDiff]
  refine useG (fun _ => HasPrefix_ok s [32]) rfl (.inl rfl) ?_
  simp only [ZZ, YY, Ze, ite_true, ite_false, forall_const, reduceCtorEq, Nat.reduceAdd, Nat.reduceMul, Nat.reduceLeDiff, Nat.reduceLT, Nat.reduceEqDiff]
  refine useG (fun _ => HasSuffix_ok s [32] (by omega)) rfl (.inl rfl) ?_
  simp only [ZZ, YY, Ze, ite_true, ite_false, forall_const, reduceCtorEq, Nat.reduceAdd, Nat.reduceMul, Nat.reduceLeDiff, Nat.reduceLT, Nat.reduceEqDiff]
  refine useG (fun _ => Contains_ok s [32, 32] hs) rfl (.inl rfl) ?_
  simp only [ZZ, YY, Ze, ite_true, ite_false, forall_const, reduceCtorEq, Nat.reduceAdd, Nat.reduceMul, Nat.reduceLeDiff, Nat.reduceLT, Nat.reduceEqDiff]
  ((repeat' (with_reducible apply And.intro)) <;> try ((first | first | assumption | trivial | exact (fun hq => by rw [hq]; rfl) | exact i64_of (by omega) (by omega) | omega | (simp; done) | (simp; omega) | (intro hsc; have hs0 := hsc; (try have hsd := of_decide_eq_true hsc); (try simp only [Bool.not_eq_true', Bool.or_eq_false_iff, Bool.and_eq_true, Bool.or_eq_true, decide_eq_true_eq, decide_eq_false_iff_not] at hsc); (repeat' (with_reducible apply And.intro)) <;> (first | assumption | trivial | exact (fun hq => by rw [hq]; rfl) | exact i64_of (by omega) (by omega) | omega | (simp; done) | (simp; omega) | (intro hse; simp [hse, hs0]; done) | (intro hse; simp only [hse, hs0, Bool.true_and, Bool.and_true, Bool.not_false, Bool.not_true, Bool.and_self]; done))))))
def nameS : List UInt8 := [34, 60, 62, 44, 59]
def nameB (s : List UInt8) : Bool := (decide ((s.length : Int) ≤ 60) && plainB s) && !decide (0 ≤ Lib.indexAny s nameS)
theorem isName_ok (s : List UInt8) (hs : s.length ≤ 1000000000) : PCall Tryz.prog E0 260 [.str s] (· = .bool (nameB s)) := by
  refine pcallF mixed Tryz.func260 ck_thread_isName ?_
  simp only [a0, l0, OS.ao, List.map_cons, List.map_nil, List.length_cons, List.length_nil, List.cons_append, List.nil_append, Nat.reduceSub, Nat.reduceAdd, List.replicate_succ, List.replicate_zero, ir_thread_isName, rs_thread_isName, ZZ, YY, Ze, ite_true, ite_false, forall_const, reduceCtorEq, Nat.reduceAdd, Nat.reduceMul, Nat.reduceLeDiff, Nat.reduceLT, Nat.reduceEqDiff]
  refine useG (fun _ => Plain_ok s (by omega)) rfl (.inl rfl) ?_
  simp only [ZZ, YY, Ze, ite_true, ite_false, forall_const, reduceCtorEq, Nat.reduceAdd, Nat.reduceMul, Nat.reduceLeDiff, Nat.reduceLT, Nat.reduceEqDiff]
  refine useG (fun _ => ContainsAny_ok s nameS hs (by decide) (by decide)) rfl (.inl rfl) ?_
  simp only [ZZ, YY, Ze, ite_true, ite_false, forall_const, reduceCtorEq, Nat.reduceAdd, Nat.reduceMul, Nat.reduceLeDiff, Nat.reduceLT, Nat.reduceEqDiff]
  ((repeat' (with_reducible apply And.intro)) <;> try ((first | first | assumption | trivial | exact (fun hq => by rw [hq]; rfl) | exact i64_of (by omega) (by omega) | omega | (simp; done) | (simp; omega) | (intro hsc; have hs0 := hsc; (try have hsd := of_decide_eq_true hsc); (try simp only [Bool.not_eq_true', Bool.or_eq_false_iff, Bool.and_eq_true, Bool.or_eq_true, decide_eq_true_eq, decide_eq_false_iff_not] at hsc); (repeat' (with_reducible apply And.intro)) <;> (first | assumption | trivial | exact (fun hq => by rw [hq]; rfl) | exact i64_of (by omega) (by omega) | omega | (simp; done) | (simp; omega) | (intro hse; simp [hse, hs0]; done) | (intro hse; simp only [hse, hs0, Bool.true_and, Bool.and_true, Bool.not_false, Bool.not_true, Bool.and_self]; done))))))
theorem right_ok (n m : List UInt8) (hn : n.length ≤ 1000000000) (hm : m.length ≤ 1000000000) : PCall Tryz.prog E0 193 [.agg [.str n, .str m]] (· = .bool (nameB n && mailF m)) := by
  refine pcallF mixed Tryz.func193 ck_thread_right ?_
  simp only [a0, l0, OS.ao, List.map_cons, List.map_nil, List.length_cons, List.length_nil, List.cons_append, List.nil_append, Nat.reduceSub, Nat.reduceAdd, List.replicate_succ, List.replicate_zero, ir_thread_right, rs_thread_right, ZZ, YY, Ze, ite_true, ite_false, forall_const, reduceCtorEq, Nat.reduceAdd, Nat.reduceMul, Nat.reduceLeDiff, Nat.reduceLT, Nat.reduceEqDiff]
  refine use1 (isName_ok n hn) rfl (.inl rfl) ?_
  simp only [ZZ, YY, Ze, ite_true, ite_false, forall_const, reduceCtorEq, Nat.reduceAdd, Nat.reduceMul, Nat.reduceLeDiff, Nat.reduceLT, Nat.reduceEqDiff]
  refine useG (fun _ => IsMail_ok m (by omega)) rfl (.inl rfl) ?_
  simp only [ZZ, YY, Ze, ite_true, ite_false, forall_const, reduceCtorEq, Nat.reduceAdd, Nat.reduceMul, Nat.reduceLeDiff, Nat.reduceLT, Nat.reduceEqDiff]
def annS : List UInt8 := [65, 110, 110, 32, 60, 97, 64, 98, 46, 100, 101, 62]
theorem address_ann : PCall Tryz.prog E0 182 [.str annS] (· = .tup [.agg [.str [65, 110, 110], .str [97, 64, 98, 46, 100, 101]], .bool true]) := by
  refine pcallF mixed Tryz.func182 ck_thread_address ?_
  simp only [a0, l0, OS.ao, List.map_cons, List.map_nil, List.length_cons, List.length_nil, List.cons_append, List.nil_append, Nat.reduceSub, Nat.reduceAdd, List.replicate_succ, List.replicate_zero, ir_thread_address, rs_thread_address, ZZ, YY, Ze, ite_true, ite_false, forall_const, reduceCtorEq, Nat.reduceAdd, Nat.reduceMul, Nat.reduceLeDiff, Nat.reduceLT, Nat.reduceEqDiff]
  refine use1 (TrimSet_ok annS [32] (by decide) (by decide) (by decide)) rfl (.inl rfl) ?_
  rw [show Lib.trimS annS [32] = annS from by decide +kernel]
  simp only [ZZ, YY, Ze, ite_true, ite_false, forall_const, reduceCtorEq, Nat.reduceAdd, Nat.reduceMul, Nat.reduceLeDiff, Nat.reduceLT, Nat.reduceEqDiff]
  refine use1 (Cut_ok annS [60] (by decide)) rfl (.inl rfl) ?_
  rw [show cutF annS [60] = ([65, 110, 110, 32], [97, 64, 98, 46, 100, 101, 62], true) from by decide +kernel]
  simp only [ZZ, YY, Ze, ite_true, ite_false, forall_const, reduceCtorEq, Nat.reduceAdd, Nat.reduceMul, Nat.reduceLeDiff, Nat.reduceLT, Nat.reduceEqDiff]
  refine use1 (CutSuffix_ok [97, 64, 98, 46, 100, 101, 62] [62] (by decide) (by decide)) rfl (.inl rfl) ?_
  rw [show cutSufF [97, 64, 98, 46, 100, 101, 62] [62] = ([97, 64, 98, 46, 100, 101], true) from by decide +kernel]
  simp only [ZZ, YY, Ze, ite_true, ite_false, forall_const, reduceCtorEq, Nat.reduceAdd, Nat.reduceMul, Nat.reduceLeDiff, Nat.reduceLT, Nat.reduceEqDiff]
  refine use1 (Lower_ok [97, 64, 98, 46, 100, 101] (by decide)) rfl (.inl rfl) ?_
  rw [show lowF [97, 64, 98, 46, 100, 101] = [97, 64, 98, 46, 100, 101] from by decide +kernel]
  simp only [ZZ, YY, Ze, ite_true, ite_false, forall_const, reduceCtorEq, Nat.reduceAdd, Nat.reduceMul, Nat.reduceLeDiff, Nat.reduceLT, Nat.reduceEqDiff]
  refine br (fun h => by simp at h) ?_
  intro _
  simp only [ZZ, YY, Ze, ite_true, ite_false, forall_const, reduceCtorEq, Nat.reduceAdd, Nat.reduceMul, Nat.reduceLeDiff, Nat.reduceLT, Nat.reduceEqDiff]
  refine use1 (TrimRightSet_ok [65, 110, 110, 32] [32] (by decide) (by decide) (by decide)) rfl (.inl rfl) ?_
  rw [show Lib.trimRightS [65, 110, 110, 32] [32] = [65, 110, 110] from by decide +kernel]
  simp only [ZZ, YY, Ze, ite_true, ite_false, forall_const, reduceCtorEq, Nat.reduceAdd, Nat.reduceMul, Nat.reduceLeDiff, Nat.reduceLT, Nat.reduceEqDiff]
  refine br (fun h => by simp at h) ?_
  intro _
  simp only [ZZ, YY, Ze, ite_true, ite_false, forall_const, reduceCtorEq, Nat.reduceAdd, Nat.reduceMul, Nat.reduceLeDiff, Nat.reduceLT, Nat.reduceEqDiff]
  refine use1 (CutPrefix_ok [65, 110, 110] [34] (by decide) (by decide)) rfl (.inl rfl) ?_
  rw [show cutPreF [65, 110, 110] [34] = ([65, 110, 110], false) from by decide +kernel]
  simp only [ZZ, YY, Ze, ite_true, ite_false, forall_const, reduceCtorEq, Nat.reduceAdd, Nat.reduceMul, Nat.reduceLeDiff, Nat.reduceLT, Nat.reduceEqDiff]
  refine cut_same (by simp only [ZZ, YY, Ze, ite_true, ite_false, forall_const, reduceCtorEq, Nat.reduceAdd, Nat.reduceMul, Nat.reduceLeDiff, Nat.reduceLT, Nat.reduceEqDiff]) ?_
  simp only [ZZ, YY, Ze, ite_true, ite_false, forall_const, reduceCtorEq, Nat.reduceAdd, Nat.reduceMul, Nat.reduceLeDiff, Nat.reduceLT, Nat.reduceEqDiff]
  refine drg1 (x1 := .bool true) ?_
  have hr := right_ok [65, 110, 110] [97, 64, 98, 46, 100, 101] (by decide) (by decide)
  rw [show (nameB [65, 110, 110] && mailF [97, 64, 98, 46, 100, 101]) = true from by decide +kernel] at hr
  simp only [ZZ, YY, Ze, ite_true, ite_false, forall_const, reduceCtorEq, Nat.reduceAdd, Nat.reduceMul, Nat.reduceLeDiff, Nat.reduceLT, Nat.reduceEqDiff]
  ((repeat' (with_reducible apply And.intro)) <;> try (first | exact fun h => ⟨h, usep hr rfl (.inl rfl)⟩ | (first | first | assumption | trivial | exact (fun hq => by rw [hq]; rfl) | exact i64_of (by omega) (by omega) | omega | (simp; done) | (simp; omega) | (intro hsc; have hs0 := hsc; (try have hsd := of_decide_eq_true hsc); (try simp only [Bool.not_eq_true', Bool.or_eq_false_iff, Bool.and_eq_true, Bool.or_eq_true, decide_eq_true_eq, decide_eq_false_iff_not] at hsc); (repeat' (with_reducible apply And.intro)) <;> (first | assumption | trivial | exact (fun hq => by rw [hq]; rfl) | exact i64_of (by omega) (by omega) | omega | (simp; done) | (simp; omega) | (intro hse; simp [hse, hs0]; done) | (intro hse; simp only [hse, hs0, Bool.true_and, Bool.and_true, Bool.not_false, Bool.not_true, Bool.and_self]; done))))))
theorem Address_ann : PCall Tryz.prog E0 104 [.str annS] (· = .tup [.agg [.str [65, 110, 110], .str [97, 64, 98, 46, 100, 101]], int 0]) := by
  refine pcallF mixed Tryz.func104 ck_thread_Address ?_
  simp only [a0, l0, OS.ao, List.map_cons, List.map_nil, List.length_cons, List.length_nil, List.cons_append, List.nil_append, Nat.reduceSub, Nat.reduceAdd, List.replicate_succ, List.replicate_zero, ir_thread_Address, rs_thread_Address, ZZ, YY, Ze, ite_true, ite_false, forall_const, reduceCtorEq, Nat.reduceAdd, Nat.reduceMul, Nat.reduceLeDiff, Nat.reduceLT, Nat.reduceEqDiff]
  refine br (fun h => by simp [annS] at h) ?_
  intro _
  simp only [ZZ, YY, Ze, ite_true, ite_false, forall_const, reduceCtorEq, Nat.reduceAdd, Nat.reduceMul, Nat.reduceLeDiff, Nat.reduceLT, Nat.reduceEqDiff]
  refine use1 address_ann rfl (.inl rfl) ?_
  simp only [ZZ, YY, Ze, ite_true, ite_false, forall_const, reduceCtorEq, Nat.reduceAdd, Nat.reduceMul, Nat.reduceLeDiff, Nat.reduceLT, Nat.reduceEqDiff]
theorem threads_ok : PCall Tryz.prog E0 33 [] (· = .bool true) := by
  refine pcallF mixed Tryz.func33 ck_chaselaw1_threads ?_
  simp only [a0, l0, OS.ao, List.map_cons, List.map_nil, List.length_cons, List.length_nil, List.cons_append, List.nil_append, Nat.reduceSub, Nat.reduceAdd, List.replicate_succ, List.replicate_zero, ir_chaselaw1_threads, rs_chaselaw1_threads, ZZ, YY, Ze, ite_true, ite_false, forall_const, reduceCtorEq, Nat.reduceAdd, Nat.reduceMul, Nat.reduceLeDiff, Nat.reduceLT, Nat.reduceEqDiff]
  refine use1 Address_ann rfl (.inl rfl) ?_
  simp only [ZZ, YY, Ze, ite_true, ite_false, forall_const, reduceCtorEq, Nat.reduceAdd, Nat.reduceMul, Nat.reduceLeDiff, Nat.reduceLT, Nat.reduceEqDiff]
  simp
end Go.Proofs.YtidmphcocnaonaaGreatDoor

/- Marks of subjects, in plain lists: both texts find the same. -/
namespace Go.Proofs.YtidmphcocnaonaaGreatDoor
open Go.RowKit
set_option linter.unusedVariables false
set_option linter.unusedSimpArgs false
set_option linter.defProp false

/-- The first place of a byte is the only one with none before it. -/
theorem first_eq {c : UInt8} {a b a' b' : List UInt8} (h : a ++ c :: b = a' ++ c :: b') (h1 : c ∉ a) (h2 : c ∉ a') : a = a' ∧ b = b' := by
  induction a generalizing a' with
  | nil =>
    cases a' with
    | nil => simpa using h
    | cons x a' => simp only [List.nil_append, List.cons_append, List.cons.injEq] at h; exact absurd (by rw [h.1]; simp) h2
  | cons y a ih =>
    cases a' with
    | nil => simp only [List.nil_append, List.cons_append, List.cons.injEq] at h; exact absurd (by rw [← h.1]; simp) h1
    | cons x a' =>
      simp only [List.cons_append, List.cons.injEq] at h
      obtain ⟨e1, e2⟩ := ih h.2 (fun hm => h1 (by simp [hm])) (fun hm => h2 (by simp [hm]))
      exact ⟨by rw [h.1, e1], e2⟩

theorem hp1 (c : UInt8) (r : List UInt8) : Lib.hasPrefix r [c] = true ↔ ∃ t, r = c :: t := by
  unfold Lib.hasPrefix
  rw [List.isPrefixOf_iff_prefix]
  constructor
  · rintro ⟨t, rfl⟩; exact ⟨t, rfl⟩
  · rintro ⟨t, rfl⟩; exact ⟨t, rfl⟩
end Go.Proofs.YtidmphcocnaonaaGreatDoor

/- strings.Builder at this cut, with the exact blocks that change: turned from the library's own walks (Derived/Shelf/Strings: Builder1, Builder2) to this program. -/
namespace Go.Proofs.YtidmphcocnaonaaGreatDoor
open Go.RowKit
set_option linter.unusedVariables false
set_option linter.unusedSimpArgs false
set_option linter.defProp false

theorem b_info : (Tryz.prog.info? 5).map (fun i => (i.zero, i.size, i.bytes)) = some (some (.int .u8 0), 1, 1) := by kernel_rfl
theorem b_sizeB : (Tryz.prog.info? 146).map (·.size) = some 2 := by kernel_rfl
theorem b_liesB : liesAt Tryz.prog Tryz.prog.depth 146 (2 / Tryz.prog.cellsOf 146) 0 146 1 = true := by kernel_rfl
theorem b_usNone (W : World) (q : Option Addr) : (Builtin.unsafeString_ #[208, 3] 9 #[.pointer q, .int .i64 0]).run Tryz.prog W = .ok (.string .empty) W := Lib.run_unsafeString_none W _ _ _ q
theorem b_mixed : Tryz.prog.follows .mixedOrders = true := by kernel_rfl
theorem b_cells : Tryz.prog.cellsOf 5 = 1 := by kernel_rfl
theorem b_size : (Tryz.prog.info? 5).map (·.size) = some 1 := by kernel_rfl
abbrev tSb : TypeId := 146
abbrev tU8 : TypeId := 5

set_option maxHeartbeats 1000000 in
set_option maxRecDepth 100000 in
theorem b_ccUsed (b : Nat) (w : World) (h0 : w.cell? ⟨b, 0, none⟩ = some (.pointer (some ⟨b, 0, none⟩))) :
    Calls Tryz.prog 204 #[.pointer (some ⟨b, 0, none⟩)] w fun e w' => e = .returned (.tuple #[]) ∧ w' = w := by
  obtain ⟨j, hj, _⟩ := Option.map_eq_some_iff.1 b_sizeB
  go_enter Tryz.func204, Tryz.ntmps204
  go_wp2
  rw [Lib.run_neq_ptr_same w _ Tryz.underlying143 hj]
  go_wp2
  go_end0
  exact ⟨rfl, rfl⟩

set_option maxHeartbeats 1000000 in
set_option maxRecDepth 100000 in
theorem b_ccFresh (b : Nat) (w : World) (h0 : w.cell? ⟨b, 0, none⟩ = some (.pointer none)) (hsh : w.shape? b = some (146, 2)) (hfz : w.frozen? ⟨b, 0, none⟩ = false) :
    Calls Tryz.prog 204 #[.pointer (some ⟨b, 0, none⟩)] w fun e w' => e = .returned (.tuple #[]) ∧ w' = w.setCell ⟨b, 0, none⟩ (.pointer (some ⟨b, 0, none⟩)) := by
  obtain ⟨j, hj, hjs⟩ := Option.map_eq_some_iff.1 b_sizeB
  go_enter Tryz.func204, Tryz.ntmps204
  go_wp2
  rw [Lib.run_to_unsafe w ⟨b, 0, none⟩ Tryz.underlying143 Tryz.underlying240 hj (by rw [hjs]; decide) hsh (Nat.zero_lt_succ 1)]
  simp only [Result.andThen]
  rw [Oper.upon_value]
  go_wp2
  rw [run_callFunc_extern Tryz.func264 (by kernel_rfl) (by kernel_rfl) (by kernel_rfl) (e := Extern.AbiNoEscape.same) (by kernel_rfl)]
  rw [Lib.run_noEscape]
  simp only [Result.andThen]
  rw [Oper.upon_value]
  go_wp2
  rw [Lib.run_from_unsafe w ⟨b, 0, none⟩ Tryz.underlying240 Tryz.underlying143 hj hsh b_liesB]
  simp only [Result.andThen]
  rw [Oper.upon_value]
  go_wp2
  go_end0
  exact ⟨rfl, rfl⟩

theorem b_cc (b : Nat) (bs : List Value) (w : World) (h : Lib.IsBuilder 146 5 0 b bs w) :
    Calls Tryz.prog 204 #[.pointer (some ⟨b, 0, none⟩)] w fun e w' => e = .returned (.tuple #[]) ∧ CcPost 146 5 b bs w w' := by
  rcases h with h | h
  · refine (b_ccFresh b w h.cell0 h.shape h.frozen0).mono ?_
    rintro e w' ⟨rfl, rfl⟩
    exact ⟨rfl, ccpost_fresh h⟩
  · refine (b_ccUsed b w h.cell0).mono ?_
    rintro e w' ⟨rfl, rfl⟩
    exact ⟨rfl, ccpost_used h⟩

set_option maxHeartbeats 2000000 in
set_option maxRecDepth 100000 in
theorem sb_WriteString (b : Nat) (s t : List UInt8) (w : World) (h : Lib.IsBuilder 146 5 0 b (Lib.byteCells s) w) (hlen : s.length + t.length ≤ 140737488355328) :
    Calls Tryz.prog 122 #[.pointer (some ⟨b, 0, none⟩), .string ⟨t.toArray⟩] w fun e w' => e = .returned (.tuple #[.int .i64 t.length, .nilIface]) ∧ SbPost 146 5 b (s ++ t) w w' := by
  obtain ⟨i0, hi, hz0, hz1, hz2⟩ := info_parts b_info
  have hsz : (⟨t.toArray⟩ : ByteArray).size = t.length := by simp [ByteArray.size]
  have hcl : Lib.strCells ⟨t.toArray⟩ = Lib.byteCells t := by simp [Lib.strCells, Lib.byteCells]
  generalize hst : (⟨t.toArray⟩ : ByteArray) = st at hsz hcl ⊢
  rw [← hsz] at hlen ⊢
  go_enter Tryz.func122, Tryz.ntmps122
  go_wp2_with (go_at_call 204; refine (b_cc b _ _ h).mono ?_)
  rintro e w1 ⟨rfl, v, hbk, hown, hne, hG1, hbf⟩
  rw [Lib.byteCells_length] at hown
  have c0 : w1.cell? ⟨b, 0, none⟩ = some (.pointer (some ⟨b, 0, none⟩)) := by rw [Lib.cell_of_heap hbk]; rfl
  have c1 : w1.cell? ⟨b, 1, none⟩ = some v := by rw [Lib.cell_of_heap hbk]; rfl
  go_wp2_with (at_builtin; refine wpList_app_str rfl _ _ 144 9 rfl 0 5 i0 Tryz.underlying144 Tryz.underlying9 hi hz0 hz1 hz2 _ _ _ rfl hown st rfl (by unfold maxLen; omega) (by omega) (Nat.zero_le _) ?_)
  intro v' w2 hown' hgrow hat
  have hlt := lt_of_heap hbk
  have hb2 : w2.heap[b]? = some (.cells #[.pointer (some ⟨b, 0, none⟩), v] 146 (0, 0)) := by
    rw [hgrow.block b hlt (fun e => hne e.symm)]
    exact hbk
  have d0 : w2.cell? ⟨b, 0, none⟩ = some (.pointer (some ⟨b, 0, none⟩)) := by rw [Lib.cell_of_heap hb2]; rfl
  have d1 : w2.cell? ⟨b, 1, none⟩ = some v := by rw [Lib.cell_of_heap hb2]; rfl
  have f1 : w2.frozen? ⟨b, 1, none⟩ = false := Lib.frozen_of_heap hb2 1
  have hP : SbPost 146 5 b (s ++ t) w (w2.setCell ⟨b, 1, none⟩ v') :=
    sbpost_mk (by decide) hG1 hbf hbk hgrow hne hat (by first | (rw [hcl, hsz] at hown'; simpa [Lib.byteCells] using hown') | simpa [Lib.byteCells] using hown')
  obtain ⟨ao, n', cap, rfl⟩ : ∃ ao n' cap, v' = .slice ao n' cap := by
    rcases hown'.2 with ⟨hv, _⟩ | ⟨g, cap, cur, hv, _⟩
    · exact ⟨_, _, _, hv⟩
    · exact ⟨_, _, _, hv⟩
  go_wp2
  go_ret2
  exact ⟨by first | rfl | (rw [hsz]; rfl), hP⟩

end Go.Proofs.YtidmphcocnaonaaGreatDoor

/- strings.Builder at this cut, its string, its length, its growth: turned from the library's own walks (Derived/Shelf/Strings: Builder1, Builder2) to this program. -/
namespace Go.Proofs.YtidmphcocnaonaaGreatDoor
open Go.RowKit
set_option linter.unusedVariables false
set_option linter.unusedSimpArgs false
set_option linter.defProp false

set_option maxHeartbeats 1000000 in
set_option maxRecDepth 100000 in
theorem b_String (B b : Nat) (l : List UInt8) (w : World) (h : Lib.IsBuilder 146 5 B b (Lib.byteCells l) w) (h0 : l ≠ []) :
    Calls Tryz.prog 124 #[.pointer (some ⟨b, 0, none⟩)] w fun e w' => e = .returned (.string ⟨l.toArray⟩) ∧ Grow w w' (fun x => x = b ∨ bufOf w 146 b x) := by
  obtain ⟨p, hB, v, hbk, hown, hne⟩ : ∃ p, Lib.BuilderAt 146 5 B b p (Lib.byteCells l) w := by
    rcases h with h | h
    · exact ⟨_, h⟩
    · exact ⟨_, h⟩
  have hl0 : l.length ≠ 0 := by simpa using h0
  rw [Lib.byteCells_length] at hown
  obtain ⟨g, cap, cur, rfl, hbg, hg, hnc, hcm, hcs, htake⟩ : ∃ g cap cur, v = .slice (some ⟨g, 0, none⟩) l.length cap ∧ B ≤ g ∧ w.heap[g]? = some (.cells cur 5 (0, 0)) ∧ l.length ≤ cap ∧ cap ≤ maxLen ∧ cur.size = cap * 1 ∧ cur.toList.take (l.length * 1) = Lib.byteCells l := by
    rcases hown.2 with ⟨_, hz⟩ | ⟨g, cap, cur, hv, r⟩
    · exact absurd hz hl0
    · exact ⟨g, cap, cur, hv, r⟩
  have c1 : w.drew.cell? ⟨b, 1, none⟩ = some (.slice (some ⟨g, 0, none⟩) l.length cap) := by
    have : w.drew.heap[b]? = some (.cells #[p, .slice (some ⟨g, 0, none⟩) l.length cap] 146 (0, 0)) := hbk
    rw [Lib.cell_of_heap this]; rfl
  have hSD : (Builtin.unsafeSliceData_ #[144] 208 #[.slice (some ⟨g, 0, none⟩) l.length cap]).run Tryz.prog w.drew = .ok (.pointer (some ⟨g, 0, none⟩)) w.drew :=
    Lib.run_unsafeSliceData_row _ _ _ _ _ _ (by omega)
  have hUS : (Builtin.unsafeString_ #[208, 3] 9 #[.pointer (some ⟨g, 0, none⟩), .int .i64 l.length]).run Tryz.prog w.drew = .ok (.string ⟨l.toArray⟩) (w.drew.freeze ⟨g, 0, none⟩ l.length) := by
    refine Lib.run_unsafeString_row w.drew 208 3 9 5 Tryz.underlying208 b_cells g cur.size (by have hg' : w.drew.heap[g]? = some (.cells cur 5 (0, 0)) := hg; simp [World.shape?, hg']) l h0 (by omega) (by unfold maxLen at hcm; omega) ?_
    intro j x hx
    have := hown.cells (g := g) rfl j (.int .u8 x.toNat) (by simp [Lib.byteCells, hx])
    exact this
  have mixed := b_mixed
  go_enter Tryz.func124, Tryz.ntmps124
  go_wp2
  go_region_o
  all_goals (go_wp2; go_ret; exact ⟨rfl, grow_freeze (.inr ⟨_, _, hbk, rfl⟩)⟩)

set_option maxHeartbeats 2000000 in
set_option maxRecDepth 100000 in
theorem b_String_nil (B b : Nat) (p : Value) (w : World) (hbk : w.heap[b]? = some (.cells #[p, .slice none 0 0] 146 (0, 0))) :
    Calls Tryz.prog 124 #[.pointer (some ⟨b, 0, none⟩)] w fun e w' => e = .returned (.string ⟨#[]⟩) ∧ Grow w w' (fun x => x = b ∨ bufOf w 146 b x) := by
  have hUS := b_usNone
  have c1 : w.drew.cell? ⟨b, 1, none⟩ = some (.slice none 0 0) := by
    have : w.drew.heap[b]? = some (.cells #[p, .slice none 0 0] 146 (0, 0)) := hbk
    rw [Lib.cell_of_heap this]; rfl
  have hSD : (Builtin.unsafeSliceData_ #[144] 208 #[.slice none 0 0]).run Tryz.prog w.drew = .ok (.pointer none) w.drew := rfl
  have mixed := b_mixed
  go_enter Tryz.func124, Tryz.ntmps124
  go_wp2
  go_region_o
  all_goals (go_wp2; go_ret; exact ⟨rfl, (Grow.refl w _).drew⟩)

set_option maxHeartbeats 2000000 in
set_option maxRecDepth 100000 in
theorem b_String_noroom (B b g : Nat) (p : Value) (cur : Array Value) (w : World) (hBw : B ≤ w.heap.size) (hbk : w.heap[b]? = some (.cells #[p, .slice (some ⟨g, 0, none⟩) 0 0] 146 (0, 0))) (hg : w.heap[g]? = some (.cells cur 5 (0, 0))) :
    Calls Tryz.prog 124 #[.pointer (some ⟨b, 0, none⟩)] w fun e w' => e = .returned (.string ⟨#[]⟩) ∧ Grow w w' (fun x => x = b ∨ bufOf w 146 b x) := by
  have hUS := b_usNone
  have hlt : b < w.heap.size := by
    rcases Nat.lt_or_ge b w.heap.size with h' | h'
    · exact h'
    · simp [Array.getElem?_eq_none h'] at hbk
  have c1 : w.drew.cell? ⟨b, 1, none⟩ = some (.slice (some ⟨g, 0, none⟩) 0 0) := by
    have : w.drew.heap[b]? = some (.cells #[p, .slice (some ⟨g, 0, none⟩) 0 0] 146 (0, 0)) := hbk
    rw [Lib.cell_of_heap this]; rfl
  have hSD : (Builtin.unsafeSliceData_ #[144] 208 #[.slice (some ⟨g, 0, none⟩) 0 0]).run Tryz.prog w.drew = .ok (.pointer (some ⟨w.drew.heap.size, 0, none⟩)) (w.drew.alloc (.view ⟨g, 0, none⟩ 5)) :=
    Lib.run_unsafeSliceData_zero w.drew _ _ 5 Tryz.underlying208 ⟨g, 0, none⟩ 0 (5, cur.size) (by have hg' : w.drew.heap[g]? = some (.cells cur 5 (0, 0)) := hg; simp [World.shape?, hg'])
  have c2 : (w.drew.alloc (.view ⟨g, 0, none⟩ 5)).cell? ⟨b, 1, none⟩ = some (.slice (some ⟨g, 0, none⟩) 0 0) := by
    have : (w.drew.alloc (.view ⟨g, 0, none⟩ 5)).heap[b]? = _ := (Lib.alloc_old w.drew _ b hlt).trans hbk
    rw [Lib.cell_of_heap this]; rfl
  have c3 : (w.alloc (.view ⟨g, 0, none⟩ 5)).drew.cell? ⟨b, 1, none⟩ = some (.slice (some ⟨g, 0, none⟩) 0 0) := c2
  have c0 : w.cell? ⟨b, 1, none⟩ = some (.slice (some ⟨g, 0, none⟩) 0 0) := c1
  have mixed := b_mixed
  go_enter Tryz.func124, Tryz.ntmps124
  go_wp2
  go_region_o
  all_goals (go_wp2; go_ret; exact ⟨rfl, grow_alloc'⟩)

set_option maxHeartbeats 2000000 in
set_option maxRecDepth 100000 in
theorem b_String_room (B b g cap : Nat) (p : Value) (w : World) (hc0 : cap ≠ 0) (hbk : w.heap[b]? = some (.cells #[p, .slice (some ⟨g, 0, none⟩) 0 cap] 146 (0, 0))) :
    Calls Tryz.prog 124 #[.pointer (some ⟨b, 0, none⟩)] w fun e w' => e = .returned (.string ⟨#[]⟩) ∧ Grow w w' (fun x => x = b ∨ bufOf w 146 b x) := by
  have hUS := b_usNone
  have c1 : w.drew.cell? ⟨b, 1, none⟩ = some (.slice (some ⟨g, 0, none⟩) 0 cap) := by
    have : w.drew.heap[b]? = some (.cells #[p, .slice (some ⟨g, 0, none⟩) 0 cap] 146 (0, 0)) := hbk
    rw [Lib.cell_of_heap this]; rfl
  have hSD : (Builtin.unsafeSliceData_ #[144] 208 #[.slice (some ⟨g, 0, none⟩) 0 cap]).run Tryz.prog w.drew = .ok (.pointer (some ⟨g, 0, none⟩)) w.drew :=
    Lib.run_unsafeSliceData_row _ _ _ _ _ _ hc0
  clear hc0
  have mixed := b_mixed
  go_enter Tryz.func124, Tryz.ntmps124
  go_wp2
  go_region_o
  all_goals (go_wp2; go_ret; exact ⟨rfl, (Grow.refl w _).drew⟩)

theorem b_String_empty (B b : Nat) (w : World) (h : Lib.IsBuilder 146 5 B b [] w) (hBw : B ≤ w.heap.size) :
    Calls Tryz.prog 124 #[.pointer (some ⟨b, 0, none⟩)] w fun e w' => e = .returned (.string ⟨#[]⟩) ∧ Grow w w' (fun x => x = b ∨ bufOf w 146 b x) := by
  obtain ⟨p, hB, v, hbk, hown, hne⟩ : ∃ p, Lib.BuilderAt 146 5 B b p [] w := by
    rcases h with h | h
    · exact ⟨_, h⟩
    · exact ⟨_, h⟩
  rcases hown.2 with ⟨rfl, _⟩ | ⟨g, cap, cur, rfl, hbg, hg, _, _, _, _⟩
  · exact b_String_nil B b p w hbk
  · by_cases hc0 : cap = 0
    · subst hc0
      exact b_String_noroom B b g p cur w hBw hbk hg
    · exact b_String_room B b g cap p w hc0 hbk

theorem b_String_any (B b : Nat) (l : List UInt8) (w : World) (h : Lib.IsBuilder 146 5 B b (Lib.byteCells l) w) (hBw : B ≤ w.heap.size) :
    Calls Tryz.prog 124 #[.pointer (some ⟨b, 0, none⟩)] w fun e w' => e = .returned (.string ⟨l.toArray⟩) ∧ Grow w w' (fun x => x = b ∨ bufOf w 146 b x) := by
  cases l with
  | nil => exact b_String_empty B b w h hBw
  | cons x r => exact b_String B b (x :: r) w h (by simp)

set_option maxHeartbeats 2000000 in
set_option maxRecDepth 1000000 in
theorem b_grow_fresh (B b n : Nat) (w : World) (hB : B ≤ b) (hbk : w.heap[b]? = some (.cells #[.pointer (some ⟨b, 0, none⟩), .slice none 0 0] 146 (0, 0))) (hBw : B ≤ w.heap.size) (hn : n ≤ 281474976710656) :
    Calls Tryz.prog 205 #[.pointer (some ⟨b, 0, none⟩), .int .i64 n] w fun e w' => e = .returned (.tuple #[]) ∧ SbPost 146 5 b [] w w' := by
  obtain ⟨cs, hrun, hle, hmax⟩ := Lib.run_makeNoZero (P := Tryz.prog) w.drew #[3] 144 5 Tryz.underlying144 n hn
  have hw : IntKind.i64.wrap (IntKind.i64.wrap 0 + (n : Int)) = n := by
    rw [IntKind.wrap_i64, IntKind.wrap_i64]
    omega
  have hcall : (callFunc 265 #[.int .i64 (IntKind.i64.wrap (IntKind.i64.wrap 0 + (n : Int)))]).run Tryz.prog w.drew = .ok (.value (.slice (some ⟨w.drew.heap.size, 0, none⟩) n cs.size)) (w.drew.drew.drew.alloc (.cells cs 5)) := by
    rw [hw, run_callFunc_extern Tryz.func265 (by kernel_rfl) (by kernel_rfl) (by kernel_rfl) (e := Extern.BytealgMakeNoZero.makeNoZero #[3] #[144]) (by kernel_rfl), hrun]
    rfl
  have c1 : w.drew.cell? ⟨b, 1, none⟩ = some (.slice none 0 0) := by
    have : w.drew.heap[b]? = _ := hbk
    rw [Lib.cell_of_heap this]; rfl
  have c2 : (w.alloc (.cells cs 5)).cell? ⟨b, 1, none⟩ = some (.slice none 0 0) := by
    have hlt : b < w.heap.size := by
      rcases Nat.lt_or_ge b w.heap.size with h' | h'
      · exact h'
      · simp [Array.getElem?_eq_none h'] at hbk
    have : (w.alloc (.cells cs 5)).heap[b]? = _ := (Lib.alloc_old w _ b hlt).trans hbk
    rw [Lib.cell_of_heap this]; rfl
  have f2 : (w.alloc (.cells cs 5)).frozen? ⟨b, 1, none⟩ = false := by
    have hlt : b < w.heap.size := by
      rcases Nat.lt_or_ge b w.heap.size with h' | h'
      · exact h'
      · simp [Array.getElem?_eq_none h'] at hbk
    exact Lib.frozen_of_heap ((Lib.alloc_old w _ b hlt).trans hbk) 1
  have hcopy : ∀ W : World, (Builtin.copy_ #[144, 144] 3 #[.slice (some ⟨w.heap.size, 0, none⟩) 0 cs.size, .slice none 0 0]).run Tryz.prog W = .ok (goInt 0) W :=
    fun W => run_copy_none W 144 144 3 5 _ _ 0 cs.size 0 0 Tryz.underlying144 b_size rfl
  clear hw
  have mixed := b_mixed
  go_enter Tryz.func205, Tryz.ntmps205
  go_wp2
  have hfin := SbPost.of_grown (T := 146) (e := 5) (cs := cs) (by decide) hbk (hmax (by unfold maxLen; omega))
  go_region_o
  all_goals (go_wp2; go_end0; exact ⟨rfl, hfin⟩)

set_option maxHeartbeats 2000000 in
set_option maxRecDepth 1000000 in
theorem b_Grow_fresh (B b n : Nat) (w : World) (hB : B ≤ b) (hbk : w.heap[b]? = some (.cells #[.pointer none, .slice none 0 0] 146 (0, 0))) (hBw : B ≤ w.heap.size) (hn : n ≤ 281474976710656) :
    Calls Tryz.prog 121 #[.pointer (some ⟨b, 0, none⟩), .int .i64 n] w fun e w' => e = .returned (.tuple #[]) ∧ SbPost 146 5 b [] w w' := by
  have hbk1 : (w.setCell ⟨b, 0, none⟩ (.pointer (some ⟨b, 0, none⟩))).heap[b]? = some (.cells #[.pointer (some ⟨b, 0, none⟩), .slice none 0 0] 146 (0, 0)) := by
    simp [World.setCell, Array.getElem?_modify, hbk]
  have c1 : (w.setCell ⟨b, 0, none⟩ (.pointer (some ⟨b, 0, none⟩))).cell? ⟨b, 1, none⟩ = some (.slice none 0 0) := by rw [Lib.cell_of_heap hbk1]; rfl
  have mixed := b_mixed
  go_enter Tryz.func121, Tryz.ntmps121
  have c1' : (w.setCell ⟨b, 0, none⟩ (.pointer (some ⟨b, 0, none⟩))).drew.cell? ⟨b, 1, none⟩ = some (.slice none 0 0) := c1
  go_wp2_with (go_at_call 204; refine (b_ccFresh b w (by rw [Lib.cell_of_heap hbk]; rfl) (by simp [World.shape?, hbk]) (Lib.frozen_of_heap hbk 0)).mono ?_; rintro e w' ⟨rfl, rfl⟩)
  go_region_o
  all_goals go_wp2_with (go_at_call 205; refine (b_grow_fresh B b n (w.setCell ⟨b, 0, none⟩ (.pointer (some ⟨b, 0, none⟩))).drew hB hbk1 (by simpa [World.setCell, World.drew, -World.drew_eq] using hBw) hn).mono ?_; rintro e w' ⟨rfl, h1⟩)
  all_goals first
    | (go_end0; exact ⟨rfl, SbPost.behind hbk h1⟩)
    | (go_end0; exact ⟨rfl, SbPost.of_used hbk⟩)

end Go.Proofs.YtidmphcocnaonaaGreatDoor
