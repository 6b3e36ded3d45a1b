
/- Own texts, put together: I2 G1 G2 G3 G4 G5 G6. -/
import Derived.Test.YtndjmidmfmcbkaaGreatDoorM5
import Derived.Test.YtndjmidmfmcbkaaGreatDoorM4
import Derived.Test.YtndjmidmfmcbkaaGreatDoorM3
import Derived.Test.YtndjmidmfmcbkaaGreatDoorRep
/- Addresses: their form, on both sides. -/
namespace Go.Proofs.YtndjmidmfmcbkaaGreatDoor
open Go.RowKit
set_option linter.unusedVariables false
set_option linter.unusedSimpArgs false
set_option linter.defProp false

/- paperchase/thread.all -/
def ir_thread_all_L0 : IC :=
  (.seq (.reg [⟨some 14, .bin .lss (.t 13) (.t 12), none⟩])
    (.seq (.cond (.t 14) .skip (.exit 0))
    (.seq (.block 1 (.seq (.reg [⟨some 15, .mov (.t 13), none⟩,
      ⟨some 9, .mov (.t 15), none⟩])
    (.seq (.reg [⟨some 16, .mov (.t 0), none⟩,
      ⟨some 17, .mov (.t 9), none⟩,
      ⟨some 18, .idx (.t 16) (.t 17), none⟩,
      ⟨some 10, .mov (.t 18), none⟩])
    (.seq (.reg [⟨some 19, .mov (.t 10), none⟩,
      ⟨some 20, .bin .geq (.t 19) (.c (.int .u8 97)), none⟩,
      ⟨some 21, .mov (.t 20), none⟩,
      ⟨some 22, .mov (.t 10), (some (21, true))⟩,
      ⟨some 23, .bin .leq (.t 22) (.c (.int .u8 122)), (some (21, true))⟩,
      ⟨some 24, .pick (.t 21) (.t 23) (.c (.bool false)), none⟩,
      ⟨some 25, .not (.t 24), none⟩,
      ⟨some 26, .mov (.t 25), none⟩,
      ⟨some 27, .mov (.t 10), (some (26, true))⟩,
      ⟨some 28, .call 226 [.t 27], (some (26, true))⟩,
      ⟨some 29, .not (.t 28), (some (26, true))⟩,
      ⟨some 30, .pick (.t 26) (.t 29) (.c (.bool false)), none⟩,
      ⟨some 31, .mov (.t 30), none⟩,
      ⟨some 32, .mov (.t 1), (some (31, true))⟩,
      ⟨some 33, .mov (.t 10), (some (31, true))⟩,
      ⟨some 34, .call 190 [.t 32, .t 33], (some (31, true))⟩,
      ⟨some 35, .bin .lss (.t 34) (.c (.int .i64 0)), (some (31, true))⟩,
      ⟨some 36, .pick (.t 31) (.t 35) (.c (.bool false)), none⟩])
    (.cond (.t 36) (.seq (.reg [⟨some 8, .mov (.c (.bool false)), none⟩])
    .ret) .skip)))))
    (.reg [⟨some 37, .bin .add (.t 13) (.c (.int .i64 1)), none⟩,
      ⟨some 13, .mov (.t 37), none⟩]))))
def ir_thread_all : IC :=
  (.seq (.reg [⟨some 8, .mov (.c (.bool false)), none⟩])
    (.seq (.seq (.reg [⟨some 11, .mov (.t 0), none⟩,
      ⟨some 12, .sln (.t 11), none⟩,
      ⟨some 13, .mov (.c (.int .i64 0)), none⟩])
    (.block 0 (.loop ir_thread_all_L0)))
    (.seq (.reg [⟨some 38, .mov (.t 0), none⟩,
      ⟨some 39, .sln (.t 38), none⟩,
      ⟨some 40, .mov (.t 2), none⟩,
      ⟨some 41, .mov (.t 3), none⟩,
      ⟨some 42, .call 133 [.t 39, .t 40, .t 41], none⟩,
      ⟨some 8, .mov (.t 42), none⟩])
    .ret)))
def rs_thread_all : List IRes := [.t 8]
theorem ck_thread_all : chkF Tryz.prog Tryz.f151 ir_thread_all rs_thread_all 43 = true := by kernel_rfl
/- paperchase/thread.IsDomain -/
def ir_thread_IsDomain_L0 : IC :=
  (.seq (.reg [⟨some 11, .bin .lss (.t 10) (.t 9), none⟩])
    (.seq (.cond (.t 11) .skip (.exit 0))
    (.seq (.block 1 (.seq (.reg [⟨some 12, .ixa 1 (.t 8) (.t 10), none⟩,
      ⟨some 13, .ld 1 false (.t 12), none⟩,
      ⟨some 5, .mov (.t 13), none⟩])
    (.seq (.reg [⟨some 14, .mov (.t 5), none⟩,
      ⟨some 15, .call 151 [.t 14, .c (.str [45]), .c (.int .i64 1), .c (.int .i64 30)], none⟩,
      ⟨some 16, .not (.t 15), none⟩])
    (.cond (.t 16) (.seq (.reg [⟨some 2, .mov (.c (.bool false)), none⟩])
    .ret) .skip))))
    (.reg [⟨some 17, .bin .add (.t 10) (.c (.int .i64 1)), none⟩,
      ⟨some 10, .mov (.t 17), none⟩]))))
def ir_thread_IsDomain : IC :=
  (.seq (.reg [⟨some 2, .mov (.c (.bool false)), none⟩])
    (.seq (.reg [⟨some 6, .mov (.t 0), none⟩,
      ⟨some 7, .call 85 [.t 6, .c (.str [46])], none⟩,
      ⟨some 3, .mov (.t 7), none⟩])
    (.seq (.seq (.reg [⟨some 8, .mov (.t 3), none⟩,
      ⟨some 9, .len (.t 8), none⟩,
      ⟨some 10, .mov (.c (.int .i64 0)), none⟩])
    (.block 0 (.loop ir_thread_IsDomain_L0)))
    (.seq (.reg [⟨some 18, .mov (.t 3), none⟩,
      ⟨some 19, .len (.t 18), none⟩,
      ⟨some 20, .bin .gtr (.t 19) (.c (.int .i64 1)), none⟩,
      ⟨some 2, .mov (.t 20), none⟩])
    .ret))))
def rs_thread_IsDomain : List IRes := [.t 2]
theorem ck_thread_IsDomain : chkF Tryz.prog Tryz.f152 ir_thread_IsDomain rs_thread_IsDomain 21 = true := by kernel_rfl
/- paperchase/thread.IsMail -/
def ir_thread_IsMail : IC :=
  (.seq (.reg [⟨some 2, .mov (.c (.bool false)), none⟩])
    (.seq (.reg [⟨some 7, .mov (.t 0), none⟩,
      ⟨some 8, .call 83 [.t 7, .c (.str [64])], none⟩,
      ⟨some 6, .mov (.t 8), none⟩,
      ⟨some 9, .ext 0 (.t 6), none⟩,
      ⟨some 10, .ext 1 (.t 6), none⟩,
      ⟨some 11, .ext 2 (.t 6), none⟩,
      ⟨some 3, .mov (.t 9), none⟩,
      ⟨some 4, .mov (.t 10), none⟩,
      ⟨some 5, .mov (.t 11), none⟩])
    (.seq (.seq (.reg [⟨some 12, .mov (.t 5), none⟩,
      ⟨some 13, .not (.t 12), none⟩,
      ⟨some 14, .mov (.t 13), none⟩,
      ⟨some 15, .mov (.t 0), (some (14, false))⟩,
      ⟨some 16, .sln (.t 15), (some (14, false))⟩,
      ⟨some 17, .bin .gtr (.t 16) (.c (.int .i64 80)), (some (14, false))⟩,
      ⟨some 18, .pick (.t 14) (.c (.bool true)) (.t 17), none⟩,
      ⟨some 19, .mov (.t 18), none⟩,
      ⟨some 20, .mov (.t 3), (some (19, false))⟩,
      ⟨some 21, .call 151 [.t 20, .c (.str [46, 45, 95, 43]), .c (.int .i64 1), .c (.int .i64 40)], (some (19, false))⟩,
      ⟨some 22, .not (.t 21), (some (19, false))⟩,
      ⟨some 23, .pick (.t 19) (.c (.bool true)) (.t 22), none⟩])
    (.cond (.t 23) (.seq (.reg [⟨some 2, .mov (.c (.bool false)), none⟩])
    .ret) .skip))
    (.seq (.reg [⟨some 24, .mov (.t 4), none⟩,
      ⟨some 25, .call 152 [.t 24], none⟩,
      ⟨some 2, .mov (.t 25), none⟩])
    .ret))))
def rs_thread_IsMail : List IRes := [.t 2]
theorem ck_thread_IsMail : chkF Tryz.prog Tryz.f75 ir_thread_IsMail rs_thread_IsMail 26 = true := by kernel_rfl
/- paperchase/chaseref1.MailOf -/
def ir_chaseref1_MailOf_L0 : IC :=
  (.seq (.reg [⟨some 42, .bin .lss (.t 41) (.t 40), none⟩])
    (.seq (.cond (.t 42) .skip (.exit 0))
    (.seq (.block 1 (.seq (.reg [⟨some 43, .ixa 1 (.t 39) (.t 41), none⟩,
      ⟨some 44, .ld 1 false (.t 43), none⟩,
      ⟨some 8, .mov (.t 44), none⟩])
    (.seq (.reg [⟨some 45, .mov (.t 8), none⟩,
      ⟨some 46, .sln (.t 45), none⟩,
      ⟨some 47, .bin .lss (.t 46) (.c (.int .i64 1)), none⟩,
      ⟨some 48, .mov (.t 47), none⟩,
      ⟨some 49, .mov (.t 8), (some (48, false))⟩,
      ⟨some 50, .sln (.t 49), (some (48, false))⟩,
      ⟨some 51, .bin .gtr (.t 50) (.c (.int .i64 30)), (some (48, false))⟩,
      ⟨some 52, .pick (.t 48) (.c (.bool true)) (.t 51), none⟩,
      ⟨some 53, .mov (.t 52), none⟩,
      ⟨some 54, .mov (.t 8), (some (53, false))⟩,
      ⟨some 55, .call 84 [.t 54, .c (.str [97, 98, 99, 100, 101, 102, 103, 104, 105, 106, 107, 108, 109, 110, 111, 112, 113, 114, 115, 116, 117, 118, 119, 120, 121, 122, 48, 49, 50, 51, 52, 53, 54, 55, 56, 57, 45])], (some (53, false))⟩,
      ⟨some 56, .not (.t 55), (some (53, false))⟩,
      ⟨some 57, .pick (.t 53) (.c (.bool true)) (.t 56), none⟩])
    (.cond (.t 57) (.seq (.reg [⟨some 2, .mov (.c (.bool false)), none⟩])
    .ret) .skip))))
    (.reg [⟨some 58, .bin .add (.t 41) (.c (.int .i64 1)), none⟩,
      ⟨some 41, .mov (.t 58), none⟩]))))
def ir_chaseref1_MailOf : IC :=
  (.seq (.reg [⟨some 2, .mov (.c (.bool false)), none⟩])
    (.seq (.reg [⟨some 10, .mov (.t 0), none⟩,
      ⟨some 11, .call 83 [.t 10, .c (.str [64])], none⟩,
      ⟨some 9, .mov (.t 11), none⟩,
      ⟨some 12, .ext 0 (.t 9), none⟩,
      ⟨some 13, .ext 1 (.t 9), none⟩,
      ⟨some 14, .ext 2 (.t 9), none⟩,
      ⟨some 3, .mov (.t 12), none⟩,
      ⟨some 4, .mov (.t 13), none⟩,
      ⟨some 5, .mov (.t 14), none⟩])
    (.seq (.seq (.reg [⟨some 15, .mov (.t 5), none⟩,
      ⟨some 16, .not (.t 15), none⟩,
      ⟨some 17, .mov (.t 16), none⟩,
      ⟨some 18, .mov (.t 0), (some (17, false))⟩,
      ⟨some 19, .sln (.t 18), (some (17, false))⟩,
      ⟨some 20, .bin .gtr (.t 19) (.c (.int .i64 80)), (some (17, false))⟩,
      ⟨some 21, .pick (.t 17) (.c (.bool true)) (.t 20), none⟩,
      ⟨some 22, .mov (.t 21), none⟩,
      ⟨some 23, .mov (.t 3), (some (22, false))⟩,
      ⟨some 24, .sln (.t 23), (some (22, false))⟩,
      ⟨some 25, .bin .lss (.t 24) (.c (.int .i64 1)), (some (22, false))⟩,
      ⟨some 26, .pick (.t 22) (.c (.bool true)) (.t 25), none⟩,
      ⟨some 27, .mov (.t 26), none⟩,
      ⟨some 28, .mov (.t 3), (some (27, false))⟩,
      ⟨some 29, .sln (.t 28), (some (27, false))⟩,
      ⟨some 30, .bin .gtr (.t 29) (.c (.int .i64 40)), (some (27, false))⟩,
      ⟨some 31, .pick (.t 27) (.c (.bool true)) (.t 30), none⟩,
      ⟨some 32, .mov (.t 31), none⟩,
      ⟨some 33, .mov (.t 3), (some (32, false))⟩,
      ⟨some 34, .call 84 [.t 33, .c (.str [97, 98, 99, 100, 101, 102, 103, 104, 105, 106, 107, 108, 109, 110, 111, 112, 113, 114, 115, 116, 117, 118, 119, 120, 121, 122, 48, 49, 50, 51, 52, 53, 54, 55, 56, 57, 46, 45, 95, 43])], (some (32, false))⟩,
      ⟨some 35, .not (.t 34), (some (32, false))⟩,
      ⟨some 36, .pick (.t 32) (.c (.bool true)) (.t 35), none⟩])
    (.cond (.t 36) (.seq (.reg [⟨some 2, .mov (.c (.bool false)), none⟩])
    .ret) .skip))
    (.seq (.reg [⟨some 37, .mov (.t 4), none⟩,
      ⟨some 38, .call 85 [.t 37, .c (.str [46])], none⟩,
      ⟨some 6, .mov (.t 38), none⟩])
    (.seq (.seq (.reg [⟨some 39, .mov (.t 6), none⟩,
      ⟨some 40, .len (.t 39), none⟩,
      ⟨some 41, .mov (.c (.int .i64 0)), none⟩])
    (.block 0 (.loop ir_chaseref1_MailOf_L0)))
    (.seq (.reg [⟨some 59, .mov (.t 6), none⟩,
      ⟨some 60, .len (.t 59), none⟩,
      ⟨some 61, .bin .gtr (.t 60) (.c (.int .i64 1)), none⟩,
      ⟨some 2, .mov (.t 61), none⟩])
    .ret))))))
def rs_chaseref1_MailOf : List IRes := [.t 2]
theorem ck_chaseref1_MailOf : chkF Tryz.prog Tryz.f17 ir_chaseref1_MailOf rs_chaseref1_MailOf 62 = true := by kernel_rfl


def inB (o : List UInt8) (c : UInt8) : Bool := ((decide (97 ≤ (c.toNat : Int)) && decide ((c.toNat : Int) ≤ 122)) || digB c) || decide (0 ≤ Lib.indexByte o c)
def allB (s o : List UInt8) : Bool := s.all (inB o)
def domF (s : List UInt8) : Bool := (splF s 46).all (fun x => allB x [45] && inE x.length 1 30) && decide (1 < (splF s 46).length)
def mailF (s : List UInt8) : Bool := (((cutF s [64]).2.2 && decide ((s.length : Int) ≤ 80)) && (allB (cutF s [64]).1 [46, 45, 95, 43] && inE (cutF s [64]).1.length 1 40)) && domF (cutF s [64]).2.1
theorem all_snoc {l : List UInt8} {p : UInt8 → Bool} {k : Nat} {c : UInt8} (h : l[k]? = some c) : (l.take (k + 1)).all p = ((l.take k).all p && p c) := all_take h
theorem all_false {α : Type} {l : List α} {p : α → Bool} {k : Nat} {c : α} (h : l[k]? = some c) (hp : p c = false) : l.all p = false := by
  rw [List.all_eq_false]
  exact ⟨c, List.mem_of_getElem? h, by simp [hp]⟩
section
variable {E : Envt}
theorem all_ok (s o : List UInt8) (lo hi : Int) (hs : s.length ≤ 1000000000) : PCall Tryz.prog E 151 [.str s, .str o, int lo, int hi] (· = .bool (allB s o && inE s.length lo hi)) := by
  refine pcallF mixed Tryz.func151 ck_thread_all ?_
  simp only [a0, l0, OS.ao, List.map_cons, List.map_nil, List.length_cons, List.length_nil, List.cons_append, List.nil_append, Nat.reduceSub, Nat.reduceAdd, List.replicate_succ, List.replicate_zero, ir_thread_all, rs_thread_all, ZZ, YY, Zd, ite_true, ite_false, forall_const, reduceCtorEq, Nat.reduceAdd, Nat.reduceMul, Nat.reduceLeDiff, Nat.reduceLT, Nat.reduceEqDiff]
  refine loop_intro (fun n fr L => ∃ (k : Nat), k ≤ s.length ∧ n = s.length - k ∧ ((s.take k).all (inB o) = true) ∧ fr = [.p (.str s), .p (.str o), .p (int lo), .p (int hi), .any, .any, .any, .any, .any, .any, .any, .any, .p (int (s.length : Nat)), .p (int (k : Nat)), .any, .any, .any, .any, .any, .any, .any, .any, .any, .any, .any, .any, .any, .any, .any, .any, .any, .any, .any, .any, .any, .any, .any, .any, .any, .any, .any, .any, .any] ∧ L = []) (s.length) [.p (.str s), .p (.str o), .p (int lo), .p (int hi), .any, .any, .any, .any, .any, .any, .any, .any, .p (int (s.length : Nat)), .p (int (0 : Nat)), .any, .any, .any, .any, .any, .any, .any, .any, .any, .any, .any, .any, .any, .any, .any, .any, .any, .any, .any, .any, .any, .any, .any, .any, .any, .any, .any, .any, .any] [] (by (simp only [ZZ, YY, Zd, ite_true, ite_false, forall_const, reduceCtorEq, Nat.reduceAdd, Nat.reduceMul, Nat.reduceLeDiff, Nat.reduceLT, Nat.reduceEqDiff]; try trivial)) (by (simp only [ZZ, YY, Zd, ite_true, ite_false, forall_const, reduceCtorEq, Nat.reduceAdd, Nat.reduceMul, Nat.reduceLeDiff, Nat.reduceLT, Nat.reduceEqDiff]; try trivial)) ⟨0, by omega, by omega, by simp, rfl, rfl⟩ ?_
  rintro n fr L ⟨k, hk, rfl, ha, rfl, rfl⟩
  simp only [ir_thread_all_L0, ZZ, YY, Zd, ite_true, ite_false, forall_const, reduceCtorEq, Nat.reduceAdd, Nat.reduceMul, Nat.reduceLeDiff, Nat.reduceLT, Nat.reduceEqDiff]
  refine br ?_ ?_
  · intro h
    have hlt : k < s.length := by have := of_decide_eq_true h; omega
    obtain ⟨c, hc⟩ : ∃ c, s[k]? = some c := ⟨_, List.getElem?_eq_getElem hlt⟩
    have hg : s.getD k 0 = c := by simp [List.getD, hc]
    simp only [ZZ, YY, Zd, ite_true, ite_false, forall_const, reduceCtorEq, Nat.reduceAdd, Nat.reduceMul, Nat.reduceLeDiff, Nat.reduceLT, Nat.reduceEqDiff, hg]
    ((repeat' (with_reducible apply And.intro)) <;> try ((first | first | assumption | trivial | exact (fun hq => by rw [hq]; rfl) | exact i64_of (by omega) (by omega) | omega | (simp; done) | (simp; omega) | (intro hsc; have hs0 := hsc; (try have hsd := of_decide_eq_true hsc); (try simp only [Bool.not_eq_true', Bool.or_eq_false_iff, Bool.and_eq_true, Bool.or_eq_true, decide_eq_true_eq, decide_eq_false_iff_not] at hsc); (repeat' (with_reducible apply And.intro)) <;> (first | assumption | trivial | exact (fun hq => by rw [hq]; rfl) | exact i64_of (by omega) (by omega) | omega | (simp; done) | (simp; omega) | (intro hse; simp [hse, hs0]; done) | (intro hse; simp only [hse, hs0, Bool.true_and, Bool.and_true, Bool.not_false, Bool.not_true, Bool.and_self]; done))))))
    refine useG (fun _ => Digit_ok c) rfl (.inl rfl) ?_
    simp only [ZZ, YY, Zd, ite_true, ite_false, forall_const, reduceCtorEq, Nat.reduceAdd, Nat.reduceMul, Nat.reduceLeDiff, Nat.reduceLT, Nat.reduceEqDiff]
    ((repeat' (with_reducible apply And.intro)) <;> try ((first | first | assumption | trivial | exact (fun hq => by rw [hq]; rfl) | exact i64_of (by omega) (by omega) | omega | (simp; done) | (simp; omega) | (intro hsc; have hs0 := hsc; (try have hsd := of_decide_eq_true hsc); (try simp only [Bool.not_eq_true', Bool.or_eq_false_iff, Bool.and_eq_true, Bool.or_eq_true, decide_eq_true_eq, decide_eq_false_iff_not] at hsc); (repeat' (with_reducible apply And.intro)) <;> (first | assumption | trivial | exact (fun hq => by rw [hq]; rfl) | exact i64_of (by omega) (by omega) | omega | (simp; done) | (simp; omega) | (intro hse; simp [hse, hs0]; done) | (intro hse; simp only [hse, hs0, Bool.true_and, Bool.and_true, Bool.not_false, Bool.not_true, Bool.and_self]; done))))))
    refine useG (fun _ => IndexByte_ok o c) rfl (.inl rfl) ?_
    simp only [ZZ, YY, Zd, ite_true, ite_false, forall_const, reduceCtorEq, Nat.reduceAdd, Nat.reduceMul, Nat.reduceLeDiff, Nat.reduceLT, Nat.reduceEqDiff]
    ((repeat' (with_reducible apply And.intro)) <;> try ((first | first | assumption | trivial | exact (fun hq => by rw [hq]; rfl) | exact i64_of (by omega) (by omega) | omega | (simp; done) | (simp; omega) | (intro hsc; have hs0 := hsc; (try have hsd := of_decide_eq_true hsc); (try simp only [Bool.not_eq_true', Bool.or_eq_false_iff, Bool.and_eq_true, Bool.or_eq_true, decide_eq_true_eq, decide_eq_false_iff_not] at hsc); (repeat' (with_reducible apply And.intro)) <;> (first | assumption | trivial | exact (fun hq => by rw [hq]; rfl) | exact i64_of (by omega) (by omega) | omega | (simp; done) | (simp; omega) | (intro hse; simp [hse, hs0]; done) | (intro hse; simp only [hse, hs0, Bool.true_and, Bool.and_true, Bool.not_false, Bool.not_true, Bool.and_self]; done))))))
    have hB : (((!(decide (97 ≤ (c.toNat : Int)) && decide ((c.toNat : Int) ≤ 122)) && !digB c)) && decide (Lib.indexByte o c < 0)) = !inB o c := by
      unfold inB
      have : decide (Lib.indexByte o c < 0) = !decide (0 ≤ Lib.indexByte o c) := by
        by_cases h : 0 ≤ Lib.indexByte o c <;> simp [h] <;> omega
      rw [this]
      cases (decide (97 ≤ (c.toNat : Int)) && decide ((c.toNat : Int) ≤ 122)) <;> cases digB c <;> simp
    refine br ?_ ?_
    · intro hx
      have hf : inB o c = false := by rw [hB] at hx; simpa using hx
      simp only [ZZ, YY, Zd, ite_true, ite_false, forall_const, reduceCtorEq, Nat.reduceAdd, Nat.reduceMul, Nat.reduceLeDiff, Nat.reduceLT, Nat.reduceEqDiff]
      rw [allB, all_false hc hf]
      rfl
    · intro hx
      have hf : inB o c = true := by rw [hB] at hx; simpa using hx
      simp only [ZZ, YY, Zd, ite_true, ite_false, forall_const, reduceCtorEq, Nat.reduceAdd, Nat.reduceMul, Nat.reduceLeDiff, Nat.reduceLT, Nat.reduceEqDiff]
      refine ⟨i64_of (by omega) (by omega), ?_⟩
      refine end_round (s.length - (k + 1)) [.p (.str s), .p (.str o), .p (int lo), .p (int hi), .any, .any, .any, .any, .any, .any, .any, .any, .p (int (s.length : Nat)), .p (int ((k + 1) : Nat)), .any, .any, .any, .any, .any, .any, .any, .any, .any, .any, .any, .any, .any, .any, .any, .any, .any, .any, .any, .any, .any, .any, .any, .any, .any, .any, .any, .any, .any] [] (by omega) (by (simp only [ZZ, YY, Zd, ite_true, ite_false, forall_const, reduceCtorEq, Nat.reduceAdd, Nat.reduceMul, Nat.reduceLeDiff, Nat.reduceLT, Nat.reduceEqDiff]; try trivial)) (by (simp only [ZZ, YY, Zd, ite_true, ite_false, forall_const, reduceCtorEq, Nat.reduceAdd, Nat.reduceMul, Nat.reduceLeDiff, Nat.reduceLT, Nat.reduceEqDiff]; try trivial)) ⟨k + 1, by omega, rfl, by rw [all_snoc hc, ha, hf]; rfl, rfl, rfl⟩
  · intro h
    have hge : k = s.length := by have := of_decide_eq_false h; omega
    subst hge
    rw [List.take_length] at ha
    simp only [ZZ, YY, Zd, ite_true, ite_false, forall_const, reduceCtorEq, Nat.reduceAdd, Nat.reduceMul, Nat.reduceLeDiff, Nat.reduceLT, Nat.reduceEqDiff]
    refine use1 (In_ok _ _ _) rfl (.inl rfl) ?_
    simp only [ZZ, YY, Zd, ite_true, ite_false, forall_const, reduceCtorEq, Nat.reduceAdd, Nat.reduceMul, Nat.reduceLeDiff, Nat.reduceLT, Nat.reduceEqDiff]
    rw [allB, ha]
    rfl
end
theorem IsDomain_ok (s : List UInt8) (hs : s.length ≤ 1000000000) : PCall Tryz.prog E0 152 [.str s] (· = .bool (domF s)) := by
  refine pcallF mixed Tryz.func152 ck_thread_IsDomain ?_
  simp only [a0, l0, OS.ao, List.map_cons, List.map_nil, List.length_cons, List.length_nil, List.cons_append, List.nil_append, Nat.reduceSub, Nat.reduceAdd, List.replicate_succ, List.replicate_zero, ir_thread_IsDomain, rs_thread_IsDomain, ZZ, YY, Zd, ite_true, ite_false, forall_const, reduceCtorEq, Nat.reduceAdd, Nat.reduceMul, Nat.reduceLeDiff, Nat.reduceLT, Nat.reduceEqDiff]
  refine use1 (Split_ok s 46 hs) rfl (.inl rfl) ?_
  rw [strs_eq]
  have hD : domF s = ((splF s 46).all (fun x => allB x [45] && inE x.length 1 30) && decide (1 < (splF s 46).length)) := rfl
  rw [hD]
  have hmem := splF_mem s 46
  have hlen := splF_len s 46
  generalize splF s 46 = ls at *
  simp only [ZZ, YY, Zd, ite_true, ite_false, forall_const, reduceCtorEq, Nat.reduceAdd, Nat.reduceMul, Nat.reduceLeDiff, Nat.reduceLT, Nat.reduceEqDiff, strE_len]
  refine loop_intro (fun n fr L => ∃ (k : Nat), k ≤ ls.length ∧ n = ls.length - k ∧ ((ls.take k).all (fun x => allB x [45] && inE x.length 1 30) = true) ∧ fr = [.any, .any, .any, .p (.sl 1 (strE ls)), .any, .any, .any, .any, .p (.sl 1 (strE ls)), .p (int (ls.length : Nat)), .p (int (k : Nat)), .any, .any, .any, .any, .any, .any, .any, .any, .any, .any] ∧ L = []) (ls.length) [.any, .any, .any, .p (.sl 1 (strE ls)), .any, .any, .any, .any, .p (.sl 1 (strE ls)), .p (int (ls.length : Nat)), .p (int (0 : Nat)), .any, .any, .any, .any, .any, .any, .any, .any, .any, .any] [] (by simp only [ZZ, YY, Zd, ite_true, ite_false, forall_const, reduceCtorEq, Nat.reduceAdd, Nat.reduceMul, Nat.reduceLeDiff, Nat.reduceLT, Nat.reduceEqDiff, strE_len]; try trivial) (by (simp only [ZZ, YY, Zd, ite_true, ite_false, forall_const, reduceCtorEq, Nat.reduceAdd, Nat.reduceMul, Nat.reduceLeDiff, Nat.reduceLT, Nat.reduceEqDiff]; try trivial)) ⟨0, by omega, by omega, by simp, rfl, rfl⟩ ?_
  rintro n fr L ⟨k, hk, rfl, ha, rfl, rfl⟩
  simp only [ir_thread_IsDomain_L0, ZZ, YY, Zd, ite_true, ite_false, forall_const, reduceCtorEq, Nat.reduceAdd, Nat.reduceMul, Nat.reduceLeDiff, Nat.reduceLT, Nat.reduceEqDiff]
  refine br ?_ ?_
  · intro h
    have hlt : k < ls.length := by have := of_decide_eq_true h; omega
    obtain ⟨x, hx⟩ : ∃ x, ls[k]? = some x := ⟨_, List.getElem?_eq_getElem hlt⟩
    have hg := strE_get hx
    have hxl := hmem x (List.mem_of_getElem? hx)
    simp only [ZZ, YY, Zd, ite_true, ite_false, forall_const, reduceCtorEq, Nat.reduceAdd, Nat.reduceMul, Nat.reduceLeDiff, Nat.reduceLT, Nat.reduceEqDiff, hg, strE_len]
    ((repeat' (with_reducible apply And.intro)) <;> try ((first | first | assumption | trivial | exact (fun hq => by rw [hq]; rfl) | exact i64_of (by omega) (by omega) | omega | (simp; done) | (simp; omega) | (intro hsc; have hs0 := hsc; (try have hsd := of_decide_eq_true hsc); (try simp only [Bool.not_eq_true', Bool.or_eq_false_iff, Bool.and_eq_true, Bool.or_eq_true, decide_eq_true_eq, decide_eq_false_iff_not] at hsc); (repeat' (with_reducible apply And.intro)) <;> (first | assumption | trivial | exact (fun hq => by rw [hq]; rfl) | exact i64_of (by omega) (by omega) | omega | (simp; done) | (simp; omega) | (intro hse; simp [hse, hs0]; done) | (intro hse; simp only [hse, hs0, Bool.true_and, Bool.and_true, Bool.not_false, Bool.not_true, Bool.and_self]; done))))))
    refine use1 (all_ok x [45] 1 30 (by omega)) rfl (.inl rfl) ?_
    simp only [ZZ, YY, Zd, ite_true, ite_false, forall_const, reduceCtorEq, Nat.reduceAdd, Nat.reduceMul, Nat.reduceLeDiff, Nat.reduceLT, Nat.reduceEqDiff]
    refine br ?_ ?_
    · intro hf
      have hf : (allB x [45] && inE x.length 1 30) = false := by rwa [Bool.not_eq_true'] at hf
      simp only [ZZ, YY, Zd, ite_true, ite_false, forall_const, reduceCtorEq, Nat.reduceAdd, Nat.reduceMul, Nat.reduceLeDiff, Nat.reduceLT, Nat.reduceEqDiff]
      rw [all_false hx hf]
      rfl
    · intro hf
      have hf : (allB x [45] && inE x.length 1 30) = true := by rwa [Bool.not_eq_false'] at hf
      simp only [ZZ, YY, Zd, ite_true, ite_false, forall_const, reduceCtorEq, Nat.reduceAdd, Nat.reduceMul, Nat.reduceLeDiff, Nat.reduceLT, Nat.reduceEqDiff]
      refine ⟨i64_of (by omega) (by omega), ?_⟩
      refine end_round (ls.length - (k + 1)) [.any, .any, .any, .p (.sl 1 (strE ls)), .any, .any, .any, .any, .p (.sl 1 (strE ls)), .p (int (ls.length : Nat)), .p (int ((k + 1) : Nat)), .any, .any, .any, .any, .any, .any, .any, .any, .any, .any] [] (by omega) (by (simp only [ZZ, YY, Zd, ite_true, ite_false, forall_const, reduceCtorEq, Nat.reduceAdd, Nat.reduceMul, Nat.reduceLeDiff, Nat.reduceLT, Nat.reduceEqDiff]; try trivial)) (by (simp only [ZZ, YY, Zd, ite_true, ite_false, forall_const, reduceCtorEq, Nat.reduceAdd, Nat.reduceMul, Nat.reduceLeDiff, Nat.reduceLT, Nat.reduceEqDiff]; try trivial)) ⟨k + 1, by omega, rfl, by rw [List.take_succ_eq_append_getElem hlt, List.all_append, ha, (List.getElem?_eq_some_iff.1 hx).2]; simpa using hf, rfl, rfl⟩
  · intro h
    have hge : k = ls.length := by have := of_decide_eq_false h; omega
    subst hge
    rw [List.take_length] at ha
    simp only [ZZ, YY, Zd, ite_true, ite_false, forall_const, reduceCtorEq, Nat.reduceAdd, Nat.reduceMul, Nat.reduceLeDiff, Nat.reduceLT, Nat.reduceEqDiff, strE_len]
    rw [ha]
    simp
    omega
theorem IsMail_ok (s : List UInt8) (hs : s.length ≤ 1000000000) : PCall Tryz.prog E0 75 [.str s] (· = .bool (mailF s)) := by
  refine pcallF mixed Tryz.func75 ck_thread_IsMail ?_
  simp only [a0, l0, OS.ao, List.map_cons, List.map_nil, List.length_cons, List.length_nil, List.cons_append, List.nil_append, Nat.reduceSub, Nat.reduceAdd, List.replicate_succ, List.replicate_zero, ir_thread_IsMail, rs_thread_IsMail, ZZ, YY, Zd, ite_true, ite_false, forall_const, reduceCtorEq, Nat.reduceAdd, Nat.reduceMul, Nat.reduceLeDiff, Nat.reduceLT, Nat.reduceEqDiff]
  refine use1 (Cut_ok s [64] hs) rfl (.inl rfl) ?_
  have hc := cutF_len s [64]
  unfold mailF
  generalize cutF s [64] = q at *
  simp only [ZZ, YY, Zd, ite_true, ite_false, forall_const, reduceCtorEq, Nat.reduceAdd, Nat.reduceMul, Nat.reduceLeDiff, Nat.reduceLT, Nat.reduceEqDiff]
  ((repeat' (with_reducible apply And.intro)) <;> try ((first | first | assumption | trivial | exact (fun hq => by rw [hq]; rfl) | exact i64_of (by omega) (by omega) | omega | (simp; done) | (simp; omega) | (intro hsc; have hs0 := hsc; (try have hsd := of_decide_eq_true hsc); (try simp only [Bool.not_eq_true', Bool.or_eq_false_iff, Bool.and_eq_true, Bool.or_eq_true, decide_eq_true_eq, decide_eq_false_iff_not] at hsc); (repeat' (with_reducible apply And.intro)) <;> (first | assumption | trivial | exact (fun hq => by rw [hq]; rfl) | exact i64_of (by omega) (by omega) | omega | (simp; done) | (simp; omega) | (intro hse; simp [hse, hs0]; done) | (intro hse; simp only [hse, hs0, Bool.true_and, Bool.and_true, Bool.not_false, Bool.not_true, Bool.and_self]; done))))))
  refine useG (fun _ => all_ok q.1 [46, 45, 95, 43] 1 40 (by omega)) rfl (.inl rfl) ?_
  simp only [ZZ, YY, Zd, ite_true, ite_false, forall_const, reduceCtorEq, Nat.reduceAdd, Nat.reduceMul, Nat.reduceLeDiff, Nat.reduceLT, Nat.reduceEqDiff]
  ((repeat' (with_reducible apply And.intro)) <;> try ((first | first | assumption | trivial | exact (fun hq => by rw [hq]; rfl) | exact i64_of (by omega) (by omega) | omega | (simp; done) | (simp; omega) | (intro hsc; have hs0 := hsc; (try have hsd := of_decide_eq_true hsc); (try simp only [Bool.not_eq_true', Bool.or_eq_false_iff, Bool.and_eq_true, Bool.or_eq_true, decide_eq_true_eq, decide_eq_false_iff_not] at hsc); (repeat' (with_reducible apply And.intro)) <;> (first | assumption | trivial | exact (fun hq => by rw [hq]; rfl) | exact i64_of (by omega) (by omega) | omega | (simp; done) | (simp; omega) | (intro hse; simp [hse, hs0]; done) | (intro hse; simp only [hse, hs0, Bool.true_and, Bool.and_true, Bool.not_false, Bool.not_true, Bool.and_self]; done))))))
  refine br ?_ ?_
  · intro h
    simp only [ZZ, YY, Zd, ite_true, ite_false, forall_const, reduceCtorEq, Nat.reduceAdd, Nat.reduceMul, Nat.reduceLeDiff, Nat.reduceLT, Nat.reduceEqDiff]
    congr 1
    symm
    cases h1 : q.2.2 <;> cases h2 : (allB q.1 [46, 45, 95, 43] && inE q.1.length 1 40) <;> simp [h1, h2] at h ⊢
    omega
  · intro h
    simp only [ZZ, YY, Zd, ite_true, ite_false, forall_const, reduceCtorEq, Nat.reduceAdd, Nat.reduceMul, Nat.reduceLeDiff, Nat.reduceLT, Nat.reduceEqDiff]
    refine use1 (IsDomain_ok q.2.1 (by omega)) rfl (.inl rfl) ?_
    simp only [ZZ, YY, Zd, ite_true, ite_false, forall_const, reduceCtorEq, Nat.reduceAdd, Nat.reduceMul, Nat.reduceLeDiff, Nat.reduceLT, Nat.reduceEqDiff]
    congr 1
    cases h1 : q.2.2 <;> cases h2 : (allB q.1 [46, 45, 95, 43] && inE q.1.length 1 40) <;> simp [h1, h2] at h ⊢
    omega
def nsL : List UInt8 := smallL ++ [48, 49, 50, 51, 52, 53, 54, 55, 56, 57]
theorem made_loc (s : List UInt8) : madeF s (nsL ++ [46, 45, 95, 43]) = allB s [46, 45, 95, 43] := by
  rw [madeF_all, allB]
  congr 1
  funext c
  exact all256 (p := fun c => (nsL ++ [46, 45, 95, 43]).contains c = inB [46, 45, 95, 43] c) (by decide +kernel) c
theorem made_lab (s : List UInt8) : madeF s (nsL ++ [45]) = allB s [45] := by
  rw [madeF_all, allB]
  congr 1
  funext c
  exact all256 (p := fun c => (nsL ++ [45]).contains c = inB [45] c) (by decide +kernel) c
theorem MailOf_ok (s : List UInt8) (hs : s.length ≤ 1000000000) : PCall Tryz.prog E0 17 [.str s] (· = .bool (mailF s)) := by
  refine pcallF mixed Tryz.func17 ck_chaseref1_MailOf ?_
  simp only [a0, l0, OS.ao, List.map_cons, List.map_nil, List.length_cons, List.length_nil, List.cons_append, List.nil_append, Nat.reduceSub, Nat.reduceAdd, List.replicate_succ, List.replicate_zero, ir_chaseref1_MailOf, rs_chaseref1_MailOf, ZZ, YY, Zd, ite_true, ite_false, forall_const, reduceCtorEq, Nat.reduceAdd, Nat.reduceMul, Nat.reduceLeDiff, Nat.reduceLT, Nat.reduceEqDiff]
  refine use1 (Cut_ok s [64] hs) rfl (.inl rfl) ?_
  have hc := cutF_len s [64]
  unfold mailF
  generalize cutF s [64] = q at *
  simp only [ZZ, YY, Zd, ite_true, ite_false, forall_const, reduceCtorEq, Nat.reduceAdd, Nat.reduceMul, Nat.reduceLeDiff, Nat.reduceLT, Nat.reduceEqDiff]
  ((repeat' (with_reducible apply And.intro)) <;> try ((first | first | assumption | trivial | exact (fun hq => by rw [hq]; rfl) | exact i64_of (by omega) (by omega) | omega | (simp; done) | (simp; omega) | (intro hsc; have hs0 := hsc; (try have hsd := of_decide_eq_true hsc); (try simp only [Bool.not_eq_true', Bool.or_eq_false_iff, Bool.and_eq_true, Bool.or_eq_true, decide_eq_true_eq, decide_eq_false_iff_not] at hsc); (repeat' (with_reducible apply And.intro)) <;> (first | assumption | trivial | exact (fun hq => by rw [hq]; rfl) | exact i64_of (by omega) (by omega) | omega | (simp; done) | (simp; omega) | (intro hse; simp [hse, hs0]; done) | (intro hse; simp only [hse, hs0, Bool.true_and, Bool.and_true, Bool.not_false, Bool.not_true, Bool.and_self]; done))))))
  refine useG (fun _ => made_ok q.1 (nsL ++ [46, 45, 95, 43]) (by omega) (by decide) (by decide)) rfl (.inl rfl) ?_
  rw [made_loc]
  simp only [ZZ, YY, Zd, ite_true, ite_false, forall_const, reduceCtorEq, Nat.reduceAdd, Nat.reduceMul, Nat.reduceLeDiff, Nat.reduceLT, Nat.reduceEqDiff]
  ((repeat' (with_reducible apply And.intro)) <;> try ((first | first | assumption | trivial | exact (fun hq => by rw [hq]; rfl) | exact i64_of (by omega) (by omega) | omega | (simp; done) | (simp; omega) | (intro hsc; have hs0 := hsc; (try have hsd := of_decide_eq_true hsc); (try simp only [Bool.not_eq_true', Bool.or_eq_false_iff, Bool.and_eq_true, Bool.or_eq_true, decide_eq_true_eq, decide_eq_false_iff_not] at hsc); (repeat' (with_reducible apply And.intro)) <;> (first | assumption | trivial | exact (fun hq => by rw [hq]; rfl) | exact i64_of (by omega) (by omega) | omega | (simp; done) | (simp; omega) | (intro hse; simp [hse, hs0]; done) | (intro hse; simp only [hse, hs0, Bool.true_and, Bool.and_true, Bool.not_false, Bool.not_true, Bool.and_self]; done))))))
  refine br ?_ ?_
  · intro h
    simp only [ZZ, YY, Zd, ite_true, ite_false, forall_const, reduceCtorEq, Nat.reduceAdd, Nat.reduceMul, Nat.reduceLeDiff, Nat.reduceLT, Nat.reduceEqDiff]
    congr 1
    symm
    cases h1 : q.2.2 <;> cases h2 : allB q.1 [46, 45, 95, 43] <;> simp [h1, h2, inE] at h ⊢
    omega
  intro h
  have hq : (((q.2.2 && decide ((s.length : Int) ≤ 80)) && (allB q.1 [46, 45, 95, 43] && inE q.1.length 1 40)) && domF q.2.1) = domF q.2.1 := by
    cases h1 : q.2.2 <;> cases h2 : allB q.1 [46, 45, 95, 43] <;> simp [h1, h2, inE] at h ⊢
    omega
  rw [hq]
  simp only [ZZ, YY, Zd, ite_true, ite_false, forall_const, reduceCtorEq, Nat.reduceAdd, Nat.reduceMul, Nat.reduceLeDiff, Nat.reduceLT, Nat.reduceEqDiff]
  refine use1 (Split_ok q.2.1 46 (by omega)) rfl (.inl rfl) ?_
  rw [strs_eq]
  have hD : domF q.2.1 = ((splF q.2.1 46).all (fun x => allB x [45] && inE x.length 1 30) && decide (1 < (splF q.2.1 46).length)) := rfl
  rw [hD]
  have hmem := splF_mem q.2.1 46
  have hlen := splF_len q.2.1 46
  generalize splF q.2.1 46 = ls at *
  simp only [ZZ, YY, Zd, ite_true, ite_false, forall_const, reduceCtorEq, Nat.reduceAdd, Nat.reduceMul, Nat.reduceLeDiff, Nat.reduceLT, Nat.reduceEqDiff, strE_len]
  refine loop_intro (fun n fr L => ∃ (k : Nat), k ≤ ls.length ∧ n = ls.length - k ∧ ((ls.take k).all (fun x => allB x [45] && inE x.length 1 30) = true) ∧ fr = [.any, .any, .any, .any, .any, .any, .p (.sl 1 (strE ls)), .any, .any, .any, .any, .any, .any, .any, .any, .any, .any, .any, .any, .any, .any, .any, .any, .any, .any, .any, .any, .any, .any, .any, .any, .any, .any, .any, .any, .any, .any, .any, .any, .p (.sl 1 (strE ls)), .p (int (ls.length : Nat)), .p (int (k : Nat)), .any, .any, .any, .any, .any, .any, .any, .any, .any, .any, .any, .any, .any, .any, .any, .any, .any, .any, .any, .any] ∧ L = []) (ls.length) [.any, .any, .any, .any, .any, .any, .p (.sl 1 (strE ls)), .any, .any, .any, .any, .any, .any, .any, .any, .any, .any, .any, .any, .any, .any, .any, .any, .any, .any, .any, .any, .any, .any, .any, .any, .any, .any, .any, .any, .any, .any, .any, .any, .p (.sl 1 (strE ls)), .p (int (ls.length : Nat)), .p (int (0 : Nat)), .any, .any, .any, .any, .any, .any, .any, .any, .any, .any, .any, .any, .any, .any, .any, .any, .any, .any, .any, .any] [] (by simp only [ZZ, YY, Zd, ite_true, ite_false, forall_const, reduceCtorEq, Nat.reduceAdd, Nat.reduceMul, Nat.reduceLeDiff, Nat.reduceLT, Nat.reduceEqDiff, strE_len]; try trivial) (by (simp only [ZZ, YY, Zd, ite_true, ite_false, forall_const, reduceCtorEq, Nat.reduceAdd, Nat.reduceMul, Nat.reduceLeDiff, Nat.reduceLT, Nat.reduceEqDiff]; try trivial)) ⟨0, by omega, by omega, by simp, rfl, rfl⟩ ?_
  rintro n fr L ⟨k, hk, rfl, ha, rfl, rfl⟩
  simp only [ir_chaseref1_MailOf_L0, ZZ, YY, Zd, ite_true, ite_false, forall_const, reduceCtorEq, Nat.reduceAdd, Nat.reduceMul, Nat.reduceLeDiff, Nat.reduceLT, Nat.reduceEqDiff]
  refine br ?_ ?_
  · intro h
    have hlt : k < ls.length := by have := of_decide_eq_true h; omega
    obtain ⟨x, hx⟩ : ∃ x, ls[k]? = some x := ⟨_, List.getElem?_eq_getElem hlt⟩
    have hg := strE_get hx
    have hxl := hmem x (List.mem_of_getElem? hx)
    simp only [ZZ, YY, Zd, ite_true, ite_false, forall_const, reduceCtorEq, Nat.reduceAdd, Nat.reduceMul, Nat.reduceLeDiff, Nat.reduceLT, Nat.reduceEqDiff, hg, strE_len]
    ((repeat' (with_reducible apply And.intro)) <;> try ((first | first | assumption | trivial | exact (fun hq => by rw [hq]; rfl) | exact i64_of (by omega) (by omega) | omega | (simp; done) | (simp; omega) | (intro hsc; have hs0 := hsc; (try have hsd := of_decide_eq_true hsc); (try simp only [Bool.not_eq_true', Bool.or_eq_false_iff, Bool.and_eq_true, Bool.or_eq_true, decide_eq_true_eq, decide_eq_false_iff_not] at hsc); (repeat' (with_reducible apply And.intro)) <;> (first | assumption | trivial | exact (fun hq => by rw [hq]; rfl) | exact i64_of (by omega) (by omega) | omega | (simp; done) | (simp; omega) | (intro hse; simp [hse, hs0]; done) | (intro hse; simp only [hse, hs0, Bool.true_and, Bool.and_true, Bool.not_false, Bool.not_true, Bool.and_self]; done))))))
    refine useG (fun _ => made_ok x (nsL ++ [45]) (by omega) (by decide) (by decide)) rfl (.inl rfl) ?_
    rw [made_lab]
    simp only [ZZ, YY, Zd, ite_true, ite_false, forall_const, reduceCtorEq, Nat.reduceAdd, Nat.reduceMul, Nat.reduceLeDiff, Nat.reduceLT, Nat.reduceEqDiff]
    ((repeat' (with_reducible apply And.intro)) <;> try ((first | first | assumption | trivial | exact (fun hq => by rw [hq]; rfl) | exact i64_of (by omega) (by omega) | omega | (simp; done) | (simp; omega) | (intro hsc; have hs0 := hsc; (try have hsd := of_decide_eq_true hsc); (try simp only [Bool.not_eq_true', Bool.or_eq_false_iff, Bool.and_eq_true, Bool.or_eq_true, decide_eq_true_eq, decide_eq_false_iff_not] at hsc); (repeat' (with_reducible apply And.intro)) <;> (first | assumption | trivial | exact (fun hq => by rw [hq]; rfl) | exact i64_of (by omega) (by omega) | omega | (simp; done) | (simp; omega) | (intro hse; simp [hse, hs0]; done) | (intro hse; simp only [hse, hs0, Bool.true_and, Bool.and_true, Bool.not_false, Bool.not_true, Bool.and_self]; done))))))
    refine br ?_ ?_
    · intro hf
      have hf : (allB x [45] && inE x.length 1 30) = false := by
        cases h2 : allB x [45] <;> simp [h2, inE] at hf ⊢
        omega
      simp only [ZZ, YY, Zd, ite_true, ite_false, forall_const, reduceCtorEq, Nat.reduceAdd, Nat.reduceMul, Nat.reduceLeDiff, Nat.reduceLT, Nat.reduceEqDiff]
      rw [all_false hx hf]
      rfl
    · intro hf
      have hf : (allB x [45] && inE x.length 1 30) = true := by
        cases h2 : allB x [45] <;> simp [h2, inE] at hf ⊢
        omega
      simp only [ZZ, YY, Zd, ite_true, ite_false, forall_const, reduceCtorEq, Nat.reduceAdd, Nat.reduceMul, Nat.reduceLeDiff, Nat.reduceLT, Nat.reduceEqDiff]
      refine ⟨i64_of (by omega) (by omega), ?_⟩
      refine end_round (ls.length - (k + 1)) [.any, .any, .any, .any, .any, .any, .p (.sl 1 (strE ls)), .any, .any, .any, .any, .any, .any, .any, .any, .any, .any, .any, .any, .any, .any, .any, .any, .any, .any, .any, .any, .any, .any, .any, .any, .any, .any, .any, .any, .any, .any, .any, .any, .p (.sl 1 (strE ls)), .p (int (ls.length : Nat)), .p (int ((k + 1) : Nat)), .any, .any, .any, .any, .any, .any, .any, .any, .any, .any, .any, .any, .any, .any, .any, .any, .any, .any, .any, .any] [] (by omega) (by (simp only [ZZ, YY, Zd, ite_true, ite_false, forall_const, reduceCtorEq, Nat.reduceAdd, Nat.reduceMul, Nat.reduceLeDiff, Nat.reduceLT, Nat.reduceEqDiff]; try trivial)) (by (simp only [ZZ, YY, Zd, ite_true, ite_false, forall_const, reduceCtorEq, Nat.reduceAdd, Nat.reduceMul, Nat.reduceLeDiff, Nat.reduceLT, Nat.reduceEqDiff]; try trivial)) ⟨k + 1, by omega, rfl, by rw [List.take_succ_eq_append_getElem hlt, List.all_append, ha, (List.getElem?_eq_some_iff.1 hx).2]; simpa using hf, rfl, rfl⟩
  · intro h
    have hge : k = ls.length := by have := of_decide_eq_false h; omega
    subst hge
    rw [List.take_length] at ha
    simp only [ZZ, YY, Zd, ite_true, ite_false, forall_const, reduceCtorEq, Nat.reduceAdd, Nat.reduceMul, Nat.reduceLeDiff, Nat.reduceLT, Nat.reduceEqDiff, strE_len]
    rw [ha]
    simp
    omega
end Go.Proofs.YtndjmidmfmcbkaaGreatDoor

/- slices.Clone, slices.Reverse at the circle's parts. -/
namespace Go.Proofs.YtndjmidmfmcbkaaGreatDoor
open Go.RowKit
set_option linter.unusedVariables false
set_option linter.unusedSimpArgs false
set_option linter.defProp false

section
variable {E : Envt}
theorem RepeatG_ok (s : List UInt8) (n : Nat) (hn : n ≤ 1000000) (hs : s.length ≤ 1000000) : PCall Tryz.prog E 71 [.str s, int n] (· = .str (Lib.repeatL s n)) :=
  pcall_flat rfl rfl fun w _ => (r_Repeat ⟨s.toArray⟩ n w (by omega) (by rw [show (⟨s.toArray⟩ : ByteArray).size = s.length from by simp [ByteArray.size]]; exact Nat.le_trans (Nat.mul_le_mul hs hn) (by decide))).mono fun e w' h => ⟨h.1, grow_below h.2⟩
end
end Go.Proofs.YtndjmidmfmcbkaaGreatDoor

/- The circle of a text: what the maker makes. -/
namespace Go.Proofs.YtndjmidmfmcbkaaGreatDoor
set_option linter.unusedVariables false
set_option linter.unusedSimpArgs false
set_option linter.defProp false

section
variable {E : Envt}
abbrev Par := List UInt8 × Int × Int
def t1 : List UInt8 := [108, 101, 103, 97, 108, 32, 97, 100, 118, 105, 99, 101]
def t2 : List UInt8 := [112, 114, 105, 118, 105, 108, 101, 103, 101, 100, 32, 97, 110, 100, 32, 99, 111, 110, 102, 105, 100, 101, 110, 116, 105, 97, 108]
def p0 : List Par := [([97, 105, 100, 64, 111, 117, 114, 115, 46, 100, 101], 1, 3), ([97, 110, 110, 64, 102, 105, 114, 109, 46, 100, 101], 1, 2), ([108, 97, 119, 64, 111, 117, 114, 115, 46, 100, 101], 1, 1)]
def d0 (y : Int) : List Par := [([102, 105, 114, 109, 46, 100, 101], 1, 4), ([120, 46, 102, 105, 114, 109, 46, 100, 101], y, 2), ([111, 117, 114, 115, 46, 100, 101], 1, 4)]
end
end Go.Proofs.YtndjmidmfmcbkaaGreatDoor

/- The terms of a circle. -/
namespace Go.Proofs.YtndjmidmfmcbkaaGreatDoor
set_option linter.unusedVariables false
set_option linter.unusedSimpArgs false
set_option linter.defProp false



section
variable {E : Envt}
end
end Go.Proofs.YtndjmidmfmcbkaaGreatDoor

/- The body of a mail: what the maker makes. -/
namespace Go.Proofs.YtndjmidmfmcbkaaGreatDoor
set_option linter.unusedVariables false
set_option linter.unusedSimpArgs false
set_option linter.defProp false

section
variable {E : Envt}
end
end Go.Proofs.YtndjmidmfmcbkaaGreatDoor

/- The body of a mail, as it may be cut or made large. -/
namespace Go.Proofs.YtndjmidmfmcbkaaGreatDoor
set_option linter.unusedVariables false
set_option linter.unusedSimpArgs false
set_option linter.defProp false

section
variable {E : Envt}
end
end Go.Proofs.YtndjmidmfmcbkaaGreatDoor

/- Terms: their checks, on both sides. -/
namespace Go.Proofs.YtndjmidmfmcbkaaGreatDoor
set_option linter.unusedVariables false
set_option linter.unusedSimpArgs false
set_option linter.defProp false

/- strings.Contains -/
def ir_strings_Contains : IC :=
  (.seq (.reg [⟨some 4, .mov (.c (.bool false)), none⟩])
    (.seq (.reg [⟨some 5, .mov (.t 0), none⟩,
      ⟨some 6, .mov (.t 1), none⟩,
      ⟨some 7, .call 232 [.t 5, .t 6], none⟩,
      ⟨some 8, .bin .geq (.t 7) (.c (.int .i64 0)), none⟩,
      ⟨some 4, .mov (.t 8), none⟩])
    .ret))
def rs_strings_Contains : List IRes := [.t 4]
theorem ck_strings_Contains : chkF Tryz.prog Tryz.f243 ir_strings_Contains rs_strings_Contains 9 = true := by kernel_rfl


section
theorem Contains_ok (s t : List UInt8) (hs : s.length ≤ 1000000000) : PCall Tryz.prog E0 243 [.str s, .str t] (· = .bool (decide (0 ≤ Lib.index s t))) := by
  refine pcallF mixed Tryz.func243 ck_strings_Contains ?_
  simp only [a0, l0, OS.ao, List.map_cons, List.map_nil, List.length_cons, List.length_nil, List.cons_append, List.nil_append, Nat.reduceSub, Nat.reduceAdd, List.replicate_succ, List.replicate_zero, ir_strings_Contains, rs_strings_Contains, ZZ, YY, Zd, ite_true, ite_false, forall_const, reduceCtorEq, Nat.reduceAdd, Nat.reduceMul, Nat.reduceLeDiff, Nat.reduceLT, Nat.reduceEqDiff]
  refine use1 (Index_ok s t hs) rfl (.inl rfl) ?_
  simp only [ZZ, YY, Zd, ite_true, ite_false, forall_const, reduceCtorEq, Nat.reduceAdd, Nat.reduceMul, Nat.reduceLeDiff, Nat.reduceLT, Nat.reduceEqDiff]
end
end Go.Proofs.YtndjmidmfmcbkaaGreatDoor
