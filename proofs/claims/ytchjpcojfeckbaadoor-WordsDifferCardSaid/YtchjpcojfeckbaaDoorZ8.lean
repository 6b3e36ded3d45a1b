
/- Own texts, put together: M9 E1 M10 N4 M11. -/
import Derived.Test.YtchjpcojfeckbaaDoorZ7
import Derived.Test.YtchjpcojfeckbaaDoorZ4
import Derived.Test.YtchjpcojfeckbaaDoorZ5
import Derived.Test.YtchjpcojfeckbaaDoorZ3
import Derived.Test.YtchjpcojfeckbaaDoorLaySort
import Derived.Test.YtchjpcojfeckbaaDoorLayCompact
import Derived.Lib.OwnBridge
import Derived.WalkKit
import Derived.Test.YtchjpcojfeckbaaDoorZ6
/- The changes on the paper's side, and the marked texts on both sides. -/
namespace Go.Proofs.YtchjpcojfeckbaaDoor
open Go.RowKit
set_option linter.unusedVariables false
set_option linter.unusedSimpArgs false
set_option linter.defProp false

/- paperchase/near.Marked -/
def ir_near_Marked_L0 : IC :=
  (.seq (.reg [⟨some 29, .bin .lss (.t 28) (.t 27), none⟩])
    (.seq (.cond (.t 29) .skip (.exit 0))
    (.seq (.block 1 (.seq (.reg [⟨some 30, .ixa 3 (.t 26) (.t 28), none⟩,
      ⟨some 31, .ld 3 true (.t 30), none⟩,
      ⟨some 12, .alc 58 [.int .i64 0, .nl 1, .nl 1], none⟩,
      ⟨none, .st 3 (.t 12) (.t 31), none⟩])
    (.seq (.reg [⟨some 32, .mov (.t 9), none⟩,
      ⟨some 33, .mov (.t 6), none⟩,
      ⟨some 34, .mov (.t 10), none⟩,
      ⟨some 35, .fla 0 (.t 12), none⟩,
      ⟨some 36, .ld 1 false (.t 35), none⟩,
      ⟨some 37, .vsl 1 (.t 33) (some (.t 34)) (some (.t 36)), none⟩,
      ⟨some 38, .app 9 1 16 (.t 32) (.t 37), none⟩,
      ⟨some 9, .mov (.t 38), none⟩])
    (.seq (.seq (.reg [⟨some 39, .fla 1 (.t 12), none⟩,
      ⟨some 40, .ld 1 false (.t 39), none⟩,
      ⟨some 41, .len (.t 40), none⟩,
      ⟨some 42, .bin .gtr (.t 41) (.c (.int .i64 0)), none⟩])
    (.cond (.t 42) (.reg [⟨some 43, .mov (.t 9), none⟩,
      ⟨some 44, .fla 1 (.t 12), none⟩,
      ⟨some 45, .ld 1 false (.t 44), none⟩,
      ⟨some 46, .call 28 [.t 45], none⟩,
      ⟨some 47, .bin .add (.c (.str [91, 45])) (.t 46), none⟩,
      ⟨some 48, .bin .add (.t 47) (.c (.str [45, 93])), none⟩,
      ⟨some 49, .bsl 1 [.t 48], none⟩,
      ⟨some 50, .app 9 1 16 (.t 43) (.t 49), none⟩,
      ⟨some 9, .mov (.t 50), none⟩]) .skip))
    (.cut (.seq (.seq (.reg [⟨some 51, .fla 2 (.t 12), none⟩,
      ⟨some 52, .ld 1 false (.t 51), none⟩,
      ⟨some 53, .len (.t 52), none⟩,
      ⟨some 54, .bin .gtr (.t 53) (.c (.int .i64 0)), none⟩])
    (.cond (.t 54) (.reg [⟨some 55, .mov (.t 9), none⟩,
      ⟨some 56, .fla 2 (.t 12), none⟩,
      ⟨some 57, .ld 1 false (.t 56), none⟩,
      ⟨some 58, .call 28 [.t 57], none⟩,
      ⟨some 59, .bin .add (.c (.str [123, 43])) (.t 58), none⟩,
      ⟨some 60, .bin .add (.t 59) (.c (.str [43, 125])), none⟩,
      ⟨some 61, .bsl 1 [.t 60], none⟩,
      ⟨some 62, .app 9 1 16 (.t 55) (.t 61), none⟩,
      ⟨some 9, .mov (.t 62), none⟩]) .skip))
    (.cut (.reg [⟨some 63, .fla 0 (.t 12), none⟩,
      ⟨some 64, .ld 1 false (.t 63), none⟩,
      ⟨some 65, .fla 1 (.t 12), none⟩,
      ⟨some 66, .ld 1 false (.t 65), none⟩,
      ⟨some 67, .len (.t 66), none⟩,
      ⟨some 68, .bin .add (.t 64) (.t 67), none⟩,
      ⟨some 10, .mov (.t 68), none⟩]))))))))
    (.reg [⟨some 69, .bin .add (.t 28) (.c (.int .i64 1)), none⟩,
      ⟨some 28, .mov (.t 69), none⟩]))))
def ir_near_Marked : IC :=
  (.seq (.reg [⟨some 4, .mov (.c (.str [])), none⟩,
      ⟨some 5, .mov (.c (.int .i64 0)), none⟩])
    (.seq (.reg [⟨some 15, .mov (.t 0), none⟩,
      ⟨some 16, .mov (.t 1), none⟩,
      ⟨some 17, .call 25 [.t 15, .t 16], none⟩,
      ⟨some 14, .mov (.t 17), none⟩,
      ⟨some 18, .ext 0 (.t 14), none⟩,
      ⟨some 19, .ext 1 (.t 14), none⟩,
      ⟨some 20, .ext 2 (.t 14), none⟩,
      ⟨some 6, .mov (.t 18), none⟩,
      ⟨some 7, .mov (.t 19), none⟩,
      ⟨some 8, .mov (.t 20), none⟩])
    (.seq (.seq (.reg [⟨some 21, .mov (.t 8), none⟩,
      ⟨some 22, .bin .neq (.t 21) (.c (.int .i64 0)), none⟩])
    (.cond (.t 22) (.seq (.reg [⟨some 23, .mov (.t 8), none⟩,
      ⟨some 4, .mov (.c (.str [])), none⟩,
      ⟨some 5, .mov (.t 23), none⟩])
    .ret) .skip))
    (.seq (.reg [⟨some 9, .nilr 9 1, none⟩])
    (.seq (.reg [⟨some 10, .mov (.c (.int .i64 0)), none⟩])
    (.seq (.seq (.reg [⟨some 24, .mov (.t 6), none⟩,
      ⟨some 25, .mov (.t 7), none⟩,
      ⟨some 26, .call 27 [.t 24, .t 25], none⟩,
      ⟨some 27, .len (.t 26), none⟩,
      ⟨some 28, .mov (.c (.int .i64 0)), none⟩])
    (.block 0 (.loop ir_near_Marked_L0)))
    (.seq (.reg [⟨some 70, .mov (.t 9), none⟩,
      ⟨some 71, .mov (.t 6), none⟩,
      ⟨some 72, .mov (.t 10), none⟩,
      ⟨some 73, .vsl 1 (.t 71) (some (.t 72)) none, none⟩,
      ⟨some 74, .app 9 1 16 (.t 70) (.t 73), none⟩,
      ⟨some 75, .call 28 [.t 74], none⟩,
      ⟨some 13, .mov (.t 75), none⟩])
    (.seq (.seq (.reg [⟨some 76, .mov (.t 13), none⟩,
      ⟨some 77, .sln (.t 76), none⟩,
      ⟨some 78, .bin .gtr (.t 77) (.c (.int .i64 200000)), none⟩])
    (.cond (.t 78) (.seq (.reg [⟨some 4, .mov (.c (.str [])), none⟩,
      ⟨some 5, .mov (.c (.int .i64 2)), none⟩])
    .ret) .skip))
    (.seq (.reg [⟨some 79, .mov (.t 13), none⟩,
      ⟨some 4, .mov (.t 79), none⟩,
      ⟨some 5, .mov (.c (.int .i64 0)), none⟩])
    .ret)))))))))
def rs_near_Marked : List IRes := [.t 4, .t 5]
theorem ck_near_Marked : chkF Tryd.prog Tryd.f10 ir_near_Marked rs_near_Marked 80 = true := by kernel_rfl
/- paperchase/chaseref1.MarkedOf -/
def ir_chaseref1_MarkedOf_L0 : IC :=
  (.seq (.reg [⟨some 17, .bin .lss (.t 16) (.t 15), none⟩])
    (.seq (.cond (.t 17) .skip (.exit 0))
    (.seq (.block 1 (.seq (.reg [⟨some 18, .ixa 3 (.t 14) (.t 16), none⟩,
      ⟨some 19, .ld 3 true (.t 18), none⟩,
      ⟨some 9, .alc 58 [.int .i64 0, .nl 1, .nl 1], none⟩,
      ⟨none, .st 3 (.t 9) (.t 19), none⟩])
    (.seq (.reg [⟨some 20, .mov (.t 6), none⟩,
      ⟨some 21, .mov (.t 5), none⟩,
      ⟨some 22, .mov (.t 7), none⟩,
      ⟨some 23, .fla 0 (.t 9), none⟩,
      ⟨some 24, .ld 1 false (.t 23), none⟩,
      ⟨some 25, .vsl 1 (.t 21) (some (.t 22)) (some (.t 24)), none⟩,
      ⟨some 26, .app 9 1 16 (.t 20) (.t 25), none⟩,
      ⟨some 6, .mov (.t 26), none⟩])
    (.seq (.seq (.reg [⟨some 27, .fla 1 (.t 9), none⟩,
      ⟨some 28, .ld 1 false (.t 27), none⟩,
      ⟨some 29, .len (.t 28), none⟩,
      ⟨some 30, .bin .gtr (.t 29) (.c (.int .i64 0)), none⟩])
    (.cond (.t 30) (.reg [⟨some 31, .mov (.t 6), none⟩,
      ⟨some 32, .fla 1 (.t 9), none⟩,
      ⟨some 33, .ld 1 false (.t 32), none⟩,
      ⟨some 34, .call 36 [.t 33], none⟩,
      ⟨some 35, .bin .add (.c (.str [91, 45])) (.t 34), none⟩,
      ⟨some 36, .bin .add (.t 35) (.c (.str [45, 93])), none⟩,
      ⟨some 37, .bsl 1 [.t 36], none⟩,
      ⟨some 38, .app 9 1 16 (.t 31) (.t 37), none⟩,
      ⟨some 6, .mov (.t 38), none⟩]) .skip))
    (.cut (.seq (.seq (.reg [⟨some 39, .fla 2 (.t 9), none⟩,
      ⟨some 40, .ld 1 false (.t 39), none⟩,
      ⟨some 41, .len (.t 40), none⟩,
      ⟨some 42, .bin .gtr (.t 41) (.c (.int .i64 0)), none⟩])
    (.cond (.t 42) (.reg [⟨some 43, .mov (.t 6), none⟩,
      ⟨some 44, .fla 2 (.t 9), none⟩,
      ⟨some 45, .ld 1 false (.t 44), none⟩,
      ⟨some 46, .call 36 [.t 45], none⟩,
      ⟨some 47, .bin .add (.c (.str [123, 43])) (.t 46), none⟩,
      ⟨some 48, .bin .add (.t 47) (.c (.str [43, 125])), none⟩,
      ⟨some 49, .bsl 1 [.t 48], none⟩,
      ⟨some 50, .app 9 1 16 (.t 43) (.t 49), none⟩,
      ⟨some 6, .mov (.t 50), none⟩]) .skip))
    (.cut (.reg [⟨some 51, .fla 0 (.t 9), none⟩,
      ⟨some 52, .ld 1 false (.t 51), none⟩,
      ⟨some 53, .fla 1 (.t 9), none⟩,
      ⟨some 54, .ld 1 false (.t 53), none⟩,
      ⟨some 55, .len (.t 54), none⟩,
      ⟨some 56, .bin .add (.t 52) (.t 55), none⟩,
      ⟨some 7, .mov (.t 56), none⟩]))))))))
    (.reg [⟨some 57, .bin .add (.t 16) (.c (.int .i64 1)), none⟩,
      ⟨some 16, .mov (.t 57), none⟩]))))
def ir_chaseref1_MarkedOf : IC :=
  (.seq (.reg [⟨some 4, .mov (.c (.str [])), none⟩])
    (.seq (.reg [⟨some 10, .mov (.t 0), none⟩,
      ⟨some 11, .call 29 [.t 10], none⟩,
      ⟨some 5, .mov (.t 11), none⟩])
    (.seq (.reg [⟨some 6, .nilr 9 1, none⟩])
    (.seq (.reg [⟨some 7, .mov (.c (.int .i64 0)), none⟩])
    (.seq (.seq (.reg [⟨some 12, .mov (.t 0), none⟩,
      ⟨some 13, .mov (.t 1), none⟩,
      ⟨some 14, .call 15 [.t 12, .t 13], none⟩,
      ⟨some 15, .len (.t 14), none⟩,
      ⟨some 16, .mov (.c (.int .i64 0)), none⟩])
    (.block 0 (.loop ir_chaseref1_MarkedOf_L0)))
    (.seq (.reg [⟨some 58, .mov (.t 6), none⟩,
      ⟨some 59, .mov (.t 5), none⟩,
      ⟨some 60, .mov (.t 7), none⟩,
      ⟨some 61, .vsl 1 (.t 59) (some (.t 60)) none, none⟩,
      ⟨some 62, .app 9 1 16 (.t 58) (.t 61), none⟩,
      ⟨some 63, .call 36 [.t 62], none⟩,
      ⟨some 4, .mov (.t 63), none⟩])
    .ret))))))
def rs_chaseref1_MarkedOf : List IRes := [.t 4]
theorem ck_chaseref1_MarkedOf : chkF Tryd.prog Tryd.f16 ir_chaseref1_MarkedOf rs_chaseref1_MarkedOf 64 = true := by kernel_rfl

set_option maxHeartbeats 4000000 in
theorem DifferOf_ok (a b : List UInt8) (ha : a.length ≤ 1000000000) (hb : b.length ≤ 1000000000) (h1 : (tokF a).length ≤ 2000) (h2 : (tokF b).length ≤ 2000) : FCall Tryd.prog E0 15 [.str a, .str b] tCh 3 (· = chE (chF (tokF a) (tokF b))) := by
  unfold FCall
  refine gcallR mixed Tryd.func15 ck_chaseref1_DifferOf ?_
  simp only [a0, l0, OS.ao, List.map_cons, List.map_nil, List.length_cons, List.length_nil, List.cons_append, List.nil_append, Nat.reduceSub, Nat.reduceAdd, List.replicate_succ, List.replicate_zero, ir_chaseref1_DifferOf, rs_chaseref1_DifferOf, ZZ, YY, Ze, ite_true, ite_false, forall_const, reduceCtorEq, Nat.reduceAdd, Nat.reduceMul, Nat.reduceLeDiff, Nat.reduceLT, Nat.reduceEqDiff]
  refine use1 (plainR (TokensOf_ok a ha)) rfl (.inl rfl) ?_
  simp only [ZZ, YY, Ze, ite_true, ite_false, forall_const, reduceCtorEq, Nat.reduceAdd, Nat.reduceMul, Nat.reduceLeDiff, Nat.reduceLT, Nat.reduceEqDiff]
  refine use1 (plainR (TokensOf_ok b hb)) rfl (.inl rfl) ?_
  have hx : (tokF a).length ≤ 3000 := by omega
  have hy : (tokF b).length ≤ 3000 := by omega
  clear h1 h2
  generalize tokF a = x at *
  generalize tokF b = y at *
  simp only [ZZ, YY, Ze, ite_true, ite_false, forall_const, reduceCtorEq, Nat.reduceAdd, Nat.reduceMul, Nat.reduceLeDiff, Nat.reduceLT, Nat.reduceEqDiff, strE_len]
  ((repeat' (with_reducible apply And.intro)) <;> try ((first | first | assumption | trivial | exact (fun hq => by rw [hq]; rfl) | exact i64_of (by omega) (by omega) | omega | (simp; done) | (simp; omega) | (intro hsc; have hs0 := hsc; (try have hsd := of_decide_eq_true hsc); (try simp only [Bool.not_eq_true', Bool.or_eq_false_iff, Bool.and_eq_true, Bool.or_eq_true, decide_eq_true_eq, decide_eq_false_iff_not] at hsc); (repeat' (with_reducible apply And.intro)) <;> (first | assumption | trivial | exact (fun hq => by rw [hq]; rfl) | exact i64_of (by omega) (by omega) | omega | (simp; done) | (simp; omega) | (intro hse; simp [hse, hs0]; done) | (intro hse; simp only [hse, hs0, Bool.true_and, Bool.and_true, Bool.not_false, Bool.not_true, Bool.and_self]; done))))))
  refine useF (keptOf_ok x y hx hy) rfl rfl ?_
  rintro es rfl
  rw [← kp_kr]
  have hpl := prsF_len x y
  have hch := prsF_chn x y
  have hkl := kp_len x y
  have hps : prE (kp 0 0 x y) ++ [[PV.int .i64 (x.length : Nat), PV.int .i64 (y.length : Nat)]] = prE (prsF x y) := by rw [prsF, prE_app]; rfl
  simp only [ZZ, YY, Ze, ite_true, ite_false, forall_const, reduceCtorEq, Nat.reduceAdd, Nat.reduceMul, Nat.reduceLeDiff, Nat.reduceLT, Nat.reduceEqDiff, strE_len, prE_len, hps]
  ((repeat' (with_reducible apply And.intro)) <;> try ((first | first | assumption | trivial | exact (fun hq => by rw [hq]; rfl) | exact i64_of (by omega) (by omega) | omega | (simp; done) | (simp; omega) | (intro hsc; have hs0 := hsc; (try have hsd := of_decide_eq_true hsc); (try simp only [Bool.not_eq_true', Bool.or_eq_false_iff, Bool.and_eq_true, Bool.or_eq_true, decide_eq_true_eq, decide_eq_false_iff_not] at hsc); (repeat' (with_reducible apply And.intro)) <;> (first | assumption | trivial | exact (fun hq => by rw [hq]; rfl) | exact i64_of (by omega) (by omega) | omega | (simp; done) | (simp; omega) | (intro hse; simp [hse, hs0]; done) | (intro hse; simp only [hse, hs0, Bool.true_and, Bool.and_true, Bool.not_false, Bool.not_true, Bool.and_self]; done))))))
  rw [show chF x y = chg x y (prsF x y) 0 0 from rfl]
  generalize prsF x y = ps at *
  refine loop_intro (fun n fr L => ∃ (k : Nat) (i : Nat) (j : Nat) (out : List Chg), k ≤ ps.length ∧ n = ps.length - k ∧ (out.length ≤ k) ∧ (chg x y ps 0 0 = out ++ chg x y (ps.drop k) i j) ∧ (Chn x.length y.length i j (ps.drop k)) ∧ fr = [.p (.str a), .p (.str b), .any, .any, .any, .p (.sl 1 (strE x)), .p (.sl 1 (strE y)), .row (.l 7), .p (int (i : Nat)), .p (int (j : Nat)), .any, .any, .any, .any, .any, .any, .any, .any, .any, .any, .any, .any, .any, .any, .any, .row (.l 18), .p (int (ps.length : Nat)), .p (int (k : Nat)), .any, .any, .any, .any, .any, .any, .any, .any, .any, .any, .any, .any, .any, .any, .any, .any, .any, .any, .any, .any, .any, .any, .any, .any, .any, .any, .any, .any, .any, .any, .any, .any, .any, .any, .any, .any, .any, .any] ∧ L = [(.l 18, .row (prE ps) tPr 2 true), (.l 7, .row (chE out) tCh 3 true)]) (ps.length) [.p (.str a), .p (.str b), .any, .any, .any, .p (.sl 1 (strE x)), .p (.sl 1 (strE y)), .row (.l 7), .p (int (0 : Nat)), .p (int (0 : Nat)), .any, .any, .any, .any, .any, .any, .any, .any, .any, .any, .any, .any, .any, .any, .any, .row (.l 18), .p (int (ps.length : Nat)), .p (int (0 : Nat)), .any, .any, .any, .any, .any, .any, .any, .any, .any, .any, .any, .any, .any, .any, .any, .any, .any, .any, .any, .any, .any, .any, .any, .any, .any, .any, .any, .any, .any, .any, .any, .any, .any, .any, .any, .any, .any, .any] [(.l 18, .row (prE ps) tPr 2 true), (.l 7, .row (chE []) tCh 3 true)] (by simp only [ZZ, YY, Ze, ite_true, ite_false, forall_const, reduceCtorEq, Nat.reduceAdd, Nat.reduceMul, Nat.reduceLeDiff, Nat.reduceLT, Nat.reduceEqDiff, strE_len, prE_len]; try trivial) (by (simp only [ZZ, YY, Ze, ite_true, ite_false, forall_const, reduceCtorEq, Nat.reduceAdd, Nat.reduceMul, Nat.reduceLeDiff, Nat.reduceLT, Nat.reduceEqDiff]; try trivial)) ⟨0, 0, 0, [], by omega, by omega, by simp, by simp, by simpa using hch, rfl, rfl⟩ ?_
  rintro n fr L ⟨k, i, j, out, hk, rfl, ho, hf, hc, rfl, rfl⟩
  simp only [ir_chaseref1_DifferOf_L0, ZZ, YY, Ze, ite_true, ite_false, forall_const, reduceCtorEq, Nat.reduceAdd, Nat.reduceMul, Nat.reduceLeDiff, Nat.reduceLT, Nat.reduceEqDiff]
  refine br ?_ ?_
  · intro h
    have hlt : k < ps.length := by have := of_decide_eq_true h; omega
    obtain ⟨p, hp⟩ : ∃ p, ps[k]? = some p := ⟨_, List.getElem?_eq_getElem hlt⟩
    have hg : (prE ps).getD k [] = [int (p.1 : Nat), int (p.2 : Nat)] := by unfold prE; exact getD_map hp
    have hd : ps.drop k = p :: ps.drop (k + 1) := by
      obtain ⟨hl, rfl⟩ := List.getElem?_eq_some_iff.1 hp
      exact List.drop_eq_getElem_cons hl
    obtain ⟨c1, c2, c3, c4, c5⟩ := chn_drop hc hd
    rw [hd, chg] at hf
    simp only [ZZ, YY, Ze, ite_true, ite_false, forall_const, reduceCtorEq, Nat.reduceAdd, Nat.reduceMul, Nat.reduceLeDiff, Nat.reduceLT, Nat.reduceEqDiff, hg, prE_len]
    ((repeat' (with_reducible apply And.intro)) <;> try ((first | first | assumption | trivial | exact (fun hq => by rw [hq]; rfl) | exact i64_of (by omega) (by omega) | omega | (simp; done) | (simp; omega) | (intro hsc; have hs0 := hsc; (try have hsd := of_decide_eq_true hsc); (try simp only [Bool.not_eq_true', Bool.or_eq_false_iff, Bool.and_eq_true, Bool.or_eq_true, decide_eq_true_eq, decide_eq_false_iff_not] at hsc); (repeat' (with_reducible apply And.intro)) <;> (first | assumption | trivial | exact (fun hq => by rw [hq]; rfl) | exact i64_of (by omega) (by omega) | omega | (simp; done) | (simp; omega) | (intro hse; simp [hse, hs0]; done) | (intro hse; simp only [hse, hs0, Bool.true_and, Bool.and_true, Bool.not_false, Bool.not_true, Bool.and_self]; done))))))
    refine br ?_ ?_
    · intro hb
      have hb : i < p.1 ∨ j < p.2 := by
        simp only [Bool.or_eq_true, decide_eq_true_eq] at hb
        omega
      rw [if_pos hb] at hf
      have e1 : ((strE x).take p.1).drop i = strE ((x.take p.1).drop i) := by rw [strE, strE, ← List.map_take, ← List.map_drop]
      have e2 : ((strE y).take p.2).drop j = strE ((y.take p.2).drop j) := by rw [strE, strE, ← List.map_take, ← List.map_drop]
      have l1 : (strE ((x.take p.1).drop i)).length ≤ 1000000 := by rw [strE_len]; simp; omega
      have l2 : (strE ((y.take p.2).drop j)).length ≤ 1000000 := by rw [strE_len]; simp; omega
      simp only [ZZ, YY, Ze, ite_true, ite_false, forall_const, reduceCtorEq, Nat.reduceAdd, Nat.reduceMul, Nat.reduceLeDiff, Nat.reduceLT, Nat.reduceEqDiff]
      refine drg2 (x1 := .sl 1 (strE ((x.take p.1).drop i))) (x2 := .sl 1 (strE ((y.take p.2).drop j))) ?_
      simp only [ZZ, YY, Ze, ite_true, ite_false, forall_const, reduceCtorEq, Nat.reduceAdd, Nat.reduceMul, Nat.reduceLeDiff, Nat.reduceLT, Nat.reduceEqDiff, e1, e2, strE_len, chE_len]
      ((repeat' (with_reducible apply And.intro)) <;> try (first | exact usep (plainR (CloneS_ok _ l1)) rfl (.inl rfl) | exact usep (plainR (CloneS_ok _ l2)) rfl (.inl rfl) | (first | first | assumption | trivial | exact (fun hq => by rw [hq]; rfl) | exact i64_of (by omega) (by omega) | omega | (simp; done) | (simp; omega) | (intro hsc; have hs0 := hsc; (try have hsd := of_decide_eq_true hsc); (try simp only [Bool.not_eq_true', Bool.or_eq_false_iff, Bool.and_eq_true, Bool.or_eq_true, decide_eq_true_eq, decide_eq_false_iff_not] at hsc); (repeat' (with_reducible apply And.intro)) <;> (first | assumption | trivial | exact (fun hq => by rw [hq]; rfl) | exact i64_of (by omega) (by omega) | omega | (simp; done) | (simp; omega) | (intro hse; simp [hse, hs0]; done) | (intro hse; simp only [hse, hs0, Bool.true_and, Bool.and_true, Bool.not_false, Bool.not_true, Bool.and_self]; done))))))
      refine cut_same (by simp only [ZZ, YY, Ze, ite_true, ite_false, forall_const, reduceCtorEq, Nat.reduceAdd, Nat.reduceMul, Nat.reduceLeDiff, Nat.reduceLT, Nat.reduceEqDiff]) ?_
      simp only [ZZ, YY, Ze, ite_true, ite_false, forall_const, reduceCtorEq, Nat.reduceAdd, Nat.reduceMul, Nat.reduceLeDiff, Nat.reduceLT, Nat.reduceEqDiff]
      refine drg0 ?_
      simp only [ZZ, YY, Ze, ite_true, ite_false, forall_const, reduceCtorEq, Nat.reduceAdd, Nat.reduceMul, Nat.reduceLeDiff, Nat.reduceLT, Nat.reduceEqDiff]
      ((repeat' (with_reducible apply And.intro)) <;> try ((first | first | assumption | trivial | exact (fun hq => by rw [hq]; rfl) | exact i64_of (by omega) (by omega) | omega | (simp; done) | (simp; omega) | (intro hsc; have hs0 := hsc; (try have hsd := of_decide_eq_true hsc); (try simp only [Bool.not_eq_true', Bool.or_eq_false_iff, Bool.and_eq_true, Bool.or_eq_true, decide_eq_true_eq, decide_eq_false_iff_not] at hsc); (repeat' (with_reducible apply And.intro)) <;> (first | assumption | trivial | exact (fun hq => by rw [hq]; rfl) | exact i64_of (by omega) (by omega) | omega | (simp; done) | (simp; omega) | (intro hse; simp [hse, hs0]; done) | (intro hse; simp only [hse, hs0, Bool.true_and, Bool.and_true, Bool.not_false, Bool.not_true, Bool.and_self]; done))))))
      have hce : chE out ++ [[int (i : Nat), .sl 1 (strE ((x.take p.1).drop i)), .sl 1 (strE ((y.take p.2).drop j))]] = chE (out ++ [(i, (x.take p.1).drop i, (y.take p.2).drop j)]) := by rw [chE_app]; rfl
      rw [hce]
      refine end_round (ps.length - (k + 1)) [.p (.str a), .p (.str b), .any, .any, .any, .p (.sl 1 (strE x)), .p (.sl 1 (strE y)), .row (.l 7), .p (int ((p.1 + 1) : Nat)), .p (int ((p.2 + 1) : Nat)), .any, .any, .any, .any, .any, .any, .any, .any, .any, .any, .any, .any, .any, .any, .any, .row (.l 18), .p (int (ps.length : Nat)), .p (int ((k + 1) : Nat)), .any, .any, .any, .any, .any, .any, .any, .any, .any, .any, .any, .any, .any, .any, .any, .any, .any, .any, .any, .any, .any, .any, .any, .any, .any, .any, .any, .any, .any, .any, .any, .any, .any, .any, .any, .any, .any, .any] [(.l 18, .row (prE ps) tPr 2 true), (.l 7, .row (chE (out ++ [(i, (x.take p.1).drop i, (y.take p.2).drop j)])) tCh 3 true)] (by omega) (by (simp only [ZZ, YY, Ze, ite_true, ite_false, forall_const, reduceCtorEq, Nat.reduceAdd, Nat.reduceMul, Nat.reduceLeDiff, Nat.reduceLT, Nat.reduceEqDiff]; try trivial)) (by (simp only [ZZ, YY, Ze, ite_true, ite_false, forall_const, reduceCtorEq, Nat.reduceAdd, Nat.reduceMul, Nat.reduceLeDiff, Nat.reduceLT, Nat.reduceEqDiff]; try trivial)) ⟨k + 1, p.1 + 1, p.2 + 1, out ++ [(i, (x.take p.1).drop i, (y.take p.2).drop j)], by omega, rfl, by simp; omega, by rw [hf, List.append_assoc], c5, rfl, rfl⟩
    · intro hb
      have hb : ¬ (i < p.1 ∨ j < p.2) := by
        simp only [Bool.or_eq_false_iff, decide_eq_false_iff_not] at hb
        omega
      rw [if_neg hb, List.nil_append] at hf
      simp only [ZZ, YY, Ze, ite_true, ite_false, forall_const, reduceCtorEq, Nat.reduceAdd, Nat.reduceMul, Nat.reduceLeDiff, Nat.reduceLT, Nat.reduceEqDiff]
      refine cut_same (by simp only [ZZ, YY, Ze, ite_true, ite_false, forall_const, reduceCtorEq, Nat.reduceAdd, Nat.reduceMul, Nat.reduceLeDiff, Nat.reduceLT, Nat.reduceEqDiff]) ?_
      simp only [ZZ, YY, Ze, ite_true, ite_false, forall_const, reduceCtorEq, Nat.reduceAdd, Nat.reduceMul, Nat.reduceLeDiff, Nat.reduceLT, Nat.reduceEqDiff]
      refine drg0 ?_
      simp only [ZZ, YY, Ze, ite_true, ite_false, forall_const, reduceCtorEq, Nat.reduceAdd, Nat.reduceMul, Nat.reduceLeDiff, Nat.reduceLT, Nat.reduceEqDiff]
      ((repeat' (with_reducible apply And.intro)) <;> try ((first | first | assumption | trivial | exact (fun hq => by rw [hq]; rfl) | exact i64_of (by omega) (by omega) | omega | (simp; done) | (simp; omega) | (intro hsc; have hs0 := hsc; (try have hsd := of_decide_eq_true hsc); (try simp only [Bool.not_eq_true', Bool.or_eq_false_iff, Bool.and_eq_true, Bool.or_eq_true, decide_eq_true_eq, decide_eq_false_iff_not] at hsc); (repeat' (with_reducible apply And.intro)) <;> (first | assumption | trivial | exact (fun hq => by rw [hq]; rfl) | exact i64_of (by omega) (by omega) | omega | (simp; done) | (simp; omega) | (intro hse; simp [hse, hs0]; done) | (intro hse; simp only [hse, hs0, Bool.true_and, Bool.and_true, Bool.not_false, Bool.not_true, Bool.and_self]; done))))))
      refine end_round (ps.length - (k + 1)) [.p (.str a), .p (.str b), .any, .any, .any, .p (.sl 1 (strE x)), .p (.sl 1 (strE y)), .row (.l 7), .p (int ((p.1 + 1) : Nat)), .p (int ((p.2 + 1) : Nat)), .any, .any, .any, .any, .any, .any, .any, .any, .any, .any, .any, .any, .any, .any, .any, .row (.l 18), .p (int (ps.length : Nat)), .p (int ((k + 1) : Nat)), .any, .any, .any, .any, .any, .any, .any, .any, .any, .any, .any, .any, .any, .any, .any, .any, .any, .any, .any, .any, .any, .any, .any, .any, .any, .any, .any, .any, .any, .any, .any, .any, .any, .any, .any, .any, .any, .any] [(.l 18, .row (prE ps) tPr 2 true), (.l 7, .row (chE out) tCh 3 true)] (by omega) (by (simp only [ZZ, YY, Ze, ite_true, ite_false, forall_const, reduceCtorEq, Nat.reduceAdd, Nat.reduceMul, Nat.reduceLeDiff, Nat.reduceLT, Nat.reduceEqDiff]; try trivial)) (by (simp only [ZZ, YY, Ze, ite_true, ite_false, forall_const, reduceCtorEq, Nat.reduceAdd, Nat.reduceMul, Nat.reduceLeDiff, Nat.reduceLT, Nat.reduceEqDiff]; try trivial)) ⟨k + 1, p.1 + 1, p.2 + 1, out, by omega, rfl, by omega, hf, c5, rfl, rfl⟩
  · intro h
    have hge : k = ps.length := by have := of_decide_eq_false h; omega
    subst hge
    simp only [ZZ, YY, Ze, ite_true, ite_false, forall_const, reduceCtorEq, Nat.reduceAdd, Nat.reduceMul, Nat.reduceLeDiff, Nat.reduceLT, Nat.reduceEqDiff]
    refine fin_F 7 _ rfl rfl ?_
    rw [hf, List.drop_length, chg, List.append_nil]

theorem Differ_ok (a b : List UInt8) (ha : a.length ≤ 1000000000) (hb : b.length ≤ 1000000000) : PCall Tryd.prog E0 9 [.str a, .str b] (fun r => r = if eBoth a b = 0 then .tup [.sl 3 (chE (chF (tokF a) (tokF b))), int 0] else .tup [.sl 3 [], int (eBoth a b)]) := by
  refine pcallF mixed Tryd.func9 ck_near_Differ ?_
  simp only [a0, l0, OS.ao, List.map_cons, List.map_nil, List.length_cons, List.length_nil, List.cons_append, List.nil_append, Nat.reduceSub, Nat.reduceAdd, List.replicate_succ, List.replicate_zero, ir_near_Differ, rs_near_Differ, ZZ, YY, Ze, ite_true, ite_false, forall_const, reduceCtorEq, Nat.reduceAdd, Nat.reduceMul, Nat.reduceLeDiff, Nat.reduceLT, Nat.reduceEqDiff]
  refine use (both_ok a b ha hb) rfl (.inl rfl) ?_
  rintro r ⟨X, Y, rfl, h⟩
  simp only [ZZ, YY, Ze, ite_true, ite_false, forall_const, reduceCtorEq, Nat.reduceAdd, Nat.reduceMul, Nat.reduceLeDiff, Nat.reduceLT, Nat.reduceEqDiff]
  by_cases h0 : eBoth a b = 0
  · have hd : decide (eBoth a b = 0) = true := decide_eq_true h0
    obtain ⟨rfl, rfl⟩ := h h0
    have h1 : eTok a = 0 := by
      by_cases h1 : eTok a = 0
      · exact h1
      · rw [eBoth, if_neg h1] at h0; exact h0
    have h2 : eTok b = 0 := by rwa [eBoth, if_pos h1] at h0
    have l1 := (eTok_zero h1).2
    have l2 := (eTok_zero h2).2
    simp only [ZZ, YY, Ze, ite_true, ite_false, forall_const, reduceCtorEq, Nat.reduceAdd, Nat.reduceMul, Nat.reduceLeDiff, Nat.reduceLT, Nat.reduceEqDiff, hd]
    refine use1 (plainR (changes_ok (tokF a) (tokF b) (by omega) (by omega))) rfl (.inl rfl) ?_
    simp only [ZZ, YY, Ze, ite_true, ite_false, forall_const, reduceCtorEq, Nat.reduceAdd, Nat.reduceMul, Nat.reduceLeDiff, Nat.reduceLT, Nat.reduceEqDiff]
    rw [if_pos h0]
  · have hd : decide (eBoth a b = 0) = false := decide_eq_false h0
    simp only [ZZ, YY, Ze, ite_true, ite_false, forall_const, reduceCtorEq, Nat.reduceAdd, Nat.reduceMul, Nat.reduceLeDiff, Nat.reduceLT, Nat.reduceEqDiff, hd]
    rw [if_neg h0]
/-- The marked tokens from a place on. -/
def mkP (X : Toks) : List Chg → Nat → Toks
  | [], p => X.drop p
  | c :: r, p => (X.take c.1).drop p ++ ((if 0 < c.2.1.length then [[91, 45] ++ jnF c.2.1 ++ [45, 93]] else []) ++ ((if 0 < c.2.2.length then [[123, 43] ++ jnF c.2.2 ++ [43, 125]] else []) ++ mkP X r (c.1 + c.2.1.length)))
def ChC (n : Nat) : Nat → List Chg → Prop
  | p, [] => p ≤ n
  | p, c :: r => p ≤ c.1 ∧ c.1 + c.2.1.length ≤ n ∧ ChC n (c.1 + c.2.1.length) r
theorem cut_len (X : Toks) (i m : Nat) (h : m ≤ X.length) : ((X.take m).drop i).length = m - i := by simp; omega
theorem chC_of (X Y : Toks) : ∀ (ps : List (Nat × Nat)) (i j p : Nat), Chn X.length Y.length i j ps → p ≤ i → p ≤ X.length → ChC X.length p (chg X Y ps i j)
  | [], i, j, p, _, _, h => h
  | q :: r, i, j, p, hc, hp, hl => by
    obtain ⟨c1, c2, c3, c4, c5⟩ := hc
    rw [chg]
    split
    · have e := cut_len X i q.1 c3
      have := chC_of X Y r (q.1 + 1) (q.2 + 1) q.1 c5 (by omega) c3
      refine ⟨hp, ?_, ?_⟩
      · show i + ((X.take q.1).drop i).length ≤ _
        omega
      · show ChC _ (i + ((X.take q.1).drop i).length) _
        rw [show i + ((X.take q.1).drop i).length = q.1 by omega]
        exact this
    · exact chC_of X Y r (q.1 + 1) (q.2 + 1) p c5 (by omega) hl
theorem wgt_cut (l : Toks) (i m : Nat) (h : i ≤ m) (hm : m ≤ l.length) : wgt ((l.take m).drop i) + wgt (l.drop m) = wgt (l.drop i) := by
  rw [← wgt_app]
  congr 1
  conv => rhs; rw [← List.take_append_drop m l]
  rw [List.drop_append_of_le_length (by simp; omega)]
theorem wgt_dropS (l : Toks) (i : Nat) : wgt (l.drop i) ≤ wgt l := by
  have := wgt_app (l.take i) (l.drop i)
  rw [List.take_append_drop] at this
  omega
theorem wgt_dropM (l : Toks) (i j : Nat) (h : i ≤ j) : wgt (l.drop j) ≤ wgt (l.drop i) := by
  have := wgt_dropS (l.drop i) (j - i)
  rw [List.drop_drop, show i + (j - i) = j by omega] at this
  exact this
theorem mk_wgt (X Y : Toks) : ∀ (ps : List (Nat × Nat)) (i j p : Nat), Chn X.length Y.length i j ps → p ≤ i → wgt (mkP X (chg X Y ps i j) p) ≤ wgt (X.drop p) + wgt (Y.drop j) + 10 * ps.length
  | [], i, j, p, _, _ => by simp only [chg, mkP]; omega
  | q :: r, i, j, p, hc, hp => by
    obtain ⟨c1, c2, c3, c4, c5⟩ := hc
    rw [chg]
    have hy := wgt_dropM Y j (q.2 + 1) (by omega)
    split
    · have e := cut_len X i q.1 c3
      have ih := mk_wgt X Y r (q.1 + 1) (q.2 + 1) q.1 c5 (by omega)
      have w1 := wgt_cut X p i hp (by omega)
      have w2 := wgt_cut X i q.1 c1 c3
      have w3 := wgt_cut Y j q.2 c2 c4
      have w4 := wgt_dropM Y q.2 (q.2 + 1) (by omega)
      have j1 := jnF_wgt ((X.take q.1).drop i)
      have j2 := jnF_wgt ((Y.take q.2).drop j)
      simp only [List.singleton_append, mkP, wgt_app, List.length_cons]
      rw [show i + ((X.take q.1).drop i).length = q.1 by omega]
      generalize wgt (mkP X (chg X Y r (q.1 + 1) (q.2 + 1)) q.1) = A at *
      split <;> split <;> simp only [wgt, List.length_append, List.length_cons, List.length_nil] <;> omega
    · have ih := mk_wgt X Y r (q.1 + 1) (q.2 + 1) p c5 (by omega)
      simp only [List.nil_append, List.length_cons]
      omega
theorem chg_len (X Y : Toks) : ∀ (ps : List (Nat × Nat)) (i j : Nat), (chg X Y ps i j).length ≤ ps.length
  | [], _, _ => by simp [chg]
  | q :: r, i, j => by
    have := chg_len X Y r (q.1 + 1) (q.2 + 1)
    rw [chg]
    split <;> simp <;> omega
theorem chg_mem (X Y : Toks) : ∀ (ps : List (Nat × Nat)) (i j : Nat), ∀ c ∈ chg X Y ps i j, wgt c.2.1 ≤ wgt X ∧ wgt c.2.2 ≤ wgt Y
  | [], _, _ => by simp [chg]
  | q :: r, i, j => by
    intro c hc
    rw [chg, List.mem_append] at hc
    rcases hc with hc | hc
    · split at hc
      · have := List.mem_singleton.1 hc
        subst this
        exact ⟨Nat.le_trans (wgt_dropS _ _) (wgt_takeS _ _), Nat.le_trans (wgt_dropS _ _) (wgt_takeS _ _)⟩
      · cases hc
    · exact chg_mem X Y r _ _ c hc
def mkF (x y : Toks) : Toks := mkP x (chF x y) 0
theorem mkF_wgt (x y : Toks) : wgt (mkF x y) ≤ wgt x + wgt y + 10 * (x.length + 1) := by
  have h := mk_wgt x y (prsF x y) 0 0 0 (prsF_chn x y) (Nat.le_refl _)
  have hp := prsF_len x y
  simp only [List.drop_zero] at h
  show wgt (mkP x (chg x y (prsF x y) 0 0) 0) ≤ _
  omega
theorem chF_len (x y : Toks) : (chF x y).length ≤ x.length + 1 := Nat.le_trans (chg_len x y _ 0 0) (prsF_len x y)
theorem chF_mem (x y : Toks) : ∀ c ∈ chF x y, wgt c.2.1 ≤ wgt x ∧ wgt c.2.2 ≤ wgt y := chg_mem x y _ 0 0
theorem chF_chC (x y : Toks) : ChC x.length 0 (chF x y) := chC_of x y _ 0 0 0 (prsF_chn x y) (Nat.le_refl _) (Nat.zero_le _)
theorem chC_drop {n : Nat} {p : Nat} {l : List Chg} (h : ChC n p l) {c : Chg} {r : List Chg} (e : l = c :: r) : p ≤ c.1 ∧ c.1 + c.2.1.length ≤ n ∧ ChC n (c.1 + c.2.1.length) r := by
  subst e; exact h

set_option maxHeartbeats 4000000 in
set_option maxRecDepth 100000 in
theorem Marked_ok (a b : List UInt8) (ha : a.length ≤ 1000000000) (hb : b.length ≤ 1000000000) : PCall Tryd.prog E0 10 [.str a, .str b] (fun r => r = if eBoth a b = 0 then .tup [.str (jnF (mkF (tokF a) (tokF b))), int 0] else .tup [.str [], int (eBoth a b)]) := by
  refine pcallF mixed Tryd.func10 ck_near_Marked ?_
  simp only [a0, l0, OS.ao, List.map_cons, List.map_nil, List.length_cons, List.length_nil, List.cons_append, List.nil_append, Nat.reduceSub, Nat.reduceAdd, List.replicate_succ, List.replicate_zero, ir_near_Marked, rs_near_Marked, ZZ, YY, Ze, ite_true, ite_false, forall_const, reduceCtorEq, Nat.reduceAdd, Nat.reduceMul, Nat.reduceLeDiff, Nat.reduceLT, Nat.reduceEqDiff]
  refine use (both_ok a b ha hb) rfl (.inl rfl) ?_
  rintro r ⟨X, Y, rfl, h⟩
  simp only [ZZ, YY, Ze, ite_true, ite_false, forall_const, reduceCtorEq, Nat.reduceAdd, Nat.reduceMul, Nat.reduceLeDiff, Nat.reduceLT, Nat.reduceEqDiff]
  by_cases h0 : eBoth a b = 0
  rotate_left
  · have hd : decide (eBoth a b = 0) = false := decide_eq_false h0
    simp only [ZZ, YY, Ze, ite_true, ite_false, forall_const, reduceCtorEq, Nat.reduceAdd, Nat.reduceMul, Nat.reduceLeDiff, Nat.reduceLT, Nat.reduceEqDiff, hd]
    rw [if_neg h0]
  have hd : decide (eBoth a b = 0) = true := decide_eq_true h0
  obtain ⟨rfl, rfl⟩ := h h0
  have h1 : eTok a = 0 := by
    by_cases h1 : eTok a = 0
    · exact h1
    · rw [eBoth, if_neg h1] at h0; exact h0
  have h2 : eTok b = 0 := by rwa [eBoth, if_pos h1] at h0
  have l1 := (eTok_zero h1).2
  have l2 := (eTok_zero h2).2
  have l3 := (eTok_zero h1).1
  have l4 := (eTok_zero h2).1
  have w1 := tokF_wgt a
  have w2 := tokF_wgt b
  rw [if_pos h0]
  simp only [ZZ, YY, Ze, ite_true, ite_false, forall_const, reduceCtorEq, Nat.reduceAdd, Nat.reduceMul, Nat.reduceLeDiff, Nat.reduceLT, Nat.reduceEqDiff, hd]
  refine use1 (plainR (changes_ok (tokF a) (tokF b) (by omega) (by omega))) rfl (.inl rfl) ?_
  have hm := mkF_wgt (tokF a) (tokF b)
  have hcl := chF_len (tokF a) (tokF b)
  have hcm := chF_mem (tokF a) (tokF b)
  have hcc := chF_chC (tokF a) (tokF b)
  have hW1 : wgt (tokF a) ≤ 70000 := by omega
  have hW2 : wgt (tokF b) ≤ 70000 := by omega
  have hM : wgt (mkF (tokF a) (tokF b)) ≤ 150000 := by omega
  rw [mkF] at *
  generalize chF (tokF a) (tokF b) = cs at *
  generalize tokF a = x at *
  generalize tokF b = y at *
  simp only [ZZ, YY, Ze, ite_true, ite_false, forall_const, reduceCtorEq, Nat.reduceAdd, Nat.reduceMul, Nat.reduceLeDiff, Nat.reduceLT, Nat.reduceEqDiff, chE_len]
  ((repeat' (with_reducible apply And.intro)) <;> try ((first | first | assumption | trivial | exact (fun hq => by rw [hq]; rfl) | exact i64_of (by omega) (by omega) | omega | (simp; done) | (simp; omega) | (intro hsc; have hs0 := hsc; (try have hsd := of_decide_eq_true hsc); (try simp only [Bool.not_eq_true', Bool.or_eq_false_iff, Bool.and_eq_true, Bool.or_eq_true, decide_eq_true_eq, decide_eq_false_iff_not] at hsc); (repeat' (with_reducible apply And.intro)) <;> (first | assumption | trivial | exact (fun hq => by rw [hq]; rfl) | exact i64_of (by omega) (by omega) | omega | (simp; done) | (simp; omega) | (intro hse; simp [hse, hs0]; done) | (intro hse; simp only [hse, hs0, Bool.true_and, Bool.and_true, Bool.not_false, Bool.not_true, Bool.and_self]; done))))))
  refine loop_intro (fun n fr L => ∃ (k : Nat) (p : Nat) (out : Toks), k ≤ cs.length ∧ n = cs.length - k ∧ (out.length ≤ p + 2 * k) ∧ (mkP x cs 0 = out ++ mkP x (cs.drop k) p) ∧ (ChC x.length p (cs.drop k)) ∧ fr = [.p (.str a), .p (.str b), .any, .any, .any, .any, .p (.sl 1 (strE x)), .any, .any, .row (.l 9), .p (int (p : Nat)), .any, .any, .any, .any, .any, .any, .any, .any, .any, .any, .any, .any, .any, .any, .any, .p (.sl 3 (chE cs)), .p (int (cs.length : Nat)), .p (int (k : Nat)), .any, .any, .any, .any, .any, .any, .any, .any, .any, .any, .any, .any, .any, .any, .any, .any, .any, .any, .any, .any, .any, .any, .any, .any, .any, .any, .any, .any, .any, .any, .any, .any, .any, .any, .any, .any, .any, .any, .any, .any, .any, .any, .any, .any, .any, .any, .any, .any, .any, .any, .any] ∧ L = [(.l 9, .row (strE out) tStr 1 true)]) (cs.length) [.p (.str a), .p (.str b), .any, .any, .any, .any, .p (.sl 1 (strE x)), .any, .any, .row (.l 9), .p (int (0 : Nat)), .any, .any, .any, .any, .any, .any, .any, .any, .any, .any, .any, .any, .any, .any, .any, .p (.sl 3 (chE cs)), .p (int (cs.length : Nat)), .p (int (0 : Nat)), .any, .any, .any, .any, .any, .any, .any, .any, .any, .any, .any, .any, .any, .any, .any, .any, .any, .any, .any, .any, .any, .any, .any, .any, .any, .any, .any, .any, .any, .any, .any, .any, .any, .any, .any, .any, .any, .any, .any, .any, .any, .any, .any, .any, .any, .any, .any, .any, .any, .any, .any] [(.l 9, .row (strE []) tStr 1 true)] (by simp only [ZZ, YY, Ze, ite_true, ite_false, forall_const, reduceCtorEq, Nat.reduceAdd, Nat.reduceMul, Nat.reduceLeDiff, Nat.reduceLT, Nat.reduceEqDiff, strE_len, chE_len]; try trivial) (by (simp only [ZZ, YY, Ze, ite_true, ite_false, forall_const, reduceCtorEq, Nat.reduceAdd, Nat.reduceMul, Nat.reduceLeDiff, Nat.reduceLT, Nat.reduceEqDiff]; try trivial)) ⟨0, 0, [], by omega, by omega, by simp, by simp, by simpa using hcc, rfl, rfl⟩ ?_
  rintro n fr L ⟨k, p, out, hk, rfl, ho, hf, hc, rfl, rfl⟩
  simp only [ir_near_Marked_L0, ZZ, YY, Ze, ite_true, ite_false, forall_const, reduceCtorEq, Nat.reduceAdd, Nat.reduceMul, Nat.reduceLeDiff, Nat.reduceLT, Nat.reduceEqDiff]
  refine br ?_ ?_
  · intro h
    have hlt : k < cs.length := by have := of_decide_eq_true h; omega
    obtain ⟨c, hp⟩ : ∃ c, cs[k]? = some c := ⟨_, List.getElem?_eq_getElem hlt⟩
    have hg : (chE cs).getD k [] = [int (c.1 : Nat), .sl 1 (strE c.2.1), .sl 1 (strE c.2.2)] := by unfold chE; exact getD_map hp
    have hd : cs.drop k = c :: cs.drop (k + 1) := by
      obtain ⟨hl, rfl⟩ := List.getElem?_eq_some_iff.1 hp
      exact List.drop_eq_getElem_cons hl
    obtain ⟨c1, c2, c3⟩ := chC_drop hc hd
    obtain ⟨m1, m2⟩ := hcm c (List.mem_of_getElem? hp)
    have g1 : wgt c.2.1 ≤ 1000000000 := by omega
    have g2 : wgt c.2.2 ≤ 1000000000 := by omega
    have e1 : ((strE x).take c.1).drop p = strE ((x.take c.1).drop p) := by rw [strE, strE, ← List.map_take, ← List.map_drop]
    have e2 : ∀ l m : Toks, strE l ++ strE m = strE (l ++ m) := by intro l m; simp [strE]
    have e3 : ∀ (l : Toks) (s : List UInt8), strE l ++ [[PV.str s]] = strE (l ++ [s]) := by intro l s; simp [strE]
    rw [hd, mkP] at hf
    have ln := cut_len x p c.1 (by omega)
    simp only [ZZ, YY, Ze, ite_true, ite_false, forall_const, reduceCtorEq, Nat.reduceAdd, Nat.reduceMul, Nat.reduceLeDiff, Nat.reduceLT, Nat.reduceEqDiff, hg, chE_len, strE_len, e1, e2, ln]
    ((repeat' (with_reducible apply And.intro)) <;> try ((first | first | assumption | trivial | exact (fun hq => by rw [hq]; rfl) | exact i64_of (by omega) (by omega) | omega | (simp; done) | (simp; omega) | (intro hsc; have hs0 := hsc; (try have hsd := of_decide_eq_true hsc); (try simp only [Bool.not_eq_true', Bool.or_eq_false_iff, Bool.and_eq_true, Bool.or_eq_true, decide_eq_true_eq, decide_eq_false_iff_not] at hsc); (repeat' (with_reducible apply And.intro)) <;> (first | assumption | trivial | exact (fun hq => by rw [hq]; rfl) | exact i64_of (by omega) (by omega) | omega | (simp; done) | (simp; omega) | (intro hse; simp [hse, hs0]; done) | (intro hse; simp only [hse, hs0, Bool.true_and, Bool.and_true, Bool.not_false, Bool.not_true, Bool.and_self]; done))))))
    have jl1 := jnF_wgt c.2.1
    have jl2 := jnF_wgt c.2.2
    refine br ?_ ?_
    · intro hb
      have hb : 0 < c.2.1.length := by have := of_decide_eq_true hb; omega
      rw [if_pos hb] at hf
      simp only [ZZ, YY, Ze, ite_true, ite_false, forall_const, reduceCtorEq, Nat.reduceAdd, Nat.reduceMul, Nat.reduceLeDiff, Nat.reduceLT, Nat.reduceEqDiff]
      refine use1 (NJoin_ok c.2.1 g1) rfl (.inl rfl) ?_
      simp only [ZZ, YY, Ze, ite_true, ite_false, forall_const, reduceCtorEq, Nat.reduceAdd, Nat.reduceMul, Nat.reduceLeDiff, Nat.reduceLT, Nat.reduceEqDiff, strE_len, e3, List.length_append, ln]
      ((repeat' (with_reducible apply And.intro)) <;> try ((first | first | assumption | trivial | exact (fun hq => by rw [hq]; rfl) | exact i64_of (by omega) (by omega) | omega | (simp; done) | (simp; omega) | (intro hsc; have hs0 := hsc; (try have hsd := of_decide_eq_true hsc); (try simp only [Bool.not_eq_true', Bool.or_eq_false_iff, Bool.and_eq_true, Bool.or_eq_true, decide_eq_true_eq, decide_eq_false_iff_not] at hsc); (repeat' (with_reducible apply And.intro)) <;> (first | assumption | trivial | exact (fun hq => by rw [hq]; rfl) | exact i64_of (by omega) (by omega) | omega | (simp; done) | (simp; omega) | (intro hse; simp [hse, hs0]; done) | (intro hse; simp only [hse, hs0, Bool.true_and, Bool.and_true, Bool.not_false, Bool.not_true, Bool.and_self]; done))))))
      refine cut_same (by simp only [ZZ, YY, Ze, ite_true, ite_false, forall_const, reduceCtorEq, Nat.reduceAdd, Nat.reduceMul, Nat.reduceLeDiff, Nat.reduceLT, Nat.reduceEqDiff]) ?_
      simp only [ZZ, YY, Ze, ite_true, ite_false, forall_const, reduceCtorEq, Nat.reduceAdd, Nat.reduceMul, Nat.reduceLeDiff, Nat.reduceLT, Nat.reduceEqDiff, strE_len]
      ((repeat' (with_reducible apply And.intro)) <;> try ((first | first | assumption | trivial | exact (fun hq => by rw [hq]; rfl) | exact i64_of (by omega) (by omega) | omega | (simp; done) | (simp; omega) | (intro hsc; have hs0 := hsc; (try have hsd := of_decide_eq_true hsc); (try simp only [Bool.not_eq_true', Bool.or_eq_false_iff, Bool.and_eq_true, Bool.or_eq_true, decide_eq_true_eq, decide_eq_false_iff_not] at hsc); (repeat' (with_reducible apply And.intro)) <;> (first | assumption | trivial | exact (fun hq => by rw [hq]; rfl) | exact i64_of (by omega) (by omega) | omega | (simp; done) | (simp; omega) | (intro hse; simp [hse, hs0]; done) | (intro hse; simp only [hse, hs0, Bool.true_and, Bool.and_true, Bool.not_false, Bool.not_true, Bool.and_self]; done))))))
      refine br ?_ ?_
      · intro hb2
        have hb2 : 0 < c.2.2.length := by have := of_decide_eq_true hb2; omega
        rw [if_pos hb2] at hf
        simp only [ZZ, YY, Ze, ite_true, ite_false, forall_const, reduceCtorEq, Nat.reduceAdd, Nat.reduceMul, Nat.reduceLeDiff, Nat.reduceLT, Nat.reduceEqDiff]
        refine use1 (NJoin_ok c.2.2 g2) rfl (.inl rfl) ?_
        simp only [ZZ, YY, Ze, ite_true, ite_false, forall_const, reduceCtorEq, Nat.reduceAdd, Nat.reduceMul, Nat.reduceLeDiff, Nat.reduceLT, Nat.reduceEqDiff, strE_len, e3, List.length_append, ln]
        ((repeat' (with_reducible apply And.intro)) <;> try ((first | first | assumption | trivial | exact (fun hq => by rw [hq]; rfl) | exact i64_of (by omega) (by omega) | omega | (simp; done) | (simp; omega) | (intro hsc; have hs0 := hsc; (try have hsd := of_decide_eq_true hsc); (try simp only [Bool.not_eq_true', Bool.or_eq_false_iff, Bool.and_eq_true, Bool.or_eq_true, decide_eq_true_eq, decide_eq_false_iff_not] at hsc); (repeat' (with_reducible apply And.intro)) <;> (first | assumption | trivial | exact (fun hq => by rw [hq]; rfl) | exact i64_of (by omega) (by omega) | omega | (simp; done) | (simp; omega) | (intro hse; simp [hse, hs0]; done) | (intro hse; simp only [hse, hs0, Bool.true_and, Bool.and_true, Bool.not_false, Bool.not_true, Bool.and_self]; done))))))
        refine cut_same (by simp only [ZZ, YY, Ze, ite_true, ite_false, forall_const, reduceCtorEq, Nat.reduceAdd, Nat.reduceMul, Nat.reduceLeDiff, Nat.reduceLT, Nat.reduceEqDiff]) ?_
        simp only [ZZ, YY, Ze, ite_true, ite_false, forall_const, reduceCtorEq, Nat.reduceAdd, Nat.reduceMul, Nat.reduceLeDiff, Nat.reduceLT, Nat.reduceEqDiff, strE_len]
        ((repeat' (with_reducible apply And.intro)) <;> try ((first | first | assumption | trivial | exact (fun hq => by rw [hq]; rfl) | exact i64_of (by omega) (by omega) | omega | (simp; done) | (simp; omega) | (intro hsc; have hs0 := hsc; (try have hsd := of_decide_eq_true hsc); (try simp only [Bool.not_eq_true', Bool.or_eq_false_iff, Bool.and_eq_true, Bool.or_eq_true, decide_eq_true_eq, decide_eq_false_iff_not] at hsc); (repeat' (with_reducible apply And.intro)) <;> (first | assumption | trivial | exact (fun hq => by rw [hq]; rfl) | exact i64_of (by omega) (by omega) | omega | (simp; done) | (simp; omega) | (intro hse; simp [hse, hs0]; done) | (intro hse; simp only [hse, hs0, Bool.true_and, Bool.and_true, Bool.not_false, Bool.not_true, Bool.and_self]; done))))))
        refine end_round (cs.length - (k + 1)) [.p (.str a), .p (.str b), .any, .any, .any, .any, .p (.sl 1 (strE x)), .any, .any, .row (.l 9), .p (int ((c.1 + c.2.1.length) : Nat)), .any, .any, .any, .any, .any, .any, .any, .any, .any, .any, .any, .any, .any, .any, .any, .p (.sl 3 (chE cs)), .p (int (cs.length : Nat)), .p (int ((k + 1) : Nat)), .any, .any, .any, .any, .any, .any, .any, .any, .any, .any, .any, .any, .any, .any, .any, .any, .any, .any, .any, .any, .any, .any, .any, .any, .any, .any, .any, .any, .any, .any, .any, .any, .any, .any, .any, .any, .any, .any, .any, .any, .any, .any, .any, .any, .any, .any, .any, .any, .any, .any, .any] [(.l 9, .row (strE ((((out ++ (x.take c.1).drop p) ++ [[91, 45] ++ jnF c.2.1 ++ [45, 93]]) ++ [[123, 43] ++ jnF c.2.2 ++ [43, 125]]))) tStr 1 true)] (by omega) (by (simp only [ZZ, YY, Ze, ite_true, ite_false, forall_const, reduceCtorEq, Nat.reduceAdd, Nat.reduceMul, Nat.reduceLeDiff, Nat.reduceLT, Nat.reduceEqDiff]; try trivial)) (by (simp only [ZZ, YY, Ze, ite_true, ite_false, forall_const, reduceCtorEq, Nat.reduceAdd, Nat.reduceMul, Nat.reduceLeDiff, Nat.reduceLT, Nat.reduceEqDiff]; try trivial)) ⟨k + 1, c.1 + c.2.1.length, (((out ++ (x.take c.1).drop p) ++ [[91, 45] ++ jnF c.2.1 ++ [45, 93]]) ++ [[123, 43] ++ jnF c.2.2 ++ [43, 125]]), by omega, rfl, by simp only [List.length_append, ln, List.length_cons, List.length_nil]; omega, by rw [hf]; simp only [List.append_assoc, List.nil_append], c3, rfl, rfl⟩
      · intro hb2
        have hb2 : ¬ 0 < c.2.2.length := by have := of_decide_eq_false hb2; omega
        rw [if_neg hb2] at hf
        simp only [ZZ, YY, Ze, ite_true, ite_false, forall_const, reduceCtorEq, Nat.reduceAdd, Nat.reduceMul, Nat.reduceLeDiff, Nat.reduceLT, Nat.reduceEqDiff]
        refine cut_same (by simp only [ZZ, YY, Ze, ite_true, ite_false, forall_const, reduceCtorEq, Nat.reduceAdd, Nat.reduceMul, Nat.reduceLeDiff, Nat.reduceLT, Nat.reduceEqDiff]) ?_
        simp only [ZZ, YY, Ze, ite_true, ite_false, forall_const, reduceCtorEq, Nat.reduceAdd, Nat.reduceMul, Nat.reduceLeDiff, Nat.reduceLT, Nat.reduceEqDiff, strE_len]
        ((repeat' (with_reducible apply And.intro)) <;> try ((first | first | assumption | trivial | exact (fun hq => by rw [hq]; rfl) | exact i64_of (by omega) (by omega) | omega | (simp; done) | (simp; omega) | (intro hsc; have hs0 := hsc; (try have hsd := of_decide_eq_true hsc); (try simp only [Bool.not_eq_true', Bool.or_eq_false_iff, Bool.and_eq_true, Bool.or_eq_true, decide_eq_true_eq, decide_eq_false_iff_not] at hsc); (repeat' (with_reducible apply And.intro)) <;> (first | assumption | trivial | exact (fun hq => by rw [hq]; rfl) | exact i64_of (by omega) (by omega) | omega | (simp; done) | (simp; omega) | (intro hse; simp [hse, hs0]; done) | (intro hse; simp only [hse, hs0, Bool.true_and, Bool.and_true, Bool.not_false, Bool.not_true, Bool.and_self]; done))))))
        refine end_round (cs.length - (k + 1)) [.p (.str a), .p (.str b), .any, .any, .any, .any, .p (.sl 1 (strE x)), .any, .any, .row (.l 9), .p (int ((c.1 + c.2.1.length) : Nat)), .any, .any, .any, .any, .any, .any, .any, .any, .any, .any, .any, .any, .any, .any, .any, .p (.sl 3 (chE cs)), .p (int (cs.length : Nat)), .p (int ((k + 1) : Nat)), .any, .any, .any, .any, .any, .any, .any, .any, .any, .any, .any, .any, .any, .any, .any, .any, .any, .any, .any, .any, .any, .any, .any, .any, .any, .any, .any, .any, .any, .any, .any, .any, .any, .any, .any, .any, .any, .any, .any, .any, .any, .any, .any, .any, .any, .any, .any, .any, .any, .any, .any] [(.l 9, .row (strE (((out ++ (x.take c.1).drop p) ++ [[91, 45] ++ jnF c.2.1 ++ [45, 93]]))) tStr 1 true)] (by omega) (by (simp only [ZZ, YY, Ze, ite_true, ite_false, forall_const, reduceCtorEq, Nat.reduceAdd, Nat.reduceMul, Nat.reduceLeDiff, Nat.reduceLT, Nat.reduceEqDiff]; try trivial)) (by (simp only [ZZ, YY, Ze, ite_true, ite_false, forall_const, reduceCtorEq, Nat.reduceAdd, Nat.reduceMul, Nat.reduceLeDiff, Nat.reduceLT, Nat.reduceEqDiff]; try trivial)) ⟨k + 1, c.1 + c.2.1.length, ((out ++ (x.take c.1).drop p) ++ [[91, 45] ++ jnF c.2.1 ++ [45, 93]]), by omega, rfl, by simp only [List.length_append, ln, List.length_cons, List.length_nil]; omega, by rw [hf]; simp only [List.append_assoc, List.nil_append], c3, rfl, rfl⟩
    · intro hb
      have hb : ¬ 0 < c.2.1.length := by have := of_decide_eq_false hb; omega
      rw [if_neg hb] at hf
      simp only [ZZ, YY, Ze, ite_true, ite_false, forall_const, reduceCtorEq, Nat.reduceAdd, Nat.reduceMul, Nat.reduceLeDiff, Nat.reduceLT, Nat.reduceEqDiff]
      refine cut_same (by simp only [ZZ, YY, Ze, ite_true, ite_false, forall_const, reduceCtorEq, Nat.reduceAdd, Nat.reduceMul, Nat.reduceLeDiff, Nat.reduceLT, Nat.reduceEqDiff]) ?_
      simp only [ZZ, YY, Ze, ite_true, ite_false, forall_const, reduceCtorEq, Nat.reduceAdd, Nat.reduceMul, Nat.reduceLeDiff, Nat.reduceLT, Nat.reduceEqDiff, strE_len]
      ((repeat' (with_reducible apply And.intro)) <;> try ((first | first | assumption | trivial | exact (fun hq => by rw [hq]; rfl) | exact i64_of (by omega) (by omega) | omega | (simp; done) | (simp; omega) | (intro hsc; have hs0 := hsc; (try have hsd := of_decide_eq_true hsc); (try simp only [Bool.not_eq_true', Bool.or_eq_false_iff, Bool.and_eq_true, Bool.or_eq_true, decide_eq_true_eq, decide_eq_false_iff_not] at hsc); (repeat' (with_reducible apply And.intro)) <;> (first | assumption | trivial | exact (fun hq => by rw [hq]; rfl) | exact i64_of (by omega) (by omega) | omega | (simp; done) | (simp; omega) | (intro hse; simp [hse, hs0]; done) | (intro hse; simp only [hse, hs0, Bool.true_and, Bool.and_true, Bool.not_false, Bool.not_true, Bool.and_self]; done))))))
      refine br ?_ ?_
      · intro hb2
        have hb2 : 0 < c.2.2.length := by have := of_decide_eq_true hb2; omega
        rw [if_pos hb2] at hf
        simp only [ZZ, YY, Ze, ite_true, ite_false, forall_const, reduceCtorEq, Nat.reduceAdd, Nat.reduceMul, Nat.reduceLeDiff, Nat.reduceLT, Nat.reduceEqDiff]
        refine use1 (NJoin_ok c.2.2 g2) rfl (.inl rfl) ?_
        simp only [ZZ, YY, Ze, ite_true, ite_false, forall_const, reduceCtorEq, Nat.reduceAdd, Nat.reduceMul, Nat.reduceLeDiff, Nat.reduceLT, Nat.reduceEqDiff, strE_len, e3, List.length_append, ln]
        ((repeat' (with_reducible apply And.intro)) <;> try ((first | first | assumption | trivial | exact (fun hq => by rw [hq]; rfl) | exact i64_of (by omega) (by omega) | omega | (simp; done) | (simp; omega) | (intro hsc; have hs0 := hsc; (try have hsd := of_decide_eq_true hsc); (try simp only [Bool.not_eq_true', Bool.or_eq_false_iff, Bool.and_eq_true, Bool.or_eq_true, decide_eq_true_eq, decide_eq_false_iff_not] at hsc); (repeat' (with_reducible apply And.intro)) <;> (first | assumption | trivial | exact (fun hq => by rw [hq]; rfl) | exact i64_of (by omega) (by omega) | omega | (simp; done) | (simp; omega) | (intro hse; simp [hse, hs0]; done) | (intro hse; simp only [hse, hs0, Bool.true_and, Bool.and_true, Bool.not_false, Bool.not_true, Bool.and_self]; done))))))
        refine cut_same (by simp only [ZZ, YY, Ze, ite_true, ite_false, forall_const, reduceCtorEq, Nat.reduceAdd, Nat.reduceMul, Nat.reduceLeDiff, Nat.reduceLT, Nat.reduceEqDiff]) ?_
        simp only [ZZ, YY, Ze, ite_true, ite_false, forall_const, reduceCtorEq, Nat.reduceAdd, Nat.reduceMul, Nat.reduceLeDiff, Nat.reduceLT, Nat.reduceEqDiff, strE_len]
        ((repeat' (with_reducible apply And.intro)) <;> try ((first | first | assumption | trivial | exact (fun hq => by rw [hq]; rfl) | exact i64_of (by omega) (by omega) | omega | (simp; done) | (simp; omega) | (intro hsc; have hs0 := hsc; (try have hsd := of_decide_eq_true hsc); (try simp only [Bool.not_eq_true', Bool.or_eq_false_iff, Bool.and_eq_true, Bool.or_eq_true, decide_eq_true_eq, decide_eq_false_iff_not] at hsc); (repeat' (with_reducible apply And.intro)) <;> (first | assumption | trivial | exact (fun hq => by rw [hq]; rfl) | exact i64_of (by omega) (by omega) | omega | (simp; done) | (simp; omega) | (intro hse; simp [hse, hs0]; done) | (intro hse; simp only [hse, hs0, Bool.true_and, Bool.and_true, Bool.not_false, Bool.not_true, Bool.and_self]; done))))))
        refine end_round (cs.length - (k + 1)) [.p (.str a), .p (.str b), .any, .any, .any, .any, .p (.sl 1 (strE x)), .any, .any, .row (.l 9), .p (int ((c.1 + c.2.1.length) : Nat)), .any, .any, .any, .any, .any, .any, .any, .any, .any, .any, .any, .any, .any, .any, .any, .p (.sl 3 (chE cs)), .p (int (cs.length : Nat)), .p (int ((k + 1) : Nat)), .any, .any, .any, .any, .any, .any, .any, .any, .any, .any, .any, .any, .any, .any, .any, .any, .any, .any, .any, .any, .any, .any, .any, .any, .any, .any, .any, .any, .any, .any, .any, .any, .any, .any, .any, .any, .any, .any, .any, .any, .any, .any, .any, .any, .any, .any, .any, .any, .any, .any, .any] [(.l 9, .row (strE (((out ++ (x.take c.1).drop p) ++ [[123, 43] ++ jnF c.2.2 ++ [43, 125]]))) tStr 1 true)] (by omega) (by (simp only [ZZ, YY, Ze, ite_true, ite_false, forall_const, reduceCtorEq, Nat.reduceAdd, Nat.reduceMul, Nat.reduceLeDiff, Nat.reduceLT, Nat.reduceEqDiff]; try trivial)) (by (simp only [ZZ, YY, Ze, ite_true, ite_false, forall_const, reduceCtorEq, Nat.reduceAdd, Nat.reduceMul, Nat.reduceLeDiff, Nat.reduceLT, Nat.reduceEqDiff]; try trivial)) ⟨k + 1, c.1 + c.2.1.length, ((out ++ (x.take c.1).drop p) ++ [[123, 43] ++ jnF c.2.2 ++ [43, 125]]), by omega, rfl, by simp only [List.length_append, ln, List.length_cons, List.length_nil]; omega, by rw [hf]; simp only [List.append_assoc, List.nil_append], c3, rfl, rfl⟩
      · intro hb2
        have hb2 : ¬ 0 < c.2.2.length := by have := of_decide_eq_false hb2; omega
        rw [if_neg hb2] at hf
        simp only [ZZ, YY, Ze, ite_true, ite_false, forall_const, reduceCtorEq, Nat.reduceAdd, Nat.reduceMul, Nat.reduceLeDiff, Nat.reduceLT, Nat.reduceEqDiff]
        refine cut_same (by simp only [ZZ, YY, Ze, ite_true, ite_false, forall_const, reduceCtorEq, Nat.reduceAdd, Nat.reduceMul, Nat.reduceLeDiff, Nat.reduceLT, Nat.reduceEqDiff]) ?_
        simp only [ZZ, YY, Ze, ite_true, ite_false, forall_const, reduceCtorEq, Nat.reduceAdd, Nat.reduceMul, Nat.reduceLeDiff, Nat.reduceLT, Nat.reduceEqDiff, strE_len]
        ((repeat' (with_reducible apply And.intro)) <;> try ((first | first | assumption | trivial | exact (fun hq => by rw [hq]; rfl) | exact i64_of (by omega) (by omega) | omega | (simp; done) | (simp; omega) | (intro hsc; have hs0 := hsc; (try have hsd := of_decide_eq_true hsc); (try simp only [Bool.not_eq_true', Bool.or_eq_false_iff, Bool.and_eq_true, Bool.or_eq_true, decide_eq_true_eq, decide_eq_false_iff_not] at hsc); (repeat' (with_reducible apply And.intro)) <;> (first | assumption | trivial | exact (fun hq => by rw [hq]; rfl) | exact i64_of (by omega) (by omega) | omega | (simp; done) | (simp; omega) | (intro hse; simp [hse, hs0]; done) | (intro hse; simp only [hse, hs0, Bool.true_and, Bool.and_true, Bool.not_false, Bool.not_true, Bool.and_self]; done))))))
        refine end_round (cs.length - (k + 1)) [.p (.str a), .p (.str b), .any, .any, .any, .any, .p (.sl 1 (strE x)), .any, .any, .row (.l 9), .p (int ((c.1 + c.2.1.length) : Nat)), .any, .any, .any, .any, .any, .any, .any, .any, .any, .any, .any, .any, .any, .any, .any, .p (.sl 3 (chE cs)), .p (int (cs.length : Nat)), .p (int ((k + 1) : Nat)), .any, .any, .any, .any, .any, .any, .any, .any, .any, .any, .any, .any, .any, .any, .any, .any, .any, .any, .any, .any, .any, .any, .any, .any, .any, .any, .any, .any, .any, .any, .any, .any, .any, .any, .any, .any, .any, .any, .any, .any, .any, .any, .any, .any, .any, .any, .any, .any, .any, .any, .any] [(.l 9, .row (strE ((out ++ (x.take c.1).drop p))) tStr 1 true)] (by omega) (by (simp only [ZZ, YY, Ze, ite_true, ite_false, forall_const, reduceCtorEq, Nat.reduceAdd, Nat.reduceMul, Nat.reduceLeDiff, Nat.reduceLT, Nat.reduceEqDiff]; try trivial)) (by (simp only [ZZ, YY, Ze, ite_true, ite_false, forall_const, reduceCtorEq, Nat.reduceAdd, Nat.reduceMul, Nat.reduceLeDiff, Nat.reduceLT, Nat.reduceEqDiff]; try trivial)) ⟨k + 1, c.1 + c.2.1.length, (out ++ (x.take c.1).drop p), by omega, rfl, by simp only [List.length_append, ln, List.length_cons, List.length_nil]; omega, by rw [hf]; simp only [List.append_assoc, List.nil_append], c3, rfl, rfl⟩
  · intro h
    have hge : k = cs.length := by have := of_decide_eq_false h; omega
    subst hge
    rw [List.drop_length] at hc hf
    have hpx : p ≤ x.length := hc
    simp only [ZZ, YY, Ze, ite_true, ite_false, forall_const, reduceCtorEq, Nat.reduceAdd, Nat.reduceMul, Nat.reduceLeDiff, Nat.reduceLT, Nat.reduceEqDiff, strE_len]
    ((repeat' (with_reducible apply And.intro)) <;> try ((first | first | assumption | trivial | exact (fun hq => by rw [hq]; rfl) | exact i64_of (by omega) (by omega) | omega | (simp; done) | (simp; omega) | (intro hsc; have hs0 := hsc; (try have hsd := of_decide_eq_true hsc); (try simp only [Bool.not_eq_true', Bool.or_eq_false_iff, Bool.and_eq_true, Bool.or_eq_true, decide_eq_true_eq, decide_eq_false_iff_not] at hsc); (repeat' (with_reducible apply And.intro)) <;> (first | assumption | trivial | exact (fun hq => by rw [hq]; rfl) | exact i64_of (by omega) (by omega) | omega | (simp; done) | (simp; omega) | (intro hse; simp [hse, hs0]; done) | (intro hse; simp only [hse, hs0, Bool.true_and, Bool.and_true, Bool.not_false, Bool.not_true, Bool.and_self]; done))))))
    have hz : strE out ++ ((strE x).take x.length).drop p = strE (mkP x cs 0) := by
      rw [hf, mkP, List.take_of_length_le (by rw [strE_len]; exact Nat.le_refl _)]
      simp [strE, List.map_drop]
    rw [hz]
    have jl := jnF_wgt (mkP x cs 0)
    refine use1 (NJoin_ok (mkP x cs 0) (by omega)) rfl (.inr rfl) ?_
    have hd2 : decide ((200000 : Int) < ((jnF (mkP x cs 0)).length : Nat)) = false := decide_eq_false (by omega)
    simp only [ZZ, YY, Ze, ite_true, ite_false, forall_const, reduceCtorEq, Nat.reduceAdd, Nat.reduceMul, Nat.reduceLeDiff, Nat.reduceLT, Nat.reduceEqDiff, hd2]

set_option maxHeartbeats 4000000 in
set_option maxRecDepth 100000 in
theorem MarkedOf_ok (a b : List UInt8) (ha : a.length ≤ 20000) (hb : b.length ≤ 20000) (l1 : (tokF a).length ≤ 2000) (l2 : (tokF b).length ≤ 2000) : PCall Tryd.prog E0 16 [.str a, .str b] (· = .str (jnF (mkF (tokF a) (tokF b)))) := by
  refine pcallF mixed Tryd.func16 ck_chaseref1_MarkedOf ?_
  simp only [a0, l0, OS.ao, List.map_cons, List.map_nil, List.length_cons, List.length_nil, List.cons_append, List.nil_append, Nat.reduceSub, Nat.reduceAdd, List.replicate_succ, List.replicate_zero, ir_chaseref1_MarkedOf, rs_chaseref1_MarkedOf, ZZ, YY, Ze, ite_true, ite_false, forall_const, reduceCtorEq, Nat.reduceAdd, Nat.reduceMul, Nat.reduceLeDiff, Nat.reduceLT, Nat.reduceEqDiff]
  refine use1 (plainR (TokensOf_ok a (by omega))) rfl (.inl rfl) ?_
  simp only [ZZ, YY, Ze, ite_true, ite_false, forall_const, reduceCtorEq, Nat.reduceAdd, Nat.reduceMul, Nat.reduceLeDiff, Nat.reduceLT, Nat.reduceEqDiff]
  have w1 := tokF_wgt a
  have w2 := tokF_wgt b
  refine use1 (plainR (DifferOf_ok a b (by omega) (by omega) l1 l2)) rfl (.inl rfl) ?_
  have hm := mkF_wgt (tokF a) (tokF b)
  have hcl := chF_len (tokF a) (tokF b)
  have hcm := chF_mem (tokF a) (tokF b)
  have hcc := chF_chC (tokF a) (tokF b)
  have hW1 : wgt (tokF a) ≤ 70000 := by omega
  have hW2 : wgt (tokF b) ≤ 70000 := by omega
  have hM : wgt (mkF (tokF a) (tokF b)) ≤ 150000 := by omega
  rw [mkF] at *
  generalize chF (tokF a) (tokF b) = cs at *
  generalize tokF a = x at *
  generalize tokF b = y at *
  simp only [ZZ, YY, Ze, ite_true, ite_false, forall_const, reduceCtorEq, Nat.reduceAdd, Nat.reduceMul, Nat.reduceLeDiff, Nat.reduceLT, Nat.reduceEqDiff, chE_len]
  ((repeat' (with_reducible apply And.intro)) <;> try ((first | first | assumption | trivial | exact (fun hq => by rw [hq]; rfl) | exact i64_of (by omega) (by omega) | omega | (simp; done) | (simp; omega) | (intro hsc; have hs0 := hsc; (try have hsd := of_decide_eq_true hsc); (try simp only [Bool.not_eq_true', Bool.or_eq_false_iff, Bool.and_eq_true, Bool.or_eq_true, decide_eq_true_eq, decide_eq_false_iff_not] at hsc); (repeat' (with_reducible apply And.intro)) <;> (first | assumption | trivial | exact (fun hq => by rw [hq]; rfl) | exact i64_of (by omega) (by omega) | omega | (simp; done) | (simp; omega) | (intro hse; simp [hse, hs0]; done) | (intro hse; simp only [hse, hs0, Bool.true_and, Bool.and_true, Bool.not_false, Bool.not_true, Bool.and_self]; done))))))
  refine loop_intro (fun n fr L => ∃ (k : Nat) (p : Nat) (out : Toks), k ≤ cs.length ∧ n = cs.length - k ∧ (out.length ≤ p + 2 * k) ∧ (mkP x cs 0 = out ++ mkP x (cs.drop k) p) ∧ (ChC x.length p (cs.drop k)) ∧ fr = [.p (.str a), .p (.str b), .any, .any, .any, .p (.sl 1 (strE x)), .row (.l 6), .p (int (p : Nat)), .any, .any, .any, .any, .any, .any, .p (.sl 3 (chE cs)), .p (int (cs.length : Nat)), .p (int (k : Nat)), .any, .any, .any, .any, .any, .any, .any, .any, .any, .any, .any, .any, .any, .any, .any, .any, .any, .any, .any, .any, .any, .any, .any, .any, .any, .any, .any, .any, .any, .any, .any, .any, .any, .any, .any, .any, .any, .any, .any, .any, .any, .any, .any, .any, .any, .any, .any] ∧ L = [(.l 6, .row (strE out) tStr 1 true)]) (cs.length) [.p (.str a), .p (.str b), .any, .any, .any, .p (.sl 1 (strE x)), .row (.l 6), .p (int (0 : Nat)), .any, .any, .any, .any, .any, .any, .p (.sl 3 (chE cs)), .p (int (cs.length : Nat)), .p (int (0 : Nat)), .any, .any, .any, .any, .any, .any, .any, .any, .any, .any, .any, .any, .any, .any, .any, .any, .any, .any, .any, .any, .any, .any, .any, .any, .any, .any, .any, .any, .any, .any, .any, .any, .any, .any, .any, .any, .any, .any, .any, .any, .any, .any, .any, .any, .any, .any, .any] [(.l 6, .row (strE []) tStr 1 true)] (by simp only [ZZ, YY, Ze, ite_true, ite_false, forall_const, reduceCtorEq, Nat.reduceAdd, Nat.reduceMul, Nat.reduceLeDiff, Nat.reduceLT, Nat.reduceEqDiff, strE_len, chE_len]; try trivial) (by (simp only [ZZ, YY, Ze, ite_true, ite_false, forall_const, reduceCtorEq, Nat.reduceAdd, Nat.reduceMul, Nat.reduceLeDiff, Nat.reduceLT, Nat.reduceEqDiff]; try trivial)) ⟨0, 0, [], by omega, by omega, by simp, by simp, by simpa using hcc, rfl, rfl⟩ ?_
  rintro n fr L ⟨k, p, out, hk, rfl, ho, hf, hc, rfl, rfl⟩
  simp only [ir_chaseref1_MarkedOf_L0, ZZ, YY, Ze, ite_true, ite_false, forall_const, reduceCtorEq, Nat.reduceAdd, Nat.reduceMul, Nat.reduceLeDiff, Nat.reduceLT, Nat.reduceEqDiff]
  refine br ?_ ?_
  · intro h
    have hlt : k < cs.length := by have := of_decide_eq_true h; omega
    obtain ⟨c, hp⟩ : ∃ c, cs[k]? = some c := ⟨_, List.getElem?_eq_getElem hlt⟩
    have hg : (chE cs).getD k [] = [int (c.1 : Nat), .sl 1 (strE c.2.1), .sl 1 (strE c.2.2)] := by unfold chE; exact getD_map hp
    have hd : cs.drop k = c :: cs.drop (k + 1) := by
      obtain ⟨hl, rfl⟩ := List.getElem?_eq_some_iff.1 hp
      exact List.drop_eq_getElem_cons hl
    obtain ⟨c1, c2, c3⟩ := chC_drop hc hd
    obtain ⟨m1, m2⟩ := hcm c (List.mem_of_getElem? hp)
    have g1 : wgt c.2.1 ≤ 1000000000 := by omega
    have g2 : wgt c.2.2 ≤ 1000000000 := by omega
    have e1 : ((strE x).take c.1).drop p = strE ((x.take c.1).drop p) := by rw [strE, strE, ← List.map_take, ← List.map_drop]
    have e2 : ∀ l m : Toks, strE l ++ strE m = strE (l ++ m) := by intro l m; simp [strE]
    have e3 : ∀ (l : Toks) (s : List UInt8), strE l ++ [[PV.str s]] = strE (l ++ [s]) := by intro l s; simp [strE]
    rw [hd, mkP] at hf
    have ln := cut_len x p c.1 (by omega)
    simp only [ZZ, YY, Ze, ite_true, ite_false, forall_const, reduceCtorEq, Nat.reduceAdd, Nat.reduceMul, Nat.reduceLeDiff, Nat.reduceLT, Nat.reduceEqDiff, hg, chE_len, strE_len, e1, e2, ln]
    ((repeat' (with_reducible apply And.intro)) <;> try ((first | first | assumption | trivial | exact (fun hq => by rw [hq]; rfl) | exact i64_of (by omega) (by omega) | omega | (simp; done) | (simp; omega) | (intro hsc; have hs0 := hsc; (try have hsd := of_decide_eq_true hsc); (try simp only [Bool.not_eq_true', Bool.or_eq_false_iff, Bool.and_eq_true, Bool.or_eq_true, decide_eq_true_eq, decide_eq_false_iff_not] at hsc); (repeat' (with_reducible apply And.intro)) <;> (first | assumption | trivial | exact (fun hq => by rw [hq]; rfl) | exact i64_of (by omega) (by omega) | omega | (simp; done) | (simp; omega) | (intro hse; simp [hse, hs0]; done) | (intro hse; simp only [hse, hs0, Bool.true_and, Bool.and_true, Bool.not_false, Bool.not_true, Bool.and_self]; done))))))
    have jl1 := jnF_wgt c.2.1
    have jl2 := jnF_wgt c.2.2
    refine br ?_ ?_
    · intro hb
      have hb : 0 < c.2.1.length := by have := of_decide_eq_true hb; omega
      rw [if_pos hb] at hf
      simp only [ZZ, YY, Ze, ite_true, ite_false, forall_const, reduceCtorEq, Nat.reduceAdd, Nat.reduceMul, Nat.reduceLeDiff, Nat.reduceLT, Nat.reduceEqDiff]
      refine use1 (JoinOf_ok c.2.1 g1) rfl (.inl rfl) ?_
      simp only [ZZ, YY, Ze, ite_true, ite_false, forall_const, reduceCtorEq, Nat.reduceAdd, Nat.reduceMul, Nat.reduceLeDiff, Nat.reduceLT, Nat.reduceEqDiff, strE_len, e3, List.length_append, ln]
      ((repeat' (with_reducible apply And.intro)) <;> try ((first | first | assumption | trivial | exact (fun hq => by rw [hq]; rfl) | exact i64_of (by omega) (by omega) | omega | (simp; done) | (simp; omega) | (intro hsc; have hs0 := hsc; (try have hsd := of_decide_eq_true hsc); (try simp only [Bool.not_eq_true', Bool.or_eq_false_iff, Bool.and_eq_true, Bool.or_eq_true, decide_eq_true_eq, decide_eq_false_iff_not] at hsc); (repeat' (with_reducible apply And.intro)) <;> (first | assumption | trivial | exact (fun hq => by rw [hq]; rfl) | exact i64_of (by omega) (by omega) | omega | (simp; done) | (simp; omega) | (intro hse; simp [hse, hs0]; done) | (intro hse; simp only [hse, hs0, Bool.true_and, Bool.and_true, Bool.not_false, Bool.not_true, Bool.and_self]; done))))))
      refine cut_same (by simp only [ZZ, YY, Ze, ite_true, ite_false, forall_const, reduceCtorEq, Nat.reduceAdd, Nat.reduceMul, Nat.reduceLeDiff, Nat.reduceLT, Nat.reduceEqDiff]) ?_
      simp only [ZZ, YY, Ze, ite_true, ite_false, forall_const, reduceCtorEq, Nat.reduceAdd, Nat.reduceMul, Nat.reduceLeDiff, Nat.reduceLT, Nat.reduceEqDiff, strE_len]
      ((repeat' (with_reducible apply And.intro)) <;> try ((first | first | assumption | trivial | exact (fun hq => by rw [hq]; rfl) | exact i64_of (by omega) (by omega) | omega | (simp; done) | (simp; omega) | (intro hsc; have hs0 := hsc; (try have hsd := of_decide_eq_true hsc); (try simp only [Bool.not_eq_true', Bool.or_eq_false_iff, Bool.and_eq_true, Bool.or_eq_true, decide_eq_true_eq, decide_eq_false_iff_not] at hsc); (repeat' (with_reducible apply And.intro)) <;> (first | assumption | trivial | exact (fun hq => by rw [hq]; rfl) | exact i64_of (by omega) (by omega) | omega | (simp; done) | (simp; omega) | (intro hse; simp [hse, hs0]; done) | (intro hse; simp only [hse, hs0, Bool.true_and, Bool.and_true, Bool.not_false, Bool.not_true, Bool.and_self]; done))))))
      refine br ?_ ?_
      · intro hb2
        have hb2 : 0 < c.2.2.length := by have := of_decide_eq_true hb2; omega
        rw [if_pos hb2] at hf
        simp only [ZZ, YY, Ze, ite_true, ite_false, forall_const, reduceCtorEq, Nat.reduceAdd, Nat.reduceMul, Nat.reduceLeDiff, Nat.reduceLT, Nat.reduceEqDiff]
        refine use1 (JoinOf_ok c.2.2 g2) rfl (.inl rfl) ?_
        simp only [ZZ, YY, Ze, ite_true, ite_false, forall_const, reduceCtorEq, Nat.reduceAdd, Nat.reduceMul, Nat.reduceLeDiff, Nat.reduceLT, Nat.reduceEqDiff, strE_len, e3, List.length_append, ln]
        ((repeat' (with_reducible apply And.intro)) <;> try ((first | first | assumption | trivial | exact (fun hq => by rw [hq]; rfl) | exact i64_of (by omega) (by omega) | omega | (simp; done) | (simp; omega) | (intro hsc; have hs0 := hsc; (try have hsd := of_decide_eq_true hsc); (try simp only [Bool.not_eq_true', Bool.or_eq_false_iff, Bool.and_eq_true, Bool.or_eq_true, decide_eq_true_eq, decide_eq_false_iff_not] at hsc); (repeat' (with_reducible apply And.intro)) <;> (first | assumption | trivial | exact (fun hq => by rw [hq]; rfl) | exact i64_of (by omega) (by omega) | omega | (simp; done) | (simp; omega) | (intro hse; simp [hse, hs0]; done) | (intro hse; simp only [hse, hs0, Bool.true_and, Bool.and_true, Bool.not_false, Bool.not_true, Bool.and_self]; done))))))
        refine cut_same (by simp only [ZZ, YY, Ze, ite_true, ite_false, forall_const, reduceCtorEq, Nat.reduceAdd, Nat.reduceMul, Nat.reduceLeDiff, Nat.reduceLT, Nat.reduceEqDiff]) ?_
        simp only [ZZ, YY, Ze, ite_true, ite_false, forall_const, reduceCtorEq, Nat.reduceAdd, Nat.reduceMul, Nat.reduceLeDiff, Nat.reduceLT, Nat.reduceEqDiff, strE_len]
        ((repeat' (with_reducible apply And.intro)) <;> try ((first | first | assumption | trivial | exact (fun hq => by rw [hq]; rfl) | exact i64_of (by omega) (by omega) | omega | (simp; done) | (simp; omega) | (intro hsc; have hs0 := hsc; (try have hsd := of_decide_eq_true hsc); (try simp only [Bool.not_eq_true', Bool.or_eq_false_iff, Bool.and_eq_true, Bool.or_eq_true, decide_eq_true_eq, decide_eq_false_iff_not] at hsc); (repeat' (with_reducible apply And.intro)) <;> (first | assumption | trivial | exact (fun hq => by rw [hq]; rfl) | exact i64_of (by omega) (by omega) | omega | (simp; done) | (simp; omega) | (intro hse; simp [hse, hs0]; done) | (intro hse; simp only [hse, hs0, Bool.true_and, Bool.and_true, Bool.not_false, Bool.not_true, Bool.and_self]; done))))))
        refine end_round (cs.length - (k + 1)) [.p (.str a), .p (.str b), .any, .any, .any, .p (.sl 1 (strE x)), .row (.l 6), .p (int ((c.1 + c.2.1.length) : Nat)), .any, .any, .any, .any, .any, .any, .p (.sl 3 (chE cs)), .p (int (cs.length : Nat)), .p (int ((k + 1) : Nat)), .any, .any, .any, .any, .any, .any, .any, .any, .any, .any, .any, .any, .any, .any, .any, .any, .any, .any, .any, .any, .any, .any, .any, .any, .any, .any, .any, .any, .any, .any, .any, .any, .any, .any, .any, .any, .any, .any, .any, .any, .any, .any, .any, .any, .any, .any, .any] [(.l 6, .row (strE ((((out ++ (x.take c.1).drop p) ++ [[91, 45] ++ jnF c.2.1 ++ [45, 93]]) ++ [[123, 43] ++ jnF c.2.2 ++ [43, 125]]))) tStr 1 true)] (by omega) (by (simp only [ZZ, YY, Ze, ite_true, ite_false, forall_const, reduceCtorEq, Nat.reduceAdd, Nat.reduceMul, Nat.reduceLeDiff, Nat.reduceLT, Nat.reduceEqDiff]; try trivial)) (by (simp only [ZZ, YY, Ze, ite_true, ite_false, forall_const, reduceCtorEq, Nat.reduceAdd, Nat.reduceMul, Nat.reduceLeDiff, Nat.reduceLT, Nat.reduceEqDiff]; try trivial)) ⟨k + 1, c.1 + c.2.1.length, (((out ++ (x.take c.1).drop p) ++ [[91, 45] ++ jnF c.2.1 ++ [45, 93]]) ++ [[123, 43] ++ jnF c.2.2 ++ [43, 125]]), by omega, rfl, by simp only [List.length_append, ln, List.length_cons, List.length_nil]; omega, by rw [hf]; simp only [List.append_assoc, List.nil_append], c3, rfl, rfl⟩
      · intro hb2
        have hb2 : ¬ 0 < c.2.2.length := by have := of_decide_eq_false hb2; omega
        rw [if_neg hb2] at hf
        simp only [ZZ, YY, Ze, ite_true, ite_false, forall_const, reduceCtorEq, Nat.reduceAdd, Nat.reduceMul, Nat.reduceLeDiff, Nat.reduceLT, Nat.reduceEqDiff]
        refine cut_same (by simp only [ZZ, YY, Ze, ite_true, ite_false, forall_const, reduceCtorEq, Nat.reduceAdd, Nat.reduceMul, Nat.reduceLeDiff, Nat.reduceLT, Nat.reduceEqDiff]) ?_
        simp only [ZZ, YY, Ze, ite_true, ite_false, forall_const, reduceCtorEq, Nat.reduceAdd, Nat.reduceMul, Nat.reduceLeDiff, Nat.reduceLT, Nat.reduceEqDiff, strE_len]
        ((repeat' (with_reducible apply And.intro)) <;> try ((first | first | assumption | trivial | exact (fun hq => by rw [hq]; rfl) | exact i64_of (by omega) (by omega) | omega | (simp; done) | (simp; omega) | (intro hsc; have hs0 := hsc; (try have hsd := of_decide_eq_true hsc); (try simp only [Bool.not_eq_true', Bool.or_eq_false_iff, Bool.and_eq_true, Bool.or_eq_true, decide_eq_true_eq, decide_eq_false_iff_not] at hsc); (repeat' (with_reducible apply And.intro)) <;> (first | assumption | trivial | exact (fun hq => by rw [hq]; rfl) | exact i64_of (by omega) (by omega) | omega | (simp; done) | (simp; omega) | (intro hse; simp [hse, hs0]; done) | (intro hse; simp only [hse, hs0, Bool.true_and, Bool.and_true, Bool.not_false, Bool.not_true, Bool.and_self]; done))))))
        refine end_round (cs.length - (k + 1)) [.p (.str a), .p (.str b), .any, .any, .any, .p (.sl 1 (strE x)), .row (.l 6), .p (int ((c.1 + c.2.1.length) : Nat)), .any, .any, .any, .any, .any, .any, .p (.sl 3 (chE cs)), .p (int (cs.length : Nat)), .p (int ((k + 1) : Nat)), .any, .any, .any, .any, .any, .any, .any, .any, .any, .any, .any, .any, .any, .any, .any, .any, .any, .any, .any, .any, .any, .any, .any, .any, .any, .any, .any, .any, .any, .any, .any, .any, .any, .any, .any, .any, .any, .any, .any, .any, .any, .any, .any, .any, .any, .any, .any] [(.l 6, .row (strE (((out ++ (x.take c.1).drop p) ++ [[91, 45] ++ jnF c.2.1 ++ [45, 93]]))) tStr 1 true)] (by omega) (by (simp only [ZZ, YY, Ze, ite_true, ite_false, forall_const, reduceCtorEq, Nat.reduceAdd, Nat.reduceMul, Nat.reduceLeDiff, Nat.reduceLT, Nat.reduceEqDiff]; try trivial)) (by (simp only [ZZ, YY, Ze, ite_true, ite_false, forall_const, reduceCtorEq, Nat.reduceAdd, Nat.reduceMul, Nat.reduceLeDiff, Nat.reduceLT, Nat.reduceEqDiff]; try trivial)) ⟨k + 1, c.1 + c.2.1.length, ((out ++ (x.take c.1).drop p) ++ [[91, 45] ++ jnF c.2.1 ++ [45, 93]]), by omega, rfl, by simp only [List.length_append, ln, List.length_cons, List.length_nil]; omega, by rw [hf]; simp only [List.append_assoc, List.nil_append], c3, rfl, rfl⟩
    · intro hb
      have hb : ¬ 0 < c.2.1.length := by have := of_decide_eq_false hb; omega
      rw [if_neg hb] at hf
      simp only [ZZ, YY, Ze, ite_true, ite_false, forall_const, reduceCtorEq, Nat.reduceAdd, Nat.reduceMul, Nat.reduceLeDiff, Nat.reduceLT, Nat.reduceEqDiff]
      refine cut_same (by simp only [ZZ, YY, Ze, ite_true, ite_false, forall_const, reduceCtorEq, Nat.reduceAdd, Nat.reduceMul, Nat.reduceLeDiff, Nat.reduceLT, Nat.reduceEqDiff]) ?_
      simp only [ZZ, YY, Ze, ite_true, ite_false, forall_const, reduceCtorEq, Nat.reduceAdd, Nat.reduceMul, Nat.reduceLeDiff, Nat.reduceLT, Nat.reduceEqDiff, strE_len]
      ((repeat' (with_reducible apply And.intro)) <;> try ((first | first | assumption | trivial | exact (fun hq => by rw [hq]; rfl) | exact i64_of (by omega) (by omega) | omega | (simp; done) | (simp; omega) | (intro hsc; have hs0 := hsc; (try have hsd := of_decide_eq_true hsc); (try simp only [Bool.not_eq_true', Bool.or_eq_false_iff, Bool.and_eq_true, Bool.or_eq_true, decide_eq_true_eq, decide_eq_false_iff_not] at hsc); (repeat' (with_reducible apply And.intro)) <;> (first | assumption | trivial | exact (fun hq => by rw [hq]; rfl) | exact i64_of (by omega) (by omega) | omega | (simp; done) | (simp; omega) | (intro hse; simp [hse, hs0]; done) | (intro hse; simp only [hse, hs0, Bool.true_and, Bool.and_true, Bool.not_false, Bool.not_true, Bool.and_self]; done))))))
      refine br ?_ ?_
      · intro hb2
        have hb2 : 0 < c.2.2.length := by have := of_decide_eq_true hb2; omega
        rw [if_pos hb2] at hf
        simp only [ZZ, YY, Ze, ite_true, ite_false, forall_const, reduceCtorEq, Nat.reduceAdd, Nat.reduceMul, Nat.reduceLeDiff, Nat.reduceLT, Nat.reduceEqDiff]
        refine use1 (JoinOf_ok c.2.2 g2) rfl (.inl rfl) ?_
        simp only [ZZ, YY, Ze, ite_true, ite_false, forall_const, reduceCtorEq, Nat.reduceAdd, Nat.reduceMul, Nat.reduceLeDiff, Nat.reduceLT, Nat.reduceEqDiff, strE_len, e3, List.length_append, ln]
        ((repeat' (with_reducible apply And.intro)) <;> try ((first | first | assumption | trivial | exact (fun hq => by rw [hq]; rfl) | exact i64_of (by omega) (by omega) | omega | (simp; done) | (simp; omega) | (intro hsc; have hs0 := hsc; (try have hsd := of_decide_eq_true hsc); (try simp only [Bool.not_eq_true', Bool.or_eq_false_iff, Bool.and_eq_true, Bool.or_eq_true, decide_eq_true_eq, decide_eq_false_iff_not] at hsc); (repeat' (with_reducible apply And.intro)) <;> (first | assumption | trivial | exact (fun hq => by rw [hq]; rfl) | exact i64_of (by omega) (by omega) | omega | (simp; done) | (simp; omega) | (intro hse; simp [hse, hs0]; done) | (intro hse; simp only [hse, hs0, Bool.true_and, Bool.and_true, Bool.not_false, Bool.not_true, Bool.and_self]; done))))))
        refine cut_same (by simp only [ZZ, YY, Ze, ite_true, ite_false, forall_const, reduceCtorEq, Nat.reduceAdd, Nat.reduceMul, Nat.reduceLeDiff, Nat.reduceLT, Nat.reduceEqDiff]) ?_
        simp only [ZZ, YY, Ze, ite_true, ite_false, forall_const, reduceCtorEq, Nat.reduceAdd, Nat.reduceMul, Nat.reduceLeDiff, Nat.reduceLT, Nat.reduceEqDiff, strE_len]
        ((repeat' (with_reducible apply And.intro)) <;> try ((first | first | assumption | trivial | exact (fun hq => by rw [hq]; rfl) | exact i64_of (by omega) (by omega) | omega | (simp; done) | (simp; omega) | (intro hsc; have hs0 := hsc; (try have hsd := of_decide_eq_true hsc); (try simp only [Bool.not_eq_true', Bool.or_eq_false_iff, Bool.and_eq_true, Bool.or_eq_true, decide_eq_true_eq, decide_eq_false_iff_not] at hsc); (repeat' (with_reducible apply And.intro)) <;> (first | assumption | trivial | exact (fun hq => by rw [hq]; rfl) | exact i64_of (by omega) (by omega) | omega | (simp; done) | (simp; omega) | (intro hse; simp [hse, hs0]; done) | (intro hse; simp only [hse, hs0, Bool.true_and, Bool.and_true, Bool.not_false, Bool.not_true, Bool.and_self]; done))))))
        refine end_round (cs.length - (k + 1)) [.p (.str a), .p (.str b), .any, .any, .any, .p (.sl 1 (strE x)), .row (.l 6), .p (int ((c.1 + c.2.1.length) : Nat)), .any, .any, .any, .any, .any, .any, .p (.sl 3 (chE cs)), .p (int (cs.length : Nat)), .p (int ((k + 1) : Nat)), .any, .any, .any, .any, .any, .any, .any, .any, .any, .any, .any, .any, .any, .any, .any, .any, .any, .any, .any, .any, .any, .any, .any, .any, .any, .any, .any, .any, .any, .any, .any, .any, .any, .any, .any, .any, .any, .any, .any, .any, .any, .any, .any, .any, .any, .any, .any] [(.l 6, .row (strE (((out ++ (x.take c.1).drop p) ++ [[123, 43] ++ jnF c.2.2 ++ [43, 125]]))) tStr 1 true)] (by omega) (by (simp only [ZZ, YY, Ze, ite_true, ite_false, forall_const, reduceCtorEq, Nat.reduceAdd, Nat.reduceMul, Nat.reduceLeDiff, Nat.reduceLT, Nat.reduceEqDiff]; try trivial)) (by (simp only [ZZ, YY, Ze, ite_true, ite_false, forall_const, reduceCtorEq, Nat.reduceAdd, Nat.reduceMul, Nat.reduceLeDiff, Nat.reduceLT, Nat.reduceEqDiff]; try trivial)) ⟨k + 1, c.1 + c.2.1.length, ((out ++ (x.take c.1).drop p) ++ [[123, 43] ++ jnF c.2.2 ++ [43, 125]]), by omega, rfl, by simp only [List.length_append, ln, List.length_cons, List.length_nil]; omega, by rw [hf]; simp only [List.append_assoc, List.nil_append], c3, rfl, rfl⟩
      · intro hb2
        have hb2 : ¬ 0 < c.2.2.length := by have := of_decide_eq_false hb2; omega
        rw [if_neg hb2] at hf
        simp only [ZZ, YY, Ze, ite_true, ite_false, forall_const, reduceCtorEq, Nat.reduceAdd, Nat.reduceMul, Nat.reduceLeDiff, Nat.reduceLT, Nat.reduceEqDiff]
        refine cut_same (by simp only [ZZ, YY, Ze, ite_true, ite_false, forall_const, reduceCtorEq, Nat.reduceAdd, Nat.reduceMul, Nat.reduceLeDiff, Nat.reduceLT, Nat.reduceEqDiff]) ?_
        simp only [ZZ, YY, Ze, ite_true, ite_false, forall_const, reduceCtorEq, Nat.reduceAdd, Nat.reduceMul, Nat.reduceLeDiff, Nat.reduceLT, Nat.reduceEqDiff, strE_len]
        ((repeat' (with_reducible apply And.intro)) <;> try ((first | first | assumption | trivial | exact (fun hq => by rw [hq]; rfl) | exact i64_of (by omega) (by omega) | omega | (simp; done) | (simp; omega) | (intro hsc; have hs0 := hsc; (try have hsd := of_decide_eq_true hsc); (try simp only [Bool.not_eq_true', Bool.or_eq_false_iff, Bool.and_eq_true, Bool.or_eq_true, decide_eq_true_eq, decide_eq_false_iff_not] at hsc); (repeat' (with_reducible apply And.intro)) <;> (first | assumption | trivial | exact (fun hq => by rw [hq]; rfl) | exact i64_of (by omega) (by omega) | omega | (simp; done) | (simp; omega) | (intro hse; simp [hse, hs0]; done) | (intro hse; simp only [hse, hs0, Bool.true_and, Bool.and_true, Bool.not_false, Bool.not_true, Bool.and_self]; done))))))
        refine end_round (cs.length - (k + 1)) [.p (.str a), .p (.str b), .any, .any, .any, .p (.sl 1 (strE x)), .row (.l 6), .p (int ((c.1 + c.2.1.length) : Nat)), .any, .any, .any, .any, .any, .any, .p (.sl 3 (chE cs)), .p (int (cs.length : Nat)), .p (int ((k + 1) : Nat)), .any, .any, .any, .any, .any, .any, .any, .any, .any, .any, .any, .any, .any, .any, .any, .any, .any, .any, .any, .any, .any, .any, .any, .any, .any, .any, .any, .any, .any, .any, .any, .any, .any, .any, .any, .any, .any, .any, .any, .any, .any, .any, .any, .any, .any, .any, .any] [(.l 6, .row (strE ((out ++ (x.take c.1).drop p))) tStr 1 true)] (by omega) (by (simp only [ZZ, YY, Ze, ite_true, ite_false, forall_const, reduceCtorEq, Nat.reduceAdd, Nat.reduceMul, Nat.reduceLeDiff, Nat.reduceLT, Nat.reduceEqDiff]; try trivial)) (by (simp only [ZZ, YY, Ze, ite_true, ite_false, forall_const, reduceCtorEq, Nat.reduceAdd, Nat.reduceMul, Nat.reduceLeDiff, Nat.reduceLT, Nat.reduceEqDiff]; try trivial)) ⟨k + 1, c.1 + c.2.1.length, (out ++ (x.take c.1).drop p), by omega, rfl, by simp only [List.length_append, ln, List.length_cons, List.length_nil]; omega, by rw [hf]; simp only [List.append_assoc, List.nil_append], c3, rfl, rfl⟩
  · intro h
    have hge : k = cs.length := by have := of_decide_eq_false h; omega
    subst hge
    rw [List.drop_length] at hc hf
    have hpx : p ≤ x.length := hc
    simp only [ZZ, YY, Ze, ite_true, ite_false, forall_const, reduceCtorEq, Nat.reduceAdd, Nat.reduceMul, Nat.reduceLeDiff, Nat.reduceLT, Nat.reduceEqDiff, strE_len]
    ((repeat' (with_reducible apply And.intro)) <;> try ((first | first | assumption | trivial | exact (fun hq => by rw [hq]; rfl) | exact i64_of (by omega) (by omega) | omega | (simp; done) | (simp; omega) | (intro hsc; have hs0 := hsc; (try have hsd := of_decide_eq_true hsc); (try simp only [Bool.not_eq_true', Bool.or_eq_false_iff, Bool.and_eq_true, Bool.or_eq_true, decide_eq_true_eq, decide_eq_false_iff_not] at hsc); (repeat' (with_reducible apply And.intro)) <;> (first | assumption | trivial | exact (fun hq => by rw [hq]; rfl) | exact i64_of (by omega) (by omega) | omega | (simp; done) | (simp; omega) | (intro hse; simp [hse, hs0]; done) | (intro hse; simp only [hse, hs0, Bool.true_and, Bool.and_true, Bool.not_false, Bool.not_true, Bool.and_self]; done))))))
    have hz : strE out ++ ((strE x).take x.length).drop p = strE (mkP x cs 0) := by
      rw [hf, mkP, List.take_of_length_le (by rw [strE_len]; exact Nat.le_refl _)]
      simp [strE, List.map_drop]
    rw [hz]
    have jl := jnF_wgt (mkP x cs 0)
    refine use1 (JoinOf_ok (mkP x cs 0) (by omega)) rfl (.inr rfl) ?_
    simp only [ZZ, YY, Ze, ite_true, ite_false, forall_const, reduceCtorEq, Nat.reduceAdd, Nat.reduceMul, Nat.reduceLeDiff, Nat.reduceLT, Nat.reduceEqDiff]
end Go.Proofs.YtchjpcojfeckbaaDoor

/- slices.Equal of strings. -/
namespace Go.Proofs.YtchjpcojfeckbaaDoor
set_option linter.unusedVariables false
set_option linter.unusedSimpArgs false
set_option linter.defProp false
/- slices.Equal[[]string,string] -/
def ir_slices_Equal_string_string_L0 : IC :=
  (.seq (.reg [⟨some 14, .bin .lss (.t 13) (.t 12), none⟩])
    (.seq (.cond (.t 14) .skip (.exit 0))
    (.seq (.block 1 (.seq (.reg [⟨some 15, .mov (.t 13), none⟩,
      ⟨some 5, .mov (.t 15), none⟩])
    (.seq (.drg [⟨some 16, .mov (.t 0), none⟩,
      ⟨some 17, .mov (.t 5), none⟩,
      ⟨some 18, .ixa 1 (.t 16) (.t 17), none⟩,
      ⟨some 19, .ld 1 false (.t 18), none⟩,
      ⟨some 20, .mov (.t 1), none⟩,
      ⟨some 21, .mov (.t 5), none⟩,
      ⟨some 22, .ixa 1 (.t 20) (.t 21), none⟩,
      ⟨some 23, .ld 1 false (.t 22), none⟩,
      ⟨some 24, .bin .neq (.t 19) (.t 23), none⟩])
    (.cond (.t 24) (.seq (.reg [⟨some 4, .mov (.c (.bool false)), none⟩])
    .ret) .skip))))
    (.reg [⟨some 25, .bin .add (.t 13) (.c (.int .i64 1)), none⟩,
      ⟨some 13, .mov (.t 25), none⟩]))))
def ir_slices_Equal_string_string : IC :=
  (.seq (.reg [⟨some 4, .mov (.c (.bool false)), none⟩])
    (.seq (.seq (.reg [⟨some 6, .mov (.t 0), none⟩,
      ⟨some 7, .len (.t 6), none⟩,
      ⟨some 8, .mov (.t 1), none⟩,
      ⟨some 9, .len (.t 8), none⟩,
      ⟨some 10, .bin .neq (.t 7) (.t 9), none⟩])
    (.cond (.t 10) (.seq (.reg [⟨some 4, .mov (.c (.bool false)), none⟩])
    .ret) .skip))
    (.seq (.seq (.reg [⟨some 11, .mov (.t 0), none⟩,
      ⟨some 12, .len (.t 11), none⟩,
      ⟨some 13, .mov (.c (.int .i64 0)), none⟩])
    (.block 0 (.loop ir_slices_Equal_string_string_L0)))
    (.seq (.reg [⟨some 4, .mov (.c (.bool true)), none⟩])
    .ret))))
def rs_slices_Equal_string_string : List IRes := [.t 4]
theorem ck_slices_Equal_string_string : chkF Tryd.prog Tryd.f31 ir_slices_Equal_string_string rs_slices_Equal_string_string 26 = true := by kernel_rfl

section
variable {E : Envt}
theorem EqualT_ok (l m : List (List UInt8)) (hl : l.length ≤ 1000000000) : PCall Tryd.prog E 31 [strs l, strs m] (· = .bool (decide (l = m))) := by
  refine pcallF mixed Tryd.func31 ck_slices_Equal_string_string ?_
  simp only [a0, l0, OS.ao, List.map_cons, List.map_nil, List.length_cons, List.length_nil, List.cons_append, List.nil_append, Nat.reduceSub, Nat.reduceAdd, List.replicate_succ, List.replicate_zero, ir_slices_Equal_string_string, rs_slices_Equal_string_string, ZZ, YY, Ze, ite_true, ite_false, forall_const, reduceCtorEq, Nat.reduceAdd, Nat.reduceMul, Nat.reduceLeDiff, Nat.reduceLT, Nat.reduceEqDiff]
  simp only [strs, ZZ, YY, Ze, ite_true, ite_false, forall_const, reduceCtorEq, Nat.reduceAdd, Nat.reduceMul, Nat.reduceLeDiff, Nat.reduceLT, Nat.reduceEqDiff]
  have hln : (l.map fun x => [PV.str x]).length = l.length := by simp
  have hlm : (m.map fun x => [PV.str x]).length = m.length := by simp
  have hget : ∀ k x, l[k]? = some x → (l.map fun x => [PV.str x]).getD k [] = [.str x] := fun k p hp => getD_map hp
  have hgem : ∀ k x, m[k]? = some x → (m.map fun x => [PV.str x]).getD k [] = [.str x] := fun k p hp => getD_map hp
  generalize (l.map fun x => [PV.str x]) = es at *
  generalize (m.map fun x => [PV.str x]) = fs at *
  simp only [ZZ, YY, Ze, ite_true, ite_false, forall_const, reduceCtorEq, Nat.reduceAdd, Nat.reduceMul, Nat.reduceLeDiff, Nat.reduceLT, Nat.reduceEqDiff, hln, hlm]
  refine br ?_ ?_
  · intro h
    have : ¬ l = m := by rintro rfl; simp at h
    simp only [ZZ, YY, Ze, ite_true, ite_false, forall_const, reduceCtorEq, Nat.reduceAdd, Nat.reduceMul, Nat.reduceLeDiff, Nat.reduceLT, Nat.reduceEqDiff]
    simp [this]
  intro h
  have hlen : l.length = m.length := by have : (l.length : Int) = m.length := by simpa using h
                                        omega
  simp only [ZZ, YY, Ze, ite_true, ite_false, forall_const, reduceCtorEq, Nat.reduceAdd, Nat.reduceMul, Nat.reduceLeDiff, Nat.reduceLT, Nat.reduceEqDiff]
  refine loop_intro (fun n fr L => ∃ (k : Nat), k ≤ l.length ∧ n = l.length - k ∧ (l.take k = m.take k) ∧ fr = [.p (.sl 1 es), .p (.sl 1 fs), .any, .any, .any, .any, .any, .any, .any, .any, .any, .any, .p (int (l.length : Nat)), .p (int (k : Nat)), .any, .any, .any, .any, .any, .any, .any, .any, .any, .any, .any, .any] ∧ L = []) (l.length) [.p (.sl 1 es), .p (.sl 1 fs), .any, .any, .any, .any, .any, .any, .any, .any, .any, .any, .p (int (l.length : Nat)), .p (int (0 : Nat)), .any, .any, .any, .any, .any, .any, .any, .any, .any, .any, .any, .any] [] (by simp only [hln, ZZ, YY, Ze, ite_true, ite_false, forall_const, reduceCtorEq, Nat.reduceAdd, Nat.reduceMul, Nat.reduceLeDiff, Nat.reduceLT, Nat.reduceEqDiff]; try trivial) (by (simp only [ZZ, YY, Ze, ite_true, ite_false, forall_const, reduceCtorEq, Nat.reduceAdd, Nat.reduceMul, Nat.reduceLeDiff, Nat.reduceLT, Nat.reduceEqDiff]; try trivial)) ⟨0, by omega, by omega, by simp, rfl, rfl⟩ ?_
  rintro n fr L ⟨k, hk, rfl, hf, rfl, rfl⟩
  simp only [ir_slices_Equal_string_string_L0, ZZ, YY, Ze, ite_true, ite_false, forall_const, reduceCtorEq, Nat.reduceAdd, Nat.reduceMul, Nat.reduceLeDiff, Nat.reduceLT, Nat.reduceEqDiff]
  refine br ?_ ?_
  · intro h
    have hlt : k < l.length := by have := of_decide_eq_true h; omega
    obtain ⟨x, hx⟩ : ∃ x, l[k]? = some x := ⟨_, List.getElem?_eq_getElem hlt⟩
    obtain ⟨y, hy⟩ : ∃ y, m[k]? = some y := ⟨_, List.getElem?_eq_getElem (by omega)⟩
    have hg := hget k x hx
    have hg2 := hgem k y hy
    simp only [ZZ, YY, Ze, ite_true, ite_false, forall_const, reduceCtorEq, Nat.reduceAdd, Nat.reduceMul, Nat.reduceLeDiff, Nat.reduceLT, Nat.reduceEqDiff]
    refine drg0 ?_
    simp only [ZZ, YY, Ze, ite_true, ite_false, forall_const, reduceCtorEq, Nat.reduceAdd, Nat.reduceMul, Nat.reduceLeDiff, Nat.reduceLT, Nat.reduceEqDiff, hg, hg2, hln, hlm]
    ((repeat' (with_reducible apply And.intro)) <;> try ((first | first | assumption | trivial | exact (fun hq => by rw [hq]; rfl) | exact i64_of (by omega) (by omega) | omega | (simp; done) | (simp; omega) | (intro hsc; have hs0 := hsc; (try have hsd := of_decide_eq_true hsc); (try simp only [Bool.not_eq_true', Bool.or_eq_false_iff, Bool.and_eq_true, Bool.or_eq_true, decide_eq_true_eq, decide_eq_false_iff_not] at hsc); (repeat' (with_reducible apply And.intro)) <;> (first | assumption | trivial | exact (fun hq => by rw [hq]; rfl) | exact i64_of (by omega) (by omega) | omega | (simp; done) | (simp; omega) | (intro hse; simp [hse, hs0]; done) | (intro hse; simp only [hse, hs0, Bool.true_and, Bool.and_true, Bool.not_false, Bool.not_true, Bool.and_self]; done))))))
    refine br ?_ ?_
    · intro h2
      have : ¬ l = m := by
        rintro rfl
        rw [hx] at hy
        cases hy
        simp at h2
      simp only [ZZ, YY, Ze, ite_true, ite_false, forall_const, reduceCtorEq, Nat.reduceAdd, Nat.reduceMul, Nat.reduceLeDiff, Nat.reduceLT, Nat.reduceEqDiff]
      simp [this]
    · intro h2
      have hxy : x = y := by simpa using h2
      simp only [ZZ, YY, Ze, ite_true, ite_false, forall_const, reduceCtorEq, Nat.reduceAdd, Nat.reduceMul, Nat.reduceLeDiff, Nat.reduceLT, Nat.reduceEqDiff]
      ((repeat' (with_reducible apply And.intro)) <;> try ((first | first | assumption | trivial | exact (fun hq => by rw [hq]; rfl) | exact i64_of (by omega) (by omega) | omega | (simp; done) | (simp; omega) | (intro hsc; have hs0 := hsc; (try have hsd := of_decide_eq_true hsc); (try simp only [Bool.not_eq_true', Bool.or_eq_false_iff, Bool.and_eq_true, Bool.or_eq_true, decide_eq_true_eq, decide_eq_false_iff_not] at hsc); (repeat' (with_reducible apply And.intro)) <;> (first | assumption | trivial | exact (fun hq => by rw [hq]; rfl) | exact i64_of (by omega) (by omega) | omega | (simp; done) | (simp; omega) | (intro hse; simp [hse, hs0]; done) | (intro hse; simp only [hse, hs0, Bool.true_and, Bool.and_true, Bool.not_false, Bool.not_true, Bool.and_self]; done))))))
      refine end_round (l.length - (k + 1)) [.p (.sl 1 es), .p (.sl 1 fs), .any, .any, .any, .any, .any, .any, .any, .any, .any, .any, .p (int (l.length : Nat)), .p (int ((k + 1) : Nat)), .any, .any, .any, .any, .any, .any, .any, .any, .any, .any, .any, .any] [] (by omega) (by (simp only [ZZ, YY, Ze, ite_true, ite_false, forall_const, reduceCtorEq, Nat.reduceAdd, Nat.reduceMul, Nat.reduceLeDiff, Nat.reduceLT, Nat.reduceEqDiff]; try trivial)) (by (simp only [ZZ, YY, Ze, ite_true, ite_false, forall_const, reduceCtorEq, Nat.reduceAdd, Nat.reduceMul, Nat.reduceLeDiff, Nat.reduceLT, Nat.reduceEqDiff]; try trivial)) ⟨k + 1, by omega, rfl, by rw [List.take_add_one, List.take_add_one, hf, hx, hy, hxy], rfl, rfl⟩
  · intro h
    have hge : l.length ≤ k := by have := of_decide_eq_false h; omega
    simp only [ZZ, YY, Ze, ite_true, ite_false, forall_const, reduceCtorEq, Nat.reduceAdd, Nat.reduceMul, Nat.reduceLeDiff, Nat.reduceLT, Nat.reduceEqDiff]
    rw [List.take_of_length_le hge, List.take_of_length_le (by omega)] at hf
    simp [hf]
end
end Go.Proofs.YtchjpcojfeckbaaDoor

/- The same changes: told of equal lists. -/
namespace Go.Proofs.YtchjpcojfeckbaaDoor
open Go.RowKit
set_option linter.unusedVariables false
set_option linter.unusedSimpArgs false
set_option linter.defProp false

/- paperchase/chaseref1.SameChanges$1 -/
def ir_chaseref1_SameChanges_1 : IC :=
  (.seq (.reg [⟨some 2, .box 58 (.t 0), none⟩,
      ⟨some 3, .box 58 (.t 1), none⟩,
      ⟨some 4, .mov (.c (.bool false)), none⟩])
    (.seq (.reg [⟨some 5, .fla 0 (.t 2), none⟩,
      ⟨some 6, .ld 1 false (.t 5), none⟩,
      ⟨some 7, .fla 0 (.t 3), none⟩,
      ⟨some 8, .ld 1 false (.t 7), none⟩,
      ⟨some 9, .bin .eql (.t 6) (.t 8), none⟩,
      ⟨some 10, .mov (.t 9), none⟩,
      ⟨some 11, .fla 1 (.t 2), (some (10, true))⟩,
      ⟨some 12, .ld 1 false (.t 11), (some (10, true))⟩,
      ⟨some 13, .fla 1 (.t 3), (some (10, true))⟩,
      ⟨some 14, .ld 1 false (.t 13), (some (10, true))⟩,
      ⟨some 15, .call 31 [.t 12, .t 14], (some (10, true))⟩,
      ⟨some 16, .pick (.t 10) (.t 15) (.c (.bool false)), none⟩,
      ⟨some 17, .mov (.t 16), none⟩,
      ⟨some 18, .fla 2 (.t 2), (some (17, true))⟩,
      ⟨some 19, .ld 1 false (.t 18), (some (17, true))⟩,
      ⟨some 20, .fla 2 (.t 3), (some (17, true))⟩,
      ⟨some 21, .ld 1 false (.t 20), (some (17, true))⟩,
      ⟨some 22, .call 31 [.t 19, .t 21], (some (17, true))⟩,
      ⟨some 23, .pick (.t 17) (.t 22) (.c (.bool false)), none⟩,
      ⟨some 4, .mov (.t 23), none⟩])
    .ret))
def rs_chaseref1_SameChanges_1 : List IRes := [.t 4]
theorem ck_chaseref1_SameChanges_1 : chkF Tryd.prog Tryd.f34 ir_chaseref1_SameChanges_1 rs_chaseref1_SameChanges_1 24 = true := by kernel_rfl
/- paperchase/chaseref1.SameChanges -/
def ir_chaseref1_SameChanges : IC :=
  (.seq (.reg [⟨some 4, .mov (.c (.bool false)), none⟩])
    (.seq (.reg [⟨some 5, .mov (.t 0), none⟩,
      ⟨some 6, .mov (.t 1), none⟩,
      ⟨some 7, .call 33 [.t 5, .t 6, .f 34], none⟩,
      ⟨some 4, .mov (.t 7), none⟩])
    .ret))
def rs_chaseref1_SameChanges : List IRes := [.t 4]
theorem ck_chaseref1_SameChanges : chkF Tryd.prog Tryd.f14 ir_chaseref1_SameChanges rs_chaseref1_SameChanges 8 = true := by kernel_rfl
/- slices.EqualFunc[[]paperchase/api.WordChange,[]paperchase/api.WordChange,paperchase/api.WordChange,paperchase/api.WordChange] -/
def ir_slices_EqualFunc_api_WordChange_api_WordChange_api_WordChange_api_WordChange_L0 : IC :=
  (.seq (.reg [⟨some 18, .bin .lss (.t 17) (.t 16), none⟩])
    (.seq (.cond (.t 18) .skip (.exit 0))
    (.seq (.block 1 (.seq (.reg [⟨some 19, .mov (.t 17), none⟩,
      ⟨some 20, .ixa 3 (.t 15) (.t 17), none⟩,
      ⟨some 21, .ld 3 true (.t 20), none⟩,
      ⟨some 8, .alc 58 [.int .i64 0, .nl 1, .nl 1], none⟩,
      ⟨some 7, .mov (.t 19), none⟩,
      ⟨none, .st 3 (.t 8) (.t 21), none⟩])
    (.seq (.reg [⟨some 22, .mov (.t 1), none⟩,
      ⟨some 23, .mov (.t 7), none⟩,
      ⟨some 24, .ixa 3 (.t 22) (.t 23), none⟩,
      ⟨some 25, .ld 3 true (.t 24), none⟩,
      ⟨some 9, .alc 58 [.int .i64 0, .nl 1, .nl 1], none⟩,
      ⟨none, .st 3 (.t 9) (.t 25), none⟩])
    (.seq (.reg [⟨some 26, .mov (.t 2), none⟩,
      ⟨some 27, .ld 3 true (.t 8), none⟩,
      ⟨some 28, .ld 3 true (.t 9), none⟩,
      ⟨some 29, .callv (.t 26) [.t 27, .t 28], none⟩,
      ⟨some 30, .not (.t 29), none⟩])
    (.cond (.t 30) (.seq (.reg [⟨some 6, .mov (.c (.bool false)), none⟩])
    .ret) .skip)))))
    (.reg [⟨some 31, .bin .add (.t 17) (.c (.int .i64 1)), none⟩,
      ⟨some 17, .mov (.t 31), none⟩]))))
def ir_slices_EqualFunc_api_WordChange_api_WordChange_api_WordChange_api_WordChange : IC :=
  (.seq (.reg [⟨some 6, .mov (.c (.bool false)), none⟩])
    (.seq (.seq (.reg [⟨some 10, .mov (.t 0), none⟩,
      ⟨some 11, .len (.t 10), none⟩,
      ⟨some 12, .mov (.t 1), none⟩,
      ⟨some 13, .len (.t 12), none⟩,
      ⟨some 14, .bin .neq (.t 11) (.t 13), none⟩])
    (.cond (.t 14) (.seq (.reg [⟨some 6, .mov (.c (.bool false)), none⟩])
    .ret) .skip))
    (.seq (.seq (.reg [⟨some 15, .mov (.t 0), none⟩,
      ⟨some 16, .len (.t 15), none⟩,
      ⟨some 17, .mov (.c (.int .i64 0)), none⟩])
    (.block 0 (.loop ir_slices_EqualFunc_api_WordChange_api_WordChange_api_WordChange_api_WordChange_L0)))
    (.seq (.reg [⟨some 6, .mov (.c (.bool true)), none⟩])
    .ret))))
def rs_slices_EqualFunc_api_WordChange_api_WordChange_api_WordChange_api_WordChange : List IRes := [.t 6]
theorem ck_slices_EqualFunc_api_WordChange_api_WordChange_api_WordChange_api_WordChange : chkF Tryd.prog Tryd.f33 ir_slices_EqualFunc_api_WordChange_api_WordChange_api_WordChange_api_WordChange rs_slices_EqualFunc_api_WordChange_api_WordChange_api_WordChange_api_WordChange 32 = true := by kernel_rfl

def chV (c : Chg) : List PV := [int (c.1 : Nat), .sl 1 (strE c.2.1), .sl 1 (strE c.2.2)]
theorem SameOne_ok {E : Envt} (c : Chg) (h1 : c.2.1.length ≤ 1000000000) (h2 : c.2.2.length ≤ 1000000000) : PCall Tryd.prog E 34 [.agg (chV c), .agg (chV c)] (· = .bool true) := by
  simp only [chV]
  refine pcallF mixed Tryd.func34 ck_chaseref1_SameChanges_1 ?_
  simp only [a0, l0, OS.ao, List.map_cons, List.map_nil, List.length_cons, List.length_nil, List.cons_append, List.nil_append, Nat.reduceSub, Nat.reduceAdd, List.replicate_succ, List.replicate_zero, ir_chaseref1_SameChanges_1, rs_chaseref1_SameChanges_1, ZZ, YY, Ze, ite_true, ite_false, forall_const, reduceCtorEq, Nat.reduceAdd, Nat.reduceMul, Nat.reduceLeDiff, Nat.reduceLT, Nat.reduceEqDiff]
  have hq : ∀ l : Toks, decide (l = l) = true := fun l => decide_eq_true rfl
  refine useG (fun _ => EqualT_ok c.2.1 c.2.1 h1) rfl (.inl rfl) ?_
  simp only [ZZ, YY, Ze, ite_true, ite_false, forall_const, reduceCtorEq, Nat.reduceAdd, Nat.reduceMul, Nat.reduceLeDiff, Nat.reduceLT, Nat.reduceEqDiff, hq]
  refine useG (fun _ => EqualT_ok c.2.2 c.2.2 h2) rfl (.inl rfl) ?_
  simp only [ZZ, YY, Ze, ite_true, ite_false, forall_const, reduceCtorEq, Nat.reduceAdd, Nat.reduceMul, Nat.reduceLeDiff, Nat.reduceLT, Nat.reduceEqDiff, hq]
  simp
set_option maxRecDepth 100000 in
theorem EqualFuncC_ok {E : Envt} (l : List Chg) (f : FuncId) (hl : l.length ≤ 1000000000) (hfn : fnB Tryd.prog f = true) (hf : ∀ c ∈ l, PCall Tryd.prog E f [.agg (chV c), .agg (chV c)] (· = .bool true)) : PCall Tryd.prog E 33 [.sl 3 (chE l), .sl 3 (chE l), .clo f []] (· = .bool true) := by
  refine pcallF mixed Tryd.func33 ck_slices_EqualFunc_api_WordChange_api_WordChange_api_WordChange_api_WordChange ?_
  simp only [a0, l0, OS.ao, List.map_cons, List.map_nil, List.length_cons, List.length_nil, List.cons_append, List.nil_append, Nat.reduceSub, Nat.reduceAdd, List.replicate_succ, List.replicate_zero, ir_slices_EqualFunc_api_WordChange_api_WordChange_api_WordChange_api_WordChange, rs_slices_EqualFunc_api_WordChange_api_WordChange_api_WordChange_api_WordChange, ZZ, YY, Ze, ite_true, ite_false, forall_const, reduceCtorEq, Nat.reduceAdd, Nat.reduceMul, Nat.reduceLeDiff, Nat.reduceLT, Nat.reduceEqDiff]
  simp only [ZZ, YY, Ze, ite_true, ite_false, forall_const, reduceCtorEq, Nat.reduceAdd, Nat.reduceMul, Nat.reduceLeDiff, Nat.reduceLT, Nat.reduceEqDiff, chE_len, decide_true, Bool.not_true]
  refine loop_intro (fun n fr L => ∃ (k : Nat), k ≤ l.length ∧ n = l.length - k ∧ fr = [.p (.sl 3 (chE l)), .p (.sl 3 (chE l)), .p (.clo f []), .any, .any, .any, .any, .any, .any, .any, .any, .any, .any, .any, .any, .p (.sl 3 (chE l)), .p (int (l.length : Nat)), .p (int (k : Nat)), .any, .any, .any, .any, .any, .any, .any, .any, .any, .any, .any, .any, .any, .any] ∧ L = []) (l.length) [.p (.sl 3 (chE l)), .p (.sl 3 (chE l)), .p (.clo f []), .any, .any, .any, .any, .any, .any, .any, .any, .any, .any, .any, .any, .p (.sl 3 (chE l)), .p (int (l.length : Nat)), .p (int (0 : Nat)), .any, .any, .any, .any, .any, .any, .any, .any, .any, .any, .any, .any, .any, .any] [] (by simp only [ZZ, YY, Ze, ite_true, ite_false, forall_const, reduceCtorEq, Nat.reduceAdd, Nat.reduceMul, Nat.reduceLeDiff, Nat.reduceLT, Nat.reduceEqDiff, chE_len]; try trivial) (by (simp only [ZZ, YY, Ze, ite_true, ite_false, forall_const, reduceCtorEq, Nat.reduceAdd, Nat.reduceMul, Nat.reduceLeDiff, Nat.reduceLT, Nat.reduceEqDiff]; try trivial)) ⟨0, by omega, by omega, rfl, rfl⟩ ?_
  rintro n fr L ⟨k, hk, rfl, rfl, rfl⟩
  simp only [ir_slices_EqualFunc_api_WordChange_api_WordChange_api_WordChange_api_WordChange_L0, ZZ, YY, Ze, ite_true, ite_false, forall_const, reduceCtorEq, Nat.reduceAdd, Nat.reduceMul, Nat.reduceLeDiff, Nat.reduceLT, Nat.reduceEqDiff]
  refine br ?_ ?_
  · intro h
    have hlt : k < l.length := by have := of_decide_eq_true h; omega
    obtain ⟨c, hx⟩ : ∃ c, l[k]? = some c := ⟨_, List.getElem?_eq_getElem hlt⟩
    have hg : (chE l).getD k [] = chV c := by unfold chE; exact getD_map hx
    simp only [chV] at hg
    simp only [ZZ, YY, Ze, ite_true, ite_false, forall_const, reduceCtorEq, Nat.reduceAdd, Nat.reduceMul, Nat.reduceLeDiff, Nat.reduceLT, Nat.reduceEqDiff, hg, chE_len, hfn]
    ((repeat' (with_reducible apply And.intro)) <;> try ((first | first | assumption | trivial | exact (fun hq => by rw [hq]; rfl) | exact i64_of (by omega) (by omega) | omega | (simp; done) | (simp; omega) | (intro hsc; have hs0 := hsc; (try have hsd := of_decide_eq_true hsc); (try simp only [Bool.not_eq_true', Bool.or_eq_false_iff, Bool.and_eq_true, Bool.or_eq_true, decide_eq_true_eq, decide_eq_false_iff_not] at hsc); (repeat' (with_reducible apply And.intro)) <;> (first | assumption | trivial | exact (fun hq => by rw [hq]; rfl) | exact i64_of (by omega) (by omega) | omega | (simp; done) | (simp; omega) | (intro hse; simp [hse, hs0]; done) | (intro hse; simp only [hse, hs0, Bool.true_and, Bool.and_true, Bool.not_false, Bool.not_true, Bool.and_self]; done))))))
    refine use1 (hf c (List.mem_of_getElem? hx)) rfl (.inl rfl) ?_
    simp only [ZZ, YY, Ze, ite_true, ite_false, forall_const, reduceCtorEq, Nat.reduceAdd, Nat.reduceMul, Nat.reduceLeDiff, Nat.reduceLT, Nat.reduceEqDiff]
    ((repeat' (with_reducible apply And.intro)) <;> try ((first | first | assumption | trivial | exact (fun hq => by rw [hq]; rfl) | exact i64_of (by omega) (by omega) | omega | (simp; done) | (simp; omega) | (intro hsc; have hs0 := hsc; (try have hsd := of_decide_eq_true hsc); (try simp only [Bool.not_eq_true', Bool.or_eq_false_iff, Bool.and_eq_true, Bool.or_eq_true, decide_eq_true_eq, decide_eq_false_iff_not] at hsc); (repeat' (with_reducible apply And.intro)) <;> (first | assumption | trivial | exact (fun hq => by rw [hq]; rfl) | exact i64_of (by omega) (by omega) | omega | (simp; done) | (simp; omega) | (intro hse; simp [hse, hs0]; done) | (intro hse; simp only [hse, hs0, Bool.true_and, Bool.and_true, Bool.not_false, Bool.not_true, Bool.and_self]; done))))))
    refine end_round (l.length - (k + 1)) [.p (.sl 3 (chE l)), .p (.sl 3 (chE l)), .p (.clo f []), .any, .any, .any, .any, .any, .any, .any, .any, .any, .any, .any, .any, .p (.sl 3 (chE l)), .p (int (l.length : Nat)), .p (int ((k + 1) : Nat)), .any, .any, .any, .any, .any, .any, .any, .any, .any, .any, .any, .any, .any, .any] [] (by omega) (by (simp only [ZZ, YY, Ze, ite_true, ite_false, forall_const, reduceCtorEq, Nat.reduceAdd, Nat.reduceMul, Nat.reduceLeDiff, Nat.reduceLT, Nat.reduceEqDiff]; try trivial)) (by (simp only [ZZ, YY, Ze, ite_true, ite_false, forall_const, reduceCtorEq, Nat.reduceAdd, Nat.reduceMul, Nat.reduceLeDiff, Nat.reduceLT, Nat.reduceEqDiff]; try trivial)) ⟨k + 1, by omega, rfl, rfl, rfl⟩
  · intro h
    have hge : l.length ≤ k := by have := of_decide_eq_false h; omega
    simp only [ZZ, YY, Ze, ite_true, ite_false, forall_const, reduceCtorEq, Nat.reduceAdd, Nat.reduceMul, Nat.reduceLeDiff, Nat.reduceLT, Nat.reduceEqDiff]
theorem SameChanges_ok {E : Envt} (l : List Chg) (hl : l.length ≤ 1000000000) (hb : ∀ c ∈ l, c.2.1.length ≤ 1000000000 ∧ c.2.2.length ≤ 1000000000) : PCall Tryd.prog E 14 [.sl 3 (chE l), .sl 3 (chE l)] (· = .bool true) := by
  refine pcallF mixed Tryd.func14 ck_chaseref1_SameChanges ?_
  simp only [a0, l0, OS.ao, List.map_cons, List.map_nil, List.length_cons, List.length_nil, List.cons_append, List.nil_append, Nat.reduceSub, Nat.reduceAdd, List.replicate_succ, List.replicate_zero, ir_chaseref1_SameChanges, rs_chaseref1_SameChanges, ZZ, YY, Ze, ite_true, ite_false, forall_const, reduceCtorEq, Nat.reduceAdd, Nat.reduceMul, Nat.reduceLeDiff, Nat.reduceLT, Nat.reduceEqDiff]
  refine use1 (EqualFuncC_ok l _ hl (by kernel_rfl) (fun c hc => SameOne_ok c (hb c hc).1 (hb c hc).2)) rfl (.inl rfl) ?_
  simp only [ZZ, YY, Ze, ite_true, ite_false, forall_const, reduceCtorEq, Nat.reduceAdd, Nat.reduceMul, Nat.reduceLeDiff, Nat.reduceLT, Nat.reduceEqDiff]
end Go.Proofs.YtchjpcojfeckbaaDoor

/- The cells of strings; slices.Sort and slices.Compact of the strings that a call owns. -/
namespace Go.Proofs.YtchjpcojfeckbaaDoor
open Go.Shelf Go.RowKit Go.Lib Go.Sort
set_option linter.unusedVariables false
set_option linter.unusedSimpArgs false
set_option linter.defProp false

def sE (l : List UInt8) : Value := .string ⟨l.toArray⟩
theorem strE_vals {w : World} {U : Nat → Prop} : ∀ {l : List (List UInt8)} {vs : List Value}, PRepL w U (strE l).flatten vs ↔ vs = l.map sE
  | [], vs => by simp [strE, PRepL]
  | c :: r, vs => by
    have ih : ∀ vs, PRepL w U (strE r).flatten vs ↔ vs = r.map sE := fun vs => strE_vals
    simp only [strE, List.map_cons, List.flatten_cons, List.cons_append, List.nil_append, PRepL, PRep] at ih ⊢
    constructor
    · rintro ⟨v, r', rfl, rfl, h⟩
      rw [(ih r').1 h]
      rfl
    · rintro rfl
      exact ⟨_, _, rfl, rfl, (ih _).2 rfl⟩
theorem repE_sE {w : World} {U : Nat → Prop} {b : Nat} : ∀ (l : List (List UInt8)) (off : Nat), (∀ i u, (l.map sE)[i]? = some u → w.cell? ⟨b, off + i, none⟩ = some u) → PRepE w U b 1 off (strE l)
  | [], off, h => trivial
  | x :: r, off, h => by
    refine ⟨rfl, ⟨⟨.string ⟨x.toArray⟩, by simpa [sE] using h 0 _ rfl, rfl, rfl⟩, trivial⟩, repE_sE r (off + 1) fun i u hu => ?_⟩
    have := h (i + 1) u (by simpa using hu)
    rwa [show off + (i + 1) = off + 1 + i from by omega] at this
/-- The strings of an owned row are sorted in place. -/
theorem sortS_row {E : Envt} (et : Nat) (l : List (List UInt8)) (hl : l.length ≤ 1000000000000) : RCall Tryd.prog E 72 et 1 (strE l) [] (fun x es' => x = .tup [] ∧ es' = strE (l.mergeSort fun x y => decide (x ≤ y))) := by
  intro w U vs v0 hU hE hEb hA hB
  obtain ⟨hB1, us, hrow, h1, hrep, hz⟩ := hB
  simp only [PRepL] at hA
  subst hA
  rw [strE_vals] at hrep
  subst hrep
  rw [strE_len] at hrow
  have hml : (l.mergeSort fun x y => decide (x ≤ y)).length = l.length := List.length_mergeSort _
  rcases hrow.2 with ⟨rfl, hn⟩ | ⟨b, cap, cur, fz, rfl, hg, hn, hcap, hcs, htk, hfz⟩
  · have hl0 : l = [] := List.eq_nil_of_length_eq_zero hn
    subst hl0
    refine (AnyM.slices_Sort_string_none Tryd.laySort none 0 w).mono ?_
    rintro e w' ⟨rfl, rfl⟩
    exact ⟨_, .p (.tup []), .row et 1 [], rfl, ⟨_, _, rfl, rfl, rfl, by simp [strE]⟩, ⟨[], rfl, by simp [PRepL]⟩, Grow.refl _ _, ⟨[], ⟨by simp, .inl ⟨rfl, rfl⟩⟩, by simp, by simp [PRepL], by simp⟩⟩
  · have hf0 : fz = (0, 0) := by rcases hfz with h | h; exact h; exact absurd h.1 (by simp)
    subst hf0
    have hb : b < w.heap.size := by
      rcases Nat.lt_or_ge b w.heap.size with h | h
      · exact h
      · rw [Array.getElem?_eq_none h] at hg; cases hg
    simp only [Nat.mul_one] at htk hcs
    have hH : Holds encStr w b 0 l.toArray := by
      intro j hj
      have hj' : j < l.length := by simpa using hj
      have e1 : cur[j]? = some (encStr l.toArray[j]!) := by
        rw [← Array.getElem?_toList, ← List.getElem?_take_of_lt hj', htk, List.getElem?_map, List.getElem?_eq_getElem hj', getElem!_pos l.toArray j hj]
        rfl
      refine ⟨?_, ?_⟩
      · simp only [World.cell?, hg]
        simpa using e1
      · simp [World.frozen?, hg]
    refine (AnyM.slices_Sort_string Tryd.laySort b 0 cap l w hH hb (by omega)).mono ?_
    rintro e w' ⟨rfl, n, os, rfl⟩
    generalize (l.mergeSort fun x y => decide (x ≤ y)) = m at *
    have hblk : ∀ c, c ≠ b → c < w.heap.size → (grow (putRow encStr (Sort.ahead w n) b 0 m.toArray) os).heap[c]? = w.heap[c]? := by
      intro c hc hlt
      simp only [grow, putRow, mapBlock]
      rw [Array.getElem?_append_left (by simpa using hlt), Array.getElem?_modify, if_neg (fun e => hc e.symm)]
      rfl
    have hnew : (grow (putRow encStr (Sort.ahead w n) b 0 m.toArray) os).heap[b]? = some (.cells (putCells encStr 0 m.toArray cur) et (0, 0)) := by
      simp only [grow, putRow, mapBlock]
      rw [Array.getElem?_append_left (by simpa using hb), Array.getElem?_modify, if_pos rfl]
      show Option.map _ w.heap[b]? = _
      rw [hg]
      rfl
    have hGr : Grow w (grow (putRow encStr (Sort.ahead w n) b 0 m.toArray) os) (fun c => blk (.slice (some ⟨b, 0, none⟩) l.length cap) = some c) := by
      refine ⟨rfl, rfl, rfl, ?_, fun c hc hne => hblk c (fun e => hne (by rw [e]; rfl)) hc⟩
      simp [grow, putRow, mapBlock, Sort.ahead]
    refine ⟨_, .p (.tup []), .row et 1 (strE m), rfl, ⟨_, _, rfl, rfl, rfl, rfl⟩, ⟨[], rfl, by simp [PRepL]⟩, hGr, ?_⟩
    refine ⟨m.map sE, ⟨by rw [strE_len]; simp, .inr ⟨b, cap, _, (0, 0), by rw [strE_len, hml], hnew, by rw [strE_len, hml]; exact hn, hcap, by simp [putCells, hcs], ?_, .inl rfl⟩⟩, ?_, strE_vals.2 rfl, ?_⟩
    · rw [strE_len]
      apply List.ext_getElem?
      intro j
      by_cases hj : j < m.length
      · rw [List.getElem?_take_of_lt (by simpa using hj), Array.getElem?_toList]
        simp only [putCells, Array.getElem?_mapIdx]
        rw [Array.getElem?_eq_getElem (by omega), Option.map_some, if_pos ⟨Nat.zero_le _, by simpa using hj⟩, Nat.sub_zero, getElem!_pos _ j (by simpa using hj)]
        simp [hj, sE]
      · rw [List.getElem?_eq_none (by rw [List.length_take]; omega), List.getElem?_eq_none (by simp; omega)]
    · intro u hu
      obtain ⟨x, _, rfl⟩ := List.mem_map.1 hu
      rfl
    · intro x hx
      simp only [strE, List.mem_map] at hx
      obtain ⟨y, _, rfl⟩ := hx
      rfl
theorem compact_le (l : List (List UInt8)) : (Lib.compact l).length ≤ l.length := by
  unfold Lib.compact Lib.compactUpTo
  rw [List.length_map]
  exact Nat.le_trans (List.length_filter_le _ _) (by simp)
section
variable {E : Envt} {L : Objs} {k : Key} {fr : List AV} {d : Option Nat} {is : List IOper} {Y : List PV} {K : List AV → Objs → Prop}
/-- Runs of equal strings of an owned row are made one: what is left is plain, the row is gone. -/
theorem useComp (i : Nat) (l : List (List UInt8)) (hl : l ≠ []) (hlen : l.length ≤ 1000000000) (hlk : Zas L k = some (.row (strE l) 9 1 true))
    (hk : awpOps Tryd.prog E Y is (Zg (fr.map (·.kill (.l i))) d (.p (.sl 1 (strE (Lib.compact l))))) (delO L k) K) : CallOp Tryd.prog E 73 [.row k] L d fr (contO Tryd.prog E Y is K) := by
  refine .inr (.inr ⟨i, ?_⟩)
  intro w X ι vs hs hX hE hEb hA
  simp only [ARepL, ARep] at hA
  obtain ⟨v1, r1, rfl, ⟨rfl, A, n, c, hv⟩, rfl⟩ := hA
  obtain ⟨us, u1, u2, u3, u4⟩ := hs.obj k _ hlk
  rw [strE_vals] at u3
  subst u3
  have hown := u1.owns
  rw [strE_len] at hown
  have hne : ι k ≠ .slice none 0 0 := by
    intro e
    rcases hown.2 with ⟨_, h0⟩ | ⟨q, cap, cur, h1, _⟩
    · exact hl (List.eq_nil_of_length_eq_zero h0)
    · rw [e] at h1; cases h1
  obtain ⟨b, cap, hvb, _, hlt, hnc, hcm, _, hH⟩ := Lib.holds_of_ownsRow (enc := encStr) hown hne
  rw [hvb] at hown
  have hOb : Own L ι b := ⟨k, _, hlk, by rw [hvb]; rfl⟩
  have hcall := Any.slices_Compact_string Tryd.layCompact b 0 cap l w hH (by omega) (by simpa using hnc)
  rw [hvb]
  refine hcall.mono ?_
  rintro e w' ⟨rfl, q, rfl⟩
  have hle : (Lib.compact l).length ≤ l.length := compact_le l
  have hown2 := Lib.ownsRow_putRow (enc := encStr) (q := q) (k := (Lib.compact l).length) (ys := (Lib.compact l) ++ List.replicate (l.length - (Lib.compact l).length) []) hown (by simp; omega) hle
  rw [List.take_left' rfl] at hown2
  generalize hW : putRow encStr (Sort.ahead w q) b 0 ((Lib.compact l) ++ List.replicate (l.length - (Lib.compact l).length) []).toArray = w1 at hown2 ⊢
  have hG : Grow w w1 (fun x => x = b) := by
    rw [← hW]
    refine ⟨rfl, rfl, rfl, by simp [putRow, mapBlock, Sort.ahead], fun x hx hn => ?_⟩
    simp [putRow, mapBlock, Sort.ahead, Array.getElem?_modify, show b ≠ x from fun e => hn e.symm]
  have hsub : ∀ j a, Zas (delO L k) j = some a → j ≠ k ∧ Zas L j = some a := by
    intro j a hj
    rw [look_delO] at hj
    by_cases e : j = k
    · rw [if_pos e] at hj; cases hj
    · rw [if_neg e] at hj; exact ⟨e, hj⟩
  have hown3 : ∀ x, Own (delO L k) ι x → Own L ι x := fun x ⟨j, a, h1, h2⟩ => ⟨j, a, (hsub j a h1).2, h2⟩
  have hnb : ¬ (Own (delO L k) ι b ∨ X b) := by
    rintro (⟨j, a, h1, h2⟩ | h)
    · obtain ⟨e, h3⟩ := hsub j a h1
      exact e (hs.inj j k a _ b h3 hlk h2 (by rw [hvb]; rfl))
    · exact (hX b h).2 hOb
  have hgrow : Grow w w1 (Own L ι) := ⟨hG.os, hG.tape, hG.output, hG.size, fun x hx hn => hG.block x hx (fun e => hn (by rw [e]; exact hOb))⟩
  have hkp : Keeps w w1 (fun x => Own L ι x ∨ X x) (fun x => Own (delO L k) ι x ∨ X x) := fun x hx hu => ⟨hgrow.block x hx (fun h => hu (.inl h)), fun h => hu (h.imp (hown3 x) id)⟩
  refine ⟨_, .p (.sl 1 (strE (Lib.compact l))), delO L k, ι, rfl, hk, ?_, ⟨⟨?_, fun j j' a a' x h1 h2 h3 h4 => hs.inj j j' a a' x (hsub j a h1).2 (hsub j' a' h2).2 h3 h4⟩, hgrow, fun x h => .inl (hown3 x h), fun j _ => rfl, fun j hj => ?_⟩⟩
  · show PRep w1 _ (.sl 1 (strE _)) _
    refine ⟨some ⟨b, 0, none⟩, cap, by rw [strE_len], by rw [strE_len]; omega, fun _ => ⟨b, 0, rfl, Nat.lt_of_lt_of_le hlt hG.size, hnb, repE_sE _ 0 fun j u hu => ?_⟩⟩
    rw [Nat.zero_add]
    have := hown2.cells (g := b) rfl j u hu
    rw [show ({ block := b, off := 0 } : Addr).add j = ⟨b, j, none⟩ from by cases j <;> simp [Addr.add]] at this
    exact this
  · intro j a h1
    obtain ⟨e, h2⟩ := hsub j a h1
    refine ObjOk.mono hkp (fun x hx => hG.block x ((hs.obj j a h2).blk_lt hx) (fun ex => ?_)) (hs.obj j a h2)
    subst ex
    exact e (hs.inj j k a _ x h2 hlk hx (by rw [hvb]; rfl))
  · obtain ⟨a, ha⟩ := Option.isSome_iff_exists.1 hj
    exact .inl (by rw [(hsub j a ha).2]; rfl)
end
end Go.Proofs.YtchjpcojfeckbaaDoor

/- Shingles. -/
namespace Go.Proofs.YtchjpcojfeckbaaDoor
open Go.RowKit
set_option linter.unusedVariables false
set_option linter.unusedSimpArgs false
set_option linter.defProp false

/- paperchase/near.shingles -/
def ir_near_shingles_L0 : IC :=
  (.seq (.reg [⟨some 23, .bin .lss (.t 22) (.t 21), none⟩])
    (.seq (.cond (.t 23) .skip (.exit 0))
    (.seq (.block 1 (.seq (.reg [⟨some 24, .mov (.t 22), none⟩,
      ⟨some 7, .mov (.t 24), none⟩])
    (.reg [⟨some 25, .mov (.t 6), none⟩,
      ⟨some 26, .mov (.t 5), none⟩,
      ⟨some 27, .mov (.t 7), none⟩,
      ⟨some 28, .mov (.t 7), none⟩,
      ⟨some 29, .mov (.t 1), none⟩,
      ⟨some 30, .bin .add (.t 28) (.t 29), none⟩,
      ⟨some 31, .vsl 1 (.t 26) (some (.t 27)) (some (.t 30)), none⟩,
      ⟨some 32, .call 71 [.t 31, .c (.str [32])], none⟩,
      ⟨some 33, .bsl 1 [.t 32], none⟩,
      ⟨some 34, .app 9 1 16 (.t 25) (.t 33), none⟩,
      ⟨some 6, .mov (.t 34), none⟩])))
    (.reg [⟨some 35, .bin .add (.t 22) (.c (.int .i64 1)), none⟩,
      ⟨some 22, .mov (.t 35), none⟩]))))
def ir_near_shingles : IC :=
  (.seq (.reg [⟨some 4, .mov (.c (.nl 1)), none⟩])
    (.seq (.reg [⟨some 8, .mov (.t 0), none⟩,
      ⟨some 9, .call 70 [.t 8], none⟩,
      ⟨some 5, .mov (.t 9), none⟩])
    (.seq (.seq (.reg [⟨some 10, .mov (.t 5), none⟩,
      ⟨some 11, .len (.t 10), none⟩,
      ⟨some 12, .bin .eql (.t 11) (.c (.int .i64 0)), none⟩])
    (.cond (.t 12) (.seq (.reg [⟨some 4, .mov (.c (.nl 1)), none⟩])
    .ret) .skip))
    (.seq (.reg [⟨some 13, .mov (.t 1), none⟩,
      ⟨some 14, .mov (.t 5), none⟩,
      ⟨some 15, .len (.t 14), none⟩,
      ⟨some 16, .mn (.t 13) (.t 15), none⟩,
      ⟨some 1, .mov (.t 16), none⟩])
    (.seq (.reg [⟨some 6, .nilr 9 1, none⟩])
    (.seq (.seq (.reg [⟨some 17, .mov (.t 5), none⟩,
      ⟨some 18, .len (.t 17), none⟩,
      ⟨some 19, .mov (.t 1), none⟩,
      ⟨some 20, .bin .sub (.t 18) (.t 19), none⟩,
      ⟨some 21, .bin .add (.t 20) (.c (.int .i64 1)), none⟩,
      ⟨some 22, .mov (.c (.int .i64 0)), none⟩])
    (.block 0 (.loop ir_near_shingles_L0)))
    (.seq (.reg [⟨some 36, .mov (.t 6), none⟩,
      ⟨some 37, .call 72 [.t 36], none⟩])
    (.seq (.reg [⟨some 38, .mov (.t 6), none⟩,
      ⟨some 39, .call 73 [.t 38], none⟩,
      ⟨some 4, .mov (.t 39), none⟩])
    .ret))))))))
def rs_near_shingles : List IRes := [.t 4]
theorem ck_near_shingles : chkF Tryd.prog Tryd.f55 ir_near_shingles rs_near_shingles 40 = true := by kernel_rfl
/- paperchase/near.kError -/
def ir_near_kError : IC :=
  (.seq (.reg [⟨some 2, .mov (.c (.int .i64 0)), none⟩])
    (.seq (.reg [⟨some 3, .mov (.t 0), none⟩,
      ⟨some 4, .call 64 [.t 3, .c (.int .i64 1), .c (.int .i64 10)], none⟩,
      ⟨some 5, .not (.t 4), none⟩,
      ⟨some 6, .call 57 [.t 5, .c (.int .i64 1)], none⟩,
      ⟨some 2, .mov (.t 6), none⟩])
    .ret))
def rs_near_kError : List IRes := [.t 2]
theorem ck_near_kError : chkF Tryd.prog Tryd.f54 ir_near_kError rs_near_kError 7 = true := by kernel_rfl
/- paperchase/near.Shingles -/
def ir_near_Shingles : IC :=
  (.seq (.reg [⟨some 4, .mov (.c (.nl 1)), none⟩,
      ⟨some 5, .mov (.c (.int .i64 0)), none⟩])
    (.seq (.seq (.reg [⟨some 7, .mov (.t 0), none⟩,
      ⟨some 8, .call 53 [.t 7], none⟩,
      ⟨some 9, .mov (.t 1), none⟩,
      ⟨some 10, .call 54 [.t 9], none⟩,
      ⟨some 11, .bsl 1 [.t 8, .t 10], none⟩,
      ⟨some 12, .call 52 [.t 11], none⟩,
      ⟨some 6, .mov (.t 12), none⟩])
    (.seq (.reg [⟨some 13, .mov (.t 6), none⟩,
      ⟨some 14, .bin .neq (.t 13) (.c (.int .i64 0)), none⟩])
    (.cond (.t 14) (.seq (.reg [⟨some 15, .mov (.t 6), none⟩,
      ⟨some 4, .mov (.c (.nl 1)), none⟩,
      ⟨some 5, .mov (.t 15), none⟩])
    .ret) .skip)))
    (.seq (.reg [⟨some 16, .mov (.t 0), none⟩,
      ⟨some 17, .mov (.t 1), none⟩,
      ⟨some 18, .call 55 [.t 16, .t 17], none⟩,
      ⟨some 4, .mov (.t 18), none⟩,
      ⟨some 5, .mov (.c (.int .i64 0)), none⟩])
    .ret)))
def rs_near_Shingles : List IRes := [.t 4, .t 5]
theorem ck_near_Shingles : chkF Tryd.prog Tryd.f30 ir_near_Shingles rs_near_Shingles 19 = true := by kernel_rfl
/- paperchase/chaselaw1.nears -/
def ir_chaselaw1_nears : IC :=
  (.seq (.reg [⟨some 0, .mov (.c (.bool false)), none⟩])
    (.seq (.reg [⟨some 4, .call 30 [.c (.str [97, 32, 98, 32, 99]), .c (.int .i64 2)], none⟩,
      ⟨some 3, .mov (.t 4), none⟩,
      ⟨some 5, .ext 0 (.t 3), none⟩,
      ⟨some 6, .ext 1 (.t 3), none⟩,
      ⟨some 1, .mov (.t 5), none⟩,
      ⟨some 2, .mov (.t 6), none⟩])
    (.seq (.reg [⟨some 7, .mov (.t 2), none⟩,
      ⟨some 8, .bin .eql (.t 7) (.c (.int .i64 0)), none⟩,
      ⟨some 9, .mov (.t 8), none⟩,
      ⟨some 10, .mov (.t 1), (some (9, true))⟩,
      ⟨some 11, .bsl 1 [.c (.str [97, 32, 98]), .c (.str [98, 32, 99])], (some (9, true))⟩,
      ⟨some 12, .call 31 [.t 10, .t 11], (some (9, true))⟩,
      ⟨some 13, .pick (.t 9) (.t 12) (.c (.bool false)), none⟩,
      ⟨some 0, .mov (.t 13), none⟩])
    .ret)))
def rs_chaselaw1_nears : List IRes := [.t 0]
theorem ck_chaselaw1_nears : chkF Tryd.prog Tryd.f12 ir_chaselaw1_nears rs_chaselaw1_nears 14 = true := by kernel_rfl

def jS (l : List (List UInt8)) : List UInt8 := Lib.join l [32]
theorem jS_ok {E : Envt} (l : List (List UInt8)) (hl : l.length ≤ 1000000000) (hlen : (jS l).length ≤ 1000000000) : PCall Tryd.prog E 71 [.sl 1 (strE l), .str [32]] (· = .str (jS l)) := Join_ok l [32] hl hlen
theorem lensS_bd (m : Nat) : ∀ l : List (List UInt8), (∀ x ∈ l, x.length ≤ m) → Lib.lens l ≤ l.length * m
  | [], _ => by simp [Lib.lens]
  | x :: r, h => by
    have := lensS_bd m r (fun y hy => h y (by simp [hy]))
    have := h x (by simp)
    simp only [Lib.lens, List.map_cons, List.sum_cons, List.length_cons, Nat.succ_mul] at *
    omega
theorem jS_bd (l : List (List UInt8)) (m : Nat) (h : ∀ x ∈ l, x.length ≤ m) : (jS l).length ≤ l.length * (m + 1) := by
  cases l with
  | nil => simp [jS, Lib.join_nil]
  | cons x r =>
    have := lensS_bd m (x :: r) h
    rw [jS, Lib.join_length, Nat.mul_add]
    simp only [List.length_cons, List.length_nil] at *
    omega
theorem wordsS_bd (t : List UInt8) : ∀ x ∈ wordsF t, x.length ≤ t.length := by
  intro x hx
  simp only [wordsF, List.mem_map, wordF] at hx
  obtain ⟨p, _, rfl⟩ := hx
  rw [lowF_len]
  exact Sp.part_len t p.1 p.2
theorem wordsS_len (t : List UInt8) : (wordsF t).length ≤ t.length + 1 := by
  have := Sp.spans_len t
  simpa [wordsF] using this
/-- The shingles of m words, as they lie in the text. -/
def shL (w : List (List UInt8)) (m : Nat) : List (List UInt8) := (List.range (w.length + 1 - m)).map fun i => jS ((w.take (i + m)).drop i)
def shF (t : List UInt8) (k : Nat) : List (List UInt8) := if wordsF t = [] then [] else Lib.compact ((shL (wordsF t) (min k (wordsF t).length)).mergeSort fun x y => decide (x ≤ y))
set_option maxHeartbeats 4000000 in
theorem shingles_ok {E : Envt} (t : List UInt8) (k : Nat) (ht : t.length ≤ 20000) (hk1 : 1 ≤ k) (hk2 : k ≤ 10) : PCall Tryd.prog E 55 [.str t, int (k : Nat)] (· = .sl 1 (strE (shF t k))) := by
  refine pcallF mixed Tryd.func55 ck_near_shingles ?_
  simp only [a0, l0, OS.ao, List.map_cons, List.map_nil, List.length_cons, List.length_nil, List.cons_append, List.nil_append, Nat.reduceSub, Nat.reduceAdd, List.replicate_succ, List.replicate_zero, ir_near_shingles, rs_near_shingles, ZZ, YY, Ze, ite_true, ite_false, forall_const, reduceCtorEq, Nat.reduceAdd, Nat.reduceMul, Nat.reduceLeDiff, Nat.reduceLT, Nat.reduceEqDiff]
  refine use1 (Words_ok t (by omega)) rfl (.inl rfl) ?_
  rw [show strs (wordsF t) = .sl 1 (strE (wordsF t)) from rfl]
  have hwl := wordsS_len t
  have hwb := wordsS_bd t
  unfold shF
  generalize wordsF t = w at *
  simp only [ZZ, YY, Ze, ite_true, ite_false, forall_const, reduceCtorEq, Nat.reduceAdd, Nat.reduceMul, Nat.reduceLeDiff, Nat.reduceLT, Nat.reduceEqDiff, strE_len]
  refine br ?_ ?_
  · intro h
    have h0 : w = [] := List.eq_nil_of_length_eq_zero (by have := of_decide_eq_true h; omega)
    simp only [ZZ, YY, Ze, ite_true, ite_false, forall_const, reduceCtorEq, Nat.reduceAdd, Nat.reduceMul, Nat.reduceLeDiff, Nat.reduceLT, Nat.reduceEqDiff]
    rw [if_pos h0]
    rfl
  intro h
  have h0 : w ≠ [] := by rintro rfl; simp at h
  have h1 : 0 < w.length := List.length_pos_iff.2 h0
  rw [if_neg h0]
  obtain ⟨m, hm⟩ : ∃ m, m = min k w.length := ⟨_, rfl⟩
  have hm1 : min (k : Int) (w.length : Nat) = (m : Nat) := by omega
  obtain ⟨cnt, hn⟩ : ∃ cnt, cnt = w.length + 1 - m := ⟨_, rfl⟩
  have hn1 : ((w.length : Nat) : Int) - (m : Nat) + 1 = (cnt : Nat) := by omega
  rw [← hm]
  simp only [ZZ, YY, Ze, ite_true, ite_false, forall_const, reduceCtorEq, Nat.reduceAdd, Nat.reduceMul, Nat.reduceLeDiff, Nat.reduceLT, Nat.reduceEqDiff, strE_len, hm1]
  ((repeat' (with_reducible apply And.intro)) <;> try ((first | first | assumption | trivial | exact (fun hq => by rw [hq]; rfl) | exact i64_of (by omega) (by omega) | omega | (simp; done) | (simp; omega) | (intro hsc; have hs0 := hsc; (try have hsd := of_decide_eq_true hsc); (try simp only [Bool.not_eq_true', Bool.or_eq_false_iff, Bool.and_eq_true, Bool.or_eq_true, decide_eq_true_eq, decide_eq_false_iff_not] at hsc); (repeat' (with_reducible apply And.intro)) <;> (first | assumption | trivial | exact (fun hq => by rw [hq]; rfl) | exact i64_of (by omega) (by omega) | omega | (simp; done) | (simp; omega) | (intro hse; simp [hse, hs0]; done) | (intro hse; simp only [hse, hs0, Bool.true_and, Bool.and_true, Bool.not_false, Bool.not_true, Bool.and_self]; done))))))
  simp only [ZZ, YY, Ze, ite_true, ite_false, forall_const, reduceCtorEq, Nat.reduceAdd, Nat.reduceMul, Nat.reduceLeDiff, Nat.reduceLT, Nat.reduceEqDiff, hn1]
  have hsl : (shL w m).length = cnt := by simp [shL, hn]
  have hsg : ∀ i, i < cnt → (shL w m)[i]? = some (jS ((w.take (i + m)).drop i)) := by
    intro i hi
    rw [shL, ← hn, List.getElem?_map, List.getElem?_range hi]
    rfl
  generalize shL w m = q at *
  refine loop_intro (fun n fr L => ∃ (i : Nat), i ≤ cnt ∧ n = cnt - i ∧ fr = [.p (.str t), .p (int (m : Nat)), .any, .any, .any, .p (.sl 1 (strE w)), .row (.l 6), .any, .any, .any, .any, .any, .any, .any, .any, .any, .any, .any, .any, .any, .any, .p (int (cnt : Nat)), .p (int (i : Nat)), .any, .any, .any, .any, .any, .any, .any, .any, .any, .any, .any, .any, .any, .any, .any, .any, .any] ∧ L = [(.l 6, .row (strE (q.take i)) tStr 1 true)]) (cnt) [.p (.str t), .p (int (m : Nat)), .any, .any, .any, .p (.sl 1 (strE w)), .row (.l 6), .any, .any, .any, .any, .any, .any, .any, .any, .any, .any, .any, .any, .any, .any, .p (int (cnt : Nat)), .p (int (0 : Nat)), .any, .any, .any, .any, .any, .any, .any, .any, .any, .any, .any, .any, .any, .any, .any, .any, .any] [(.l 6, .row (strE (q.take 0)) tStr 1 true)] (by simp only [ZZ, YY, Ze, ite_true, ite_false, forall_const, reduceCtorEq, Nat.reduceAdd, Nat.reduceMul, Nat.reduceLeDiff, Nat.reduceLT, Nat.reduceEqDiff, strE_len]; try trivial) (by (simp only [ZZ, YY, Ze, ite_true, ite_false, forall_const, reduceCtorEq, Nat.reduceAdd, Nat.reduceMul, Nat.reduceLeDiff, Nat.reduceLT, Nat.reduceEqDiff]; try trivial)) ⟨0, by omega, by omega, rfl, rfl⟩ ?_
  rintro n fr L ⟨i, hi, rfl, rfl, rfl⟩
  simp only [ir_near_shingles_L0, ZZ, YY, Ze, ite_true, ite_false, forall_const, reduceCtorEq, Nat.reduceAdd, Nat.reduceMul, Nat.reduceLeDiff, Nat.reduceLT, Nat.reduceEqDiff]
  refine br ?_ ?_
  · intro h
    have hlt : i < cnt := by have := of_decide_eq_true h; omega
    have e1 : ((strE w).take (i + m)).drop i = strE ((w.take (i + m)).drop i) := by rw [strE, strE, ← List.map_take, ← List.map_drop]
    have hq : q.take (i + 1) = q.take i ++ [jS ((w.take (i + m)).drop i)] := by rw [List.take_add_one, hsg i hlt]; rfl
    have hql : (q.take i).length = i := by rw [List.length_take]; omega
    have e3 : ∀ (l : List (List UInt8)) (s : List UInt8), strE l ++ [[PV.str s]] = strE (l ++ [s]) := by intro l s; simp [strE]
    have hpl : ((w.take (i + m)).drop i).length ≤ 10 := by simp; omega
    have hpb := jS_bd ((w.take (i + m)).drop i) t.length (fun x hx => hwb x (List.mem_of_mem_take (List.mem_of_mem_drop hx)))
    have hpm : ((w.take (i + m)).drop i).length * (t.length + 1) ≤ 10 * 20001 := Nat.mul_le_mul hpl (by omega)
    simp only [ZZ, YY, Ze, ite_true, ite_false, forall_const, reduceCtorEq, Nat.reduceAdd, Nat.reduceMul, Nat.reduceLeDiff, Nat.reduceLT, Nat.reduceEqDiff, strE_len]
    ((repeat' (with_reducible apply And.intro)) <;> try ((first | first | assumption | trivial | exact (fun hq => by rw [hq]; rfl) | exact i64_of (by omega) (by omega) | omega | (simp; done) | (simp; omega) | (intro hsc; have hs0 := hsc; (try have hsd := of_decide_eq_true hsc); (try simp only [Bool.not_eq_true', Bool.or_eq_false_iff, Bool.and_eq_true, Bool.or_eq_true, decide_eq_true_eq, decide_eq_false_iff_not] at hsc); (repeat' (with_reducible apply And.intro)) <;> (first | assumption | trivial | exact (fun hq => by rw [hq]; rfl) | exact i64_of (by omega) (by omega) | omega | (simp; done) | (simp; omega) | (intro hse; simp [hse, hs0]; done) | (intro hse; simp only [hse, hs0, Bool.true_and, Bool.and_true, Bool.not_false, Bool.not_true, Bool.and_self]; done))))))
    have e0 : (((i : Nat) : Int) + (m : Nat)).toNat = i + m := by omega
    rw [e0, e1]
    refine use1 (jS_ok _ (by omega) (by omega)) rfl (.inl rfl) ?_
    simp only [ZZ, YY, Ze, ite_true, ite_false, forall_const, reduceCtorEq, Nat.reduceAdd, Nat.reduceMul, Nat.reduceLeDiff, Nat.reduceLT, Nat.reduceEqDiff, strE_len, e3, hql, ← hq]
    ((repeat' (with_reducible apply And.intro)) <;> try ((first | first | assumption | trivial | exact (fun hq => by rw [hq]; rfl) | exact i64_of (by omega) (by omega) | omega | (simp; done) | (simp; omega) | (intro hsc; have hs0 := hsc; (try have hsd := of_decide_eq_true hsc); (try simp only [Bool.not_eq_true', Bool.or_eq_false_iff, Bool.and_eq_true, Bool.or_eq_true, decide_eq_true_eq, decide_eq_false_iff_not] at hsc); (repeat' (with_reducible apply And.intro)) <;> (first | assumption | trivial | exact (fun hq => by rw [hq]; rfl) | exact i64_of (by omega) (by omega) | omega | (simp; done) | (simp; omega) | (intro hse; simp [hse, hs0]; done) | (intro hse; simp only [hse, hs0, Bool.true_and, Bool.and_true, Bool.not_false, Bool.not_true, Bool.and_self]; done))))))
    refine end_round (cnt - (i + 1)) [.p (.str t), .p (int (m : Nat)), .any, .any, .any, .p (.sl 1 (strE w)), .row (.l 6), .any, .any, .any, .any, .any, .any, .any, .any, .any, .any, .any, .any, .any, .any, .p (int (cnt : Nat)), .p (int ((i + 1) : Nat)), .any, .any, .any, .any, .any, .any, .any, .any, .any, .any, .any, .any, .any, .any, .any, .any, .any] [(.l 6, .row (strE (q.take (i + 1))) tStr 1 true)] (by omega) (by (simp only [ZZ, YY, Ze, ite_true, ite_false, forall_const, reduceCtorEq, Nat.reduceAdd, Nat.reduceMul, Nat.reduceLeDiff, Nat.reduceLT, Nat.reduceEqDiff]; try trivial)) (by (simp only [ZZ, YY, Ze, ite_true, ite_false, forall_const, reduceCtorEq, Nat.reduceAdd, Nat.reduceMul, Nat.reduceLeDiff, Nat.reduceLT, Nat.reduceEqDiff]; try trivial)) ⟨i + 1, by omega, rfl, rfl, rfl⟩
  · intro h
    have hge : i = cnt := by have := of_decide_eq_false h; omega
    subst hge
    have hqt : q.take i = q := by rw [← hsl, List.take_length]
    simp only [ZZ, YY, Ze, ite_true, ite_false, forall_const, reduceCtorEq, Nat.reduceAdd, Nat.reduceMul, Nat.reduceLeDiff, Nat.reduceLT, Nat.reduceEqDiff]
    rw [hqt]
    refine useR (sortS_row tStr q (by omega)) rfl rfl rfl (by simp only [ZZ, YY, Ze, ite_true, ite_false, forall_const, reduceCtorEq, Nat.reduceAdd, Nat.reduceMul, Nat.reduceLeDiff, Nat.reduceLT, Nat.reduceEqDiff]) ?_
    rintro x es ⟨rfl, rfl⟩
    simp only [ZZ, YY, Ze, ite_true, ite_false, forall_const, reduceCtorEq, Nat.reduceAdd, Nat.reduceMul, Nat.reduceLeDiff, Nat.reduceLT, Nat.reduceEqDiff]
    refine useComp 1000 (q.mergeSort fun x y => decide (x ≤ y)) ?_ (by rw [List.length_mergeSort]; omega) rfl ?_
    · intro e
      have := congrArg List.length e
      rw [List.length_mergeSort, List.length_nil] at this
      omega
    simp only [ZZ, YY, Ze, ite_true, ite_false, forall_const, reduceCtorEq, Nat.reduceAdd, Nat.reduceMul, Nat.reduceLeDiff, Nat.reduceLT, Nat.reduceEqDiff]
theorem kError_ok {E : Envt} (k : Int) : PCall Tryd.prog E 54 [int k] (· = int (whenE (!inE k 1 10) 1)) := by
  refine pcallF mixed Tryd.func54 ck_near_kError ?_
  simp only [a0, l0, OS.ao, List.map_cons, List.map_nil, List.length_cons, List.length_nil, List.cons_append, List.nil_append, Nat.reduceSub, Nat.reduceAdd, List.replicate_succ, List.replicate_zero, ir_near_kError, rs_near_kError, ZZ, YY, Ze, ite_true, ite_false, forall_const, reduceCtorEq, Nat.reduceAdd, Nat.reduceMul, Nat.reduceLeDiff, Nat.reduceLT, Nat.reduceEqDiff]
  refine use1 (In_ok k 1 10) rfl (.inl rfl) ?_
  simp only [ZZ, YY, Ze, ite_true, ite_false, forall_const, reduceCtorEq, Nat.reduceAdd, Nat.reduceMul, Nat.reduceLeDiff, Nat.reduceLT, Nat.reduceEqDiff]
  refine use1 (When_ok _ 1) rfl (.inl rfl) ?_
  simp only [ZZ, YY, Ze, ite_true, ite_false, forall_const, reduceCtorEq, Nat.reduceAdd, Nat.reduceMul, Nat.reduceLeDiff, Nat.reduceLT, Nat.reduceEqDiff]
def shE (t : List UInt8) (k : Int) : Int := firstE [if 20000 < t.length then 2 else 0, whenE (!inE k 1 10) 1]
theorem shE_zero {t : List UInt8} {k : Int} (h : shE t k = 0) : t.length ≤ 20000 ∧ 1 ≤ k ∧ k ≤ 10 := by
  unfold shE at h
  by_cases h1 : 20000 < t.length
  · rw [if_pos h1] at h
    exact absurd h (by simp [firstE])
  · rw [if_neg h1] at h
    refine ⟨by omega, ?_⟩
    have h2 : inE k 1 10 = true := by
      cases h2 : inE k 1 10
      · rw [h2] at h
        exact absurd h (by decide)
      · rfl
    simpa only [inE, Bool.and_eq_true, decide_eq_true_eq] using h2
theorem Shingles_ok {E : Envt} (t : List UInt8) (k : Int) (ht : t.length ≤ 1000000000) : PCall Tryd.prog E 30 [.str t, int k] (· = .tup [.sl 1 (strE (if shE t k = 0 then shF t k.toNat else [])), int (shE t k)]) := by
  refine pcallF mixed Tryd.func30 ck_near_Shingles ?_
  simp only [a0, l0, OS.ao, List.map_cons, List.map_nil, List.length_cons, List.length_nil, List.cons_append, List.nil_append, Nat.reduceSub, Nat.reduceAdd, List.replicate_succ, List.replicate_zero, ir_near_Shingles, rs_near_Shingles, ZZ, YY, Ze, ite_true, ite_false, forall_const, reduceCtorEq, Nat.reduceAdd, Nat.reduceMul, Nat.reduceLeDiff, Nat.reduceLT, Nat.reduceEqDiff]
  refine use1 (nlarge_ok t ht) rfl (.inl rfl) ?_
  simp only [ZZ, YY, Ze, ite_true, ite_false, forall_const, reduceCtorEq, Nat.reduceAdd, Nat.reduceMul, Nat.reduceLeDiff, Nat.reduceLT, Nat.reduceEqDiff]
  refine use1 (kError_ok k) rfl (.inl rfl) ?_
  simp only [ZZ, YY, Ze, ite_true, ite_false, forall_const, reduceCtorEq, Nat.reduceAdd, Nat.reduceMul, Nat.reduceLeDiff, Nat.reduceLT, Nat.reduceEqDiff]
  refine use1 (First_ok [if 20000 < t.length then 2 else 0, whenE (!inE k 1 10) 1] (by simp)) rfl (.inl rfl) ?_
  rw [show firstE [if 20000 < t.length then 2 else 0, whenE (!inE k 1 10) 1] = shE t k from rfl]
  by_cases h0 : shE t k = 0
  · have hd : decide (shE t k = 0) = true := decide_eq_true h0
    obtain ⟨h1, h2, h3⟩ := shE_zero h0
    obtain ⟨m, rfl⟩ : ∃ m : Nat, k = m := ⟨k.toNat, by omega⟩
    simp only [ZZ, YY, Ze, ite_true, ite_false, forall_const, reduceCtorEq, Nat.reduceAdd, Nat.reduceMul, Nat.reduceLeDiff, Nat.reduceLT, Nat.reduceEqDiff, hd]
    refine use1 (shingles_ok t m h1 (by omega) (by omega)) rfl (.inl rfl) ?_
    simp only [ZZ, YY, Ze, ite_true, ite_false, forall_const, reduceCtorEq, Nat.reduceAdd, Nat.reduceMul, Nat.reduceLeDiff, Nat.reduceLT, Nat.reduceEqDiff]
    rw [if_pos h0, h0]
    try rfl
  · have hd : decide (shE t k = 0) = false := decide_eq_false h0
    simp only [ZZ, YY, Ze, ite_true, ite_false, forall_const, reduceCtorEq, Nat.reduceAdd, Nat.reduceMul, Nat.reduceLeDiff, Nat.reduceLT, Nat.reduceEqDiff, hd]
    rw [if_neg h0]
    rfl
theorem nears_sh : shF [97, 32, 98, 32, 99] 2 = [[97, 32, 98], [98, 32, 99]] := by
  have h1 : wordsF [97, 32, 98, 32, 99] = [[97], [98], [99]] := by decide +kernel
  have h2 : shL [[97], [98], [99]] 2 = [[97, 32, 98], [98, 32, 99]] := by decide +kernel
  rw [shF, h1, if_neg (by simp), show min 2 ([[97], [98], [99]] : List (List UInt8)).length = 2 from rfl, h2, List.mergeSort_of_pairwise (by decide +kernel)]
  decide +kernel
theorem nears_ok {E : Envt} : PCall Tryd.prog E 12 [] (· = .bool true) := by
  refine pcallF mixed Tryd.func12 ck_chaselaw1_nears ?_
  simp only [a0, l0, OS.ao, List.map_cons, List.map_nil, List.length_cons, List.length_nil, List.cons_append, List.nil_append, Nat.reduceSub, Nat.reduceAdd, List.replicate_succ, List.replicate_zero, ir_chaselaw1_nears, rs_chaselaw1_nears, ZZ, YY, Ze, ite_true, ite_false, forall_const, reduceCtorEq, Nat.reduceAdd, Nat.reduceMul, Nat.reduceLeDiff, Nat.reduceLT, Nat.reduceEqDiff]
  refine use1 (Shingles_ok [97, 32, 98, 32, 99] 2 (by simp)) rfl (.inl rfl) ?_
  rw [show shE [97, 32, 98, 32, 99] 2 = 0 from by decide +kernel, if_pos rfl, show (2 : Int).toNat = 2 from rfl, nears_sh]
  simp only [ZZ, YY, Ze, ite_true, ite_false, forall_const, reduceCtorEq, Nat.reduceAdd, Nat.reduceMul, Nat.reduceLeDiff, Nat.reduceLT, Nat.reduceEqDiff]
  refine useG (fun _ => EqualT_ok [[97, 32, 98], [98, 32, 99]] [[97, 32, 98], [98, 32, 99]] (by simp)) rfl (.inl rfl) ?_
  simp only [ZZ, YY, Ze, ite_true, ite_false, forall_const, reduceCtorEq, Nat.reduceAdd, Nat.reduceMul, Nat.reduceLeDiff, Nat.reduceLT, Nat.reduceEqDiff]
  simp
end Go.Proofs.YtchjpcojfeckbaaDoor
