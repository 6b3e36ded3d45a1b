
/- Own texts, put together: M9 E1 M10 Q1 C2 C3 K1 Q3 N4 M11 Q4 Q5. -/
import Derived.Test.YthfpehmbellmcaaGreatDoorZ7
import Derived.Test.YthfpehmbellmcaaGreatDoorZ5
import Derived.Lib.IndexMore
import Derived.Shelf.Strings.IndexAnyAll
import Derived.Shelf.Small.Utf8
import Derived.BigQuiet
import Derived.WalkMore
import Derived.Deep.QuietTactic
import Derived.Shelf.RegionOpenPlain
import Derived.Deep.LoopGhost
import Derived.Laws.Runes
import Derived.Laws.RangeString
import Derived.Lib.IndexBytes
import Derived.Laws.Strings3
import Derived.Test.YthfpehmbellmcaaGreatDoorLayIndexAny
import Derived.Test.YthfpehmbellmcaaGreatDoorZ6
import Derived.Test.YthfpehmbellmcaaGreatDoorZ3
import Derived.Test.YthfpehmbellmcaaGreatDoorZ4
import Derived.Test.YthfpehmbellmcaaGreatDoorLaySort
import Derived.Test.YthfpehmbellmcaaGreatDoorLayCompact
import Derived.Lib.OwnBridge
import Derived.WalkKit
/- The changes on the paper's side, and the marked texts on both sides. -/
namespace Go.Proofs.YthfpehmbellmcaaGreatDoor
open Go.RowKit
set_option linter.unusedVariables false
set_option linter.unusedSimpArgs false
set_option linter.defProp false


set_option maxHeartbeats 4000000 in
theorem DifferOf_ok (a b : List UInt8) (ha : a.length ≤ 1000000000) (hb : b.length ≤ 1000000000) (h1 : (tokF a).length ≤ 2000) (h2 : (tokF b).length ≤ 2000) : FCall Tryz.prog E0 46 [.str a, .str b] tCh 3 (· = chE (chF (tokF a) (tokF b))) := by
  unfold FCall
  refine gcallR mixed Tryz.func46 ck_chaseref1_DifferOf ?_
  simp only [a0, l0, OS.ao, List.map_cons, List.map_nil, List.length_cons, List.length_nil, List.cons_append, List.nil_append, Nat.reduceSub, Nat.reduceAdd, List.replicate_succ, List.replicate_zero, ir_chaseref1_DifferOf, rs_chaseref1_DifferOf, ZZ, YY, Ze, ite_true, ite_false, forall_const, reduceCtorEq, Nat.reduceAdd, Nat.reduceMul, Nat.reduceLeDiff, Nat.reduceLT, Nat.reduceEqDiff]
  refine use1 (plainR (TokensOf_ok a ha)) rfl (.inl rfl) ?_
  simp only [ZZ, YY, Ze, ite_true, ite_false, forall_const, reduceCtorEq, Nat.reduceAdd, Nat.reduceMul, Nat.reduceLeDiff, Nat.reduceLT, Nat.reduceEqDiff]
  refine use1 (plainR (TokensOf_ok b hb)) rfl (.inl rfl) ?_
  have hx : (tokF a).length ≤ 3000 := by omega
  have hy : (tokF b).length ≤ 3000 := by omega
  clear h1 h2
  generalize tokF a = x at *
  generalize tokF b = y at *
  simp only [ZZ, YY, Ze, ite_true, ite_false, forall_const, reduceCtorEq, Nat.reduceAdd, Nat.reduceMul, Nat.reduceLeDiff, Nat.reduceLT, Nat.reduceEqDiff, strE_len]
  ((repeat' (with_reducible apply And.intro)) <;> try ((first | first | assumption | trivial | exact (fun hq => by rw [hq]; rfl) | exact i64_of (by omega) (by omega) | omega | (simp; done) | (simp; omega) | (intro hsc; have hs0 := hsc; (try have hsd := of_decide_eq_true hsc); (try simp only [Bool.not_eq_true', Bool.or_eq_false_iff, Bool.and_eq_true, Bool.or_eq_true, decide_eq_true_eq, decide_eq_false_iff_not] at hsc); (repeat' (with_reducible apply And.intro)) <;> (first | assumption | trivial | exact (fun hq => by rw [hq]; rfl) | exact i64_of (by omega) (by omega) | omega | (simp; done) | (simp; omega) | (intro hse; simp [hse, hs0]; done) | (intro hse; simp only [hse, hs0, Bool.true_and, Bool.and_true, Bool.not_false, Bool.not_true, Bool.and_self]; done))))))
  refine useF (keptOf_ok x y hx hy) rfl rfl ?_
  rintro es rfl
  rw [← kp_kr]
  have hpl := prsF_len x y
  have hch := prsF_chn x y
  have hkl := kp_len x y
  have hps : prE (kp 0 0 x y) ++ [[PV.int .i64 (x.length : Nat), PV.int .i64 (y.length : Nat)]] = prE (prsF x y) := by rw [prsF, prE_app]; rfl
  simp only [ZZ, YY, Ze, ite_true, ite_false, forall_const, reduceCtorEq, Nat.reduceAdd, Nat.reduceMul, Nat.reduceLeDiff, Nat.reduceLT, Nat.reduceEqDiff, strE_len, prE_len, hps]
  ((repeat' (with_reducible apply And.intro)) <;> try ((first | first | assumption | trivial | exact (fun hq => by rw [hq]; rfl) | exact i64_of (by omega) (by omega) | omega | (simp; done) | (simp; omega) | (intro hsc; have hs0 := hsc; (try have hsd := of_decide_eq_true hsc); (try simp only [Bool.not_eq_true', Bool.or_eq_false_iff, Bool.and_eq_true, Bool.or_eq_true, decide_eq_true_eq, decide_eq_false_iff_not] at hsc); (repeat' (with_reducible apply And.intro)) <;> (first | assumption | trivial | exact (fun hq => by rw [hq]; rfl) | exact i64_of (by omega) (by omega) | omega | (simp; done) | (simp; omega) | (intro hse; simp [hse, hs0]; done) | (intro hse; simp only [hse, hs0, Bool.true_and, Bool.and_true, Bool.not_false, Bool.not_true, Bool.and_self]; done))))))
  rw [show chF x y = chg x y (prsF x y) 0 0 from rfl]
  generalize prsF x y = ps at *
  refine loop_intro (fun n fr L => ∃ (k : Nat) (i : Nat) (j : Nat) (out : List Chg), k ≤ ps.length ∧ n = ps.length - k ∧ (out.length ≤ k) ∧ (chg x y ps 0 0 = out ++ chg x y (ps.drop k) i j) ∧ (Chn x.length y.length i j (ps.drop k)) ∧ fr = [.p (.str a), .p (.str b), .any, .any, .any, .p (.sl 1 (strE x)), .p (.sl 1 (strE y)), .row (.l 7), .p (int (i : Nat)), .p (int (j : Nat)), .any, .any, .any, .any, .any, .any, .any, .any, .any, .any, .any, .any, .any, .any, .any, .row (.l 18), .p (int (ps.length : Nat)), .p (int (k : Nat)), .any, .any, .any, .any, .any, .any, .any, .any, .any, .any, .any, .any, .any, .any, .any, .any, .any, .any, .any, .any, .any, .any, .any, .any, .any, .any, .any, .any, .any, .any, .any, .any, .any, .any, .any, .any, .any, .any] ∧ L = [(.l 18, .row (prE ps) tPr 2 true), (.l 7, .row (chE out) tCh 3 true)]) (ps.length) [.p (.str a), .p (.str b), .any, .any, .any, .p (.sl 1 (strE x)), .p (.sl 1 (strE y)), .row (.l 7), .p (int (0 : Nat)), .p (int (0 : Nat)), .any, .any, .any, .any, .any, .any, .any, .any, .any, .any, .any, .any, .any, .any, .any, .row (.l 18), .p (int (ps.length : Nat)), .p (int (0 : Nat)), .any, .any, .any, .any, .any, .any, .any, .any, .any, .any, .any, .any, .any, .any, .any, .any, .any, .any, .any, .any, .any, .any, .any, .any, .any, .any, .any, .any, .any, .any, .any, .any, .any, .any, .any, .any, .any, .any] [(.l 18, .row (prE ps) tPr 2 true), (.l 7, .row (chE []) tCh 3 true)] (by simp only [ZZ, YY, Ze, ite_true, ite_false, forall_const, reduceCtorEq, Nat.reduceAdd, Nat.reduceMul, Nat.reduceLeDiff, Nat.reduceLT, Nat.reduceEqDiff, strE_len, prE_len]; try trivial) (by (simp only [ZZ, YY, Ze, ite_true, ite_false, forall_const, reduceCtorEq, Nat.reduceAdd, Nat.reduceMul, Nat.reduceLeDiff, Nat.reduceLT, Nat.reduceEqDiff]; try trivial)) ⟨0, 0, 0, [], by omega, by omega, by simp, by simp, by simpa using hch, rfl, rfl⟩ ?_
  rintro n fr L ⟨k, i, j, out, hk, rfl, ho, hf, hc, rfl, rfl⟩
  simp only [ir_chaseref1_DifferOf_L0, ZZ, YY, Ze, ite_true, ite_false, forall_const, reduceCtorEq, Nat.reduceAdd, Nat.reduceMul, Nat.reduceLeDiff, Nat.reduceLT, Nat.reduceEqDiff]
  refine br ?_ ?_
  · intro h
    have hlt : k < ps.length := by have := of_decide_eq_true h; omega
    obtain ⟨p, hp⟩ : ∃ p, ps[k]? = some p := ⟨_, List.getElem?_eq_getElem hlt⟩
    have hg : (prE ps).getD k [] = [int (p.1 : Nat), int (p.2 : Nat)] := by unfold prE; exact getD_map hp
    have hd : ps.drop k = p :: ps.drop (k + 1) := by
      obtain ⟨hl, rfl⟩ := List.getElem?_eq_some_iff.1 hp
      exact List.drop_eq_getElem_cons hl
    obtain ⟨c1, c2, c3, c4, c5⟩ := chn_drop hc hd
    rw [hd, chg] at hf
    simp only [ZZ, YY, Ze, ite_true, ite_false, forall_const, reduceCtorEq, Nat.reduceAdd, Nat.reduceMul, Nat.reduceLeDiff, Nat.reduceLT, Nat.reduceEqDiff, hg, prE_len]
    ((repeat' (with_reducible apply And.intro)) <;> try ((first | first | assumption | trivial | exact (fun hq => by rw [hq]; rfl) | exact i64_of (by omega) (by omega) | omega | (simp; done) | (simp; omega) | (intro hsc; have hs0 := hsc; (try have hsd := of_decide_eq_true hsc); (try simp only [Bool.not_eq_true', Bool.or_eq_false_iff, Bool.and_eq_true, Bool.or_eq_true, decide_eq_true_eq, decide_eq_false_iff_not] at hsc); (repeat' (with_reducible apply And.intro)) <;> (first | assumption | trivial | exact (fun hq => by rw [hq]; rfl) | exact i64_of (by omega) (by omega) | omega | (simp; done) | (simp; omega) | (intro hse; simp [hse, hs0]; done) | (intro hse; simp only [hse, hs0, Bool.true_and, Bool.and_true, Bool.not_false, Bool.not_true, Bool.and_self]; done))))))
    refine br ?_ ?_
    · intro hb
      have hb : i < p.1 ∨ j < p.2 := by
        simp only [Bool.or_eq_true, decide_eq_true_eq] at hb
        omega
      rw [if_pos hb] at hf
      have e1 : ((strE x).take p.1).drop i = strE ((x.take p.1).drop i) := by rw [strE, strE, ← List.map_take, ← List.map_drop]
      have e2 : ((strE y).take p.2).drop j = strE ((y.take p.2).drop j) := by rw [strE, strE, ← List.map_take, ← List.map_drop]
      have l1 : (strE ((x.take p.1).drop i)).length ≤ 1000000 := by rw [strE_len]; simp; omega
      have l2 : (strE ((y.take p.2).drop j)).length ≤ 1000000 := by rw [strE_len]; simp; omega
      simp only [ZZ, YY, Ze, ite_true, ite_false, forall_const, reduceCtorEq, Nat.reduceAdd, Nat.reduceMul, Nat.reduceLeDiff, Nat.reduceLT, Nat.reduceEqDiff]
      refine drg2 (x1 := .sl 1 (strE ((x.take p.1).drop i))) (x2 := .sl 1 (strE ((y.take p.2).drop j))) ?_
      simp only [ZZ, YY, Ze, ite_true, ite_false, forall_const, reduceCtorEq, Nat.reduceAdd, Nat.reduceMul, Nat.reduceLeDiff, Nat.reduceLT, Nat.reduceEqDiff, e1, e2, strE_len, chE_len]
      ((repeat' (with_reducible apply And.intro)) <;> try (first | exact usep (plainR (CloneS_ok _ l1)) rfl (.inl rfl) | exact usep (plainR (CloneS_ok _ l2)) rfl (.inl rfl) | (first | first | assumption | trivial | exact (fun hq => by rw [hq]; rfl) | exact i64_of (by omega) (by omega) | omega | (simp; done) | (simp; omega) | (intro hsc; have hs0 := hsc; (try have hsd := of_decide_eq_true hsc); (try simp only [Bool.not_eq_true', Bool.or_eq_false_iff, Bool.and_eq_true, Bool.or_eq_true, decide_eq_true_eq, decide_eq_false_iff_not] at hsc); (repeat' (with_reducible apply And.intro)) <;> (first | assumption | trivial | exact (fun hq => by rw [hq]; rfl) | exact i64_of (by omega) (by omega) | omega | (simp; done) | (simp; omega) | (intro hse; simp [hse, hs0]; done) | (intro hse; simp only [hse, hs0, Bool.true_and, Bool.and_true, Bool.not_false, Bool.not_true, Bool.and_self]; done))))))
      refine cut_same (by simp only [ZZ, YY, Ze, ite_true, ite_false, forall_const, reduceCtorEq, Nat.reduceAdd, Nat.reduceMul, Nat.reduceLeDiff, Nat.reduceLT, Nat.reduceEqDiff]) ?_
      simp only [ZZ, YY, Ze, ite_true, ite_false, forall_const, reduceCtorEq, Nat.reduceAdd, Nat.reduceMul, Nat.reduceLeDiff, Nat.reduceLT, Nat.reduceEqDiff]
      refine drg0 ?_
      simp only [ZZ, YY, Ze, ite_true, ite_false, forall_const, reduceCtorEq, Nat.reduceAdd, Nat.reduceMul, Nat.reduceLeDiff, Nat.reduceLT, Nat.reduceEqDiff]
      ((repeat' (with_reducible apply And.intro)) <;> try ((first | first | assumption | trivial | exact (fun hq => by rw [hq]; rfl) | exact i64_of (by omega) (by omega) | omega | (simp; done) | (simp; omega) | (intro hsc; have hs0 := hsc; (try have hsd := of_decide_eq_true hsc); (try simp only [Bool.not_eq_true', Bool.or_eq_false_iff, Bool.and_eq_true, Bool.or_eq_true, decide_eq_true_eq, decide_eq_false_iff_not] at hsc); (repeat' (with_reducible apply And.intro)) <;> (first | assumption | trivial | exact (fun hq => by rw [hq]; rfl) | exact i64_of (by omega) (by omega) | omega | (simp; done) | (simp; omega) | (intro hse; simp [hse, hs0]; done) | (intro hse; simp only [hse, hs0, Bool.true_and, Bool.and_true, Bool.not_false, Bool.not_true, Bool.and_self]; done))))))
      have hce : chE out ++ [[int (i : Nat), .sl 1 (strE ((x.take p.1).drop i)), .sl 1 (strE ((y.take p.2).drop j))]] = chE (out ++ [(i, (x.take p.1).drop i, (y.take p.2).drop j)]) := by rw [chE_app]; rfl
      rw [hce]
      refine end_round (ps.length - (k + 1)) [.p (.str a), .p (.str b), .any, .any, .any, .p (.sl 1 (strE x)), .p (.sl 1 (strE y)), .row (.l 7), .p (int ((p.1 + 1) : Nat)), .p (int ((p.2 + 1) : Nat)), .any, .any, .any, .any, .any, .any, .any, .any, .any, .any, .any, .any, .any, .any, .any, .row (.l 18), .p (int (ps.length : Nat)), .p (int ((k + 1) : Nat)), .any, .any, .any, .any, .any, .any, .any, .any, .any, .any, .any, .any, .any, .any, .any, .any, .any, .any, .any, .any, .any, .any, .any, .any, .any, .any, .any, .any, .any, .any, .any, .any, .any, .any, .any, .any, .any, .any] [(.l 18, .row (prE ps) tPr 2 true), (.l 7, .row (chE (out ++ [(i, (x.take p.1).drop i, (y.take p.2).drop j)])) tCh 3 true)] (by omega) (by (simp only [ZZ, YY, Ze, ite_true, ite_false, forall_const, reduceCtorEq, Nat.reduceAdd, Nat.reduceMul, Nat.reduceLeDiff, Nat.reduceLT, Nat.reduceEqDiff]; try trivial)) (by (simp only [ZZ, YY, Ze, ite_true, ite_false, forall_const, reduceCtorEq, Nat.reduceAdd, Nat.reduceMul, Nat.reduceLeDiff, Nat.reduceLT, Nat.reduceEqDiff]; try trivial)) ⟨k + 1, p.1 + 1, p.2 + 1, out ++ [(i, (x.take p.1).drop i, (y.take p.2).drop j)], by omega, rfl, by simp; omega, by rw [hf, List.append_assoc], c5, rfl, rfl⟩
    · intro hb
      have hb : ¬ (i < p.1 ∨ j < p.2) := by
        simp only [Bool.or_eq_false_iff, decide_eq_false_iff_not] at hb
        omega
      rw [if_neg hb, List.nil_append] at hf
      simp only [ZZ, YY, Ze, ite_true, ite_false, forall_const, reduceCtorEq, Nat.reduceAdd, Nat.reduceMul, Nat.reduceLeDiff, Nat.reduceLT, Nat.reduceEqDiff]
      refine cut_same (by simp only [ZZ, YY, Ze, ite_true, ite_false, forall_const, reduceCtorEq, Nat.reduceAdd, Nat.reduceMul, Nat.reduceLeDiff, Nat.reduceLT, Nat.reduceEqDiff]) ?_
      simp only [ZZ, YY, Ze, ite_true, ite_false, forall_const, reduceCtorEq, Nat.reduceAdd, Nat.reduceMul, Nat.reduceLeDiff, Nat.reduceLT, Nat.reduceEqDiff]
      refine drg0 ?_
      simp only [ZZ, YY, Ze, ite_true, ite_false, forall_const, reduceCtorEq, Nat.reduceAdd, Nat.reduceMul, Nat.reduceLeDiff, Nat.reduceLT, Nat.reduceEqDiff]
      ((repeat' (with_reducible apply And.intro)) <;> try ((first | first | assumption | trivial | exact (fun hq => by rw [hq]; rfl) | exact i64_of (by omega) (by omega) | omega | (simp; done) | (simp; omega) | (intro hsc; have hs0 := hsc; (try have hsd := of_decide_eq_true hsc); (try simp only [Bool.not_eq_true', Bool.or_eq_false_iff, Bool.and_eq_true, Bool.or_eq_true, decide_eq_true_eq, decide_eq_false_iff_not] at hsc); (repeat' (with_reducible apply And.intro)) <;> (first | assumption | trivial | exact (fun hq => by rw [hq]; rfl) | exact i64_of (by omega) (by omega) | omega | (simp; done) | (simp; omega) | (intro hse; simp [hse, hs0]; done) | (intro hse; simp only [hse, hs0, Bool.true_and, Bool.and_true, Bool.not_false, Bool.not_true, Bool.and_self]; done))))))
      refine end_round (ps.length - (k + 1)) [.p (.str a), .p (.str b), .any, .any, .any, .p (.sl 1 (strE x)), .p (.sl 1 (strE y)), .row (.l 7), .p (int ((p.1 + 1) : Nat)), .p (int ((p.2 + 1) : Nat)), .any, .any, .any, .any, .any, .any, .any, .any, .any, .any, .any, .any, .any, .any, .any, .row (.l 18), .p (int (ps.length : Nat)), .p (int ((k + 1) : Nat)), .any, .any, .any, .any, .any, .any, .any, .any, .any, .any, .any, .any, .any, .any, .any, .any, .any, .any, .any, .any, .any, .any, .any, .any, .any, .any, .any, .any, .any, .any, .any, .any, .any, .any, .any, .any, .any, .any] [(.l 18, .row (prE ps) tPr 2 true), (.l 7, .row (chE out) tCh 3 true)] (by omega) (by (simp only [ZZ, YY, Ze, ite_true, ite_false, forall_const, reduceCtorEq, Nat.reduceAdd, Nat.reduceMul, Nat.reduceLeDiff, Nat.reduceLT, Nat.reduceEqDiff]; try trivial)) (by (simp only [ZZ, YY, Ze, ite_true, ite_false, forall_const, reduceCtorEq, Nat.reduceAdd, Nat.reduceMul, Nat.reduceLeDiff, Nat.reduceLT, Nat.reduceEqDiff]; try trivial)) ⟨k + 1, p.1 + 1, p.2 + 1, out, by omega, rfl, by omega, hf, c5, rfl, rfl⟩
  · intro h
    have hge : k = ps.length := by have := of_decide_eq_false h; omega
    subst hge
    simp only [ZZ, YY, Ze, ite_true, ite_false, forall_const, reduceCtorEq, Nat.reduceAdd, Nat.reduceMul, Nat.reduceLeDiff, Nat.reduceLT, Nat.reduceEqDiff]
    refine fin_F 7 _ rfl rfl ?_
    rw [hf, List.drop_length, chg, List.append_nil]

def ChC (n : Nat) : Nat → List Chg → Prop
  | p, [] => p ≤ n
  | p, c :: r => p ≤ c.1 ∧ c.1 + c.2.1.length ≤ n ∧ ChC n (c.1 + c.2.1.length) r
theorem cut_len (X : Toks) (i m : Nat) (h : m ≤ X.length) : ((X.take m).drop i).length = m - i := by simp; omega
theorem chC_of (X Y : Toks) : ∀ (ps : List (Nat × Nat)) (i j p : Nat), Chn X.length Y.length i j ps → p ≤ i → p ≤ X.length → ChC X.length p (chg X Y ps i j)
  | [], i, j, p, _, _, h => h
  | q :: r, i, j, p, hc, hp, hl => by
    obtain ⟨c1, c2, c3, c4, c5⟩ := hc
    rw [chg]
    split
    · have e := cut_len X i q.1 c3
      have := chC_of X Y r (q.1 + 1) (q.2 + 1) q.1 c5 (by omega) c3
      refine ⟨hp, ?_, ?_⟩
      · show i + ((X.take q.1).drop i).length ≤ _
        omega
      · show ChC _ (i + ((X.take q.1).drop i).length) _
        rw [show i + ((X.take q.1).drop i).length = q.1 by omega]
        exact this
    · exact chC_of X Y r (q.1 + 1) (q.2 + 1) p c5 (by omega) hl
theorem wgt_cut (l : Toks) (i m : Nat) (h : i ≤ m) (hm : m ≤ l.length) : wgt ((l.take m).drop i) + wgt (l.drop m) = wgt (l.drop i) := by
  rw [← wgt_app]
  congr 1
  conv => rhs; rw [← List.take_append_drop m l]
  rw [List.drop_append_of_le_length (by simp; omega)]
theorem wgt_dropS (l : Toks) (i : Nat) : wgt (l.drop i) ≤ wgt l := by
  have := wgt_app (l.take i) (l.drop i)
  rw [List.take_append_drop] at this
  omega
theorem wgt_dropM (l : Toks) (i j : Nat) (h : i ≤ j) : wgt (l.drop j) ≤ wgt (l.drop i) := by
  have := wgt_dropS (l.drop i) (j - i)
  rw [List.drop_drop, show i + (j - i) = j by omega] at this
  exact this
theorem chg_len (X Y : Toks) : ∀ (ps : List (Nat × Nat)) (i j : Nat), (chg X Y ps i j).length ≤ ps.length
  | [], _, _ => by simp [chg]
  | q :: r, i, j => by
    have := chg_len X Y r (q.1 + 1) (q.2 + 1)
    rw [chg]
    split <;> simp <;> omega
theorem chg_mem (X Y : Toks) : ∀ (ps : List (Nat × Nat)) (i j : Nat), ∀ c ∈ chg X Y ps i j, wgt c.2.1 ≤ wgt X ∧ wgt c.2.2 ≤ wgt Y
  | [], _, _ => by simp [chg]
  | q :: r, i, j => by
    intro c hc
    rw [chg, List.mem_append] at hc
    rcases hc with hc | hc
    · split at hc
      · have := List.mem_singleton.1 hc
        subst this
        exact ⟨Nat.le_trans (wgt_dropS _ _) (wgt_takeS _ _), Nat.le_trans (wgt_dropS _ _) (wgt_takeS _ _)⟩
      · cases hc
    · exact chg_mem X Y r _ _ c hc
theorem chF_len (x y : Toks) : (chF x y).length ≤ x.length + 1 := Nat.le_trans (chg_len x y _ 0 0) (prsF_len x y)
theorem chF_mem (x y : Toks) : ∀ c ∈ chF x y, wgt c.2.1 ≤ wgt x ∧ wgt c.2.2 ≤ wgt y := chg_mem x y _ 0 0
theorem chF_chC (x y : Toks) : ChC x.length 0 (chF x y) := chC_of x y _ 0 0 0 (prsF_chn x y) (Nat.le_refl _) (Nat.zero_le _)
end Go.Proofs.YthfpehmbellmcaaGreatDoor

/- slices.Equal of strings. -/
namespace Go.Proofs.YthfpehmbellmcaaGreatDoor
set_option linter.unusedVariables false
set_option linter.unusedSimpArgs false
set_option linter.defProp false
/- slices.Equal[[]string,string] -/
def ir_slices_Equal_string_string_L0 : IC :=
  (.seq (.reg [⟨some 14, .bin .lss (.t 13) (.t 12), none⟩])
    (.seq (.cond (.t 14) .skip (.exit 0))
    (.seq (.block 1 (.seq (.reg [⟨some 15, .mov (.t 13), none⟩,
      ⟨some 5, .mov (.t 15), none⟩])
    (.seq (.drg [⟨some 16, .mov (.t 0), none⟩,
      ⟨some 17, .mov (.t 5), none⟩,
      ⟨some 18, .ixa 1 (.t 16) (.t 17), none⟩,
      ⟨some 19, .ld 1 false (.t 18), none⟩,
      ⟨some 20, .mov (.t 1), none⟩,
      ⟨some 21, .mov (.t 5), none⟩,
      ⟨some 22, .ixa 1 (.t 20) (.t 21), none⟩,
      ⟨some 23, .ld 1 false (.t 22), none⟩,
      ⟨some 24, .bin .neq (.t 19) (.t 23), none⟩])
    (.cond (.t 24) (.seq (.reg [⟨some 4, .mov (.c (.bool false)), none⟩])
    .ret) .skip))))
    (.reg [⟨some 25, .bin .add (.t 13) (.c (.int .i64 1)), none⟩,
      ⟨some 13, .mov (.t 25), none⟩]))))
def ir_slices_Equal_string_string : IC :=
  (.seq (.reg [⟨some 4, .mov (.c (.bool false)), none⟩])
    (.seq (.seq (.reg [⟨some 6, .mov (.t 0), none⟩,
      ⟨some 7, .len (.t 6), none⟩,
      ⟨some 8, .mov (.t 1), none⟩,
      ⟨some 9, .len (.t 8), none⟩,
      ⟨some 10, .bin .neq (.t 7) (.t 9), none⟩])
    (.cond (.t 10) (.seq (.reg [⟨some 4, .mov (.c (.bool false)), none⟩])
    .ret) .skip))
    (.seq (.seq (.reg [⟨some 11, .mov (.t 0), none⟩,
      ⟨some 12, .len (.t 11), none⟩,
      ⟨some 13, .mov (.c (.int .i64 0)), none⟩])
    (.block 0 (.loop ir_slices_Equal_string_string_L0)))
    (.seq (.reg [⟨some 4, .mov (.c (.bool true)), none⟩])
    .ret))))
def rs_slices_Equal_string_string : List IRes := [.t 4]
theorem ck_slices_Equal_string_string : chkF Tryz.prog Tryz.f11 ir_slices_Equal_string_string rs_slices_Equal_string_string 26 = true := by kernel_rfl

section
variable {E : Envt}
theorem EqualT_ok (l m : List (List UInt8)) (hl : l.length ≤ 1000000000) : PCall Tryz.prog E 11 [strs l, strs m] (· = .bool (decide (l = m))) := by
  refine pcallF mixed Tryz.func11 ck_slices_Equal_string_string ?_
  simp only [a0, l0, OS.ao, List.map_cons, List.map_nil, List.length_cons, List.length_nil, List.cons_append, List.nil_append, Nat.reduceSub, Nat.reduceAdd, List.replicate_succ, List.replicate_zero, ir_slices_Equal_string_string, rs_slices_Equal_string_string, ZZ, YY, Ze, ite_true, ite_false, forall_const, reduceCtorEq, Nat.reduceAdd, Nat.reduceMul, Nat.reduceLeDiff, Nat.reduceLT, Nat.reduceEqDiff]
  simp only [strs, ZZ, YY, Ze, ite_true, ite_false, forall_const, reduceCtorEq, Nat.reduceAdd, Nat.reduceMul, Nat.reduceLeDiff, Nat.reduceLT, Nat.reduceEqDiff]
  have hln : (l.map fun x => [PV.str x]).length = l.length := by simp
  have hlm : (m.map fun x => [PV.str x]).length = m.length := by simp
  have hget : ∀ k x, l[k]? = some x → (l.map fun x => [PV.str x]).getD k [] = [.str x] := fun k p hp => getD_map hp
  have hgem : ∀ k x, m[k]? = some x → (m.map fun x => [PV.str x]).getD k [] = [.str x] := fun k p hp => getD_map hp
  generalize (l.map fun x => [PV.str x]) = es at *
  generalize (m.map fun x => [PV.str x]) = fs at *
  simp only [ZZ, YY, Ze, ite_true, ite_false, forall_const, reduceCtorEq, Nat.reduceAdd, Nat.reduceMul, Nat.reduceLeDiff, Nat.reduceLT, Nat.reduceEqDiff, hln, hlm]
  refine br ?_ ?_
  · intro h
    have : ¬ l = m := by rintro rfl; simp at h
    simp only [ZZ, YY, Ze, ite_true, ite_false, forall_const, reduceCtorEq, Nat.reduceAdd, Nat.reduceMul, Nat.reduceLeDiff, Nat.reduceLT, Nat.reduceEqDiff]
    simp [this]
  intro h
  have hlen : l.length = m.length := by have : (l.length : Int) = m.length := by simpa using h
                                        omega
  simp only [ZZ, YY, Ze, ite_true, ite_false, forall_const, reduceCtorEq, Nat.reduceAdd, Nat.reduceMul, Nat.reduceLeDiff, Nat.reduceLT, Nat.reduceEqDiff]
  refine loop_intro (fun n fr L => ∃ (k : Nat), k ≤ l.length ∧ n = l.length - k ∧ (l.take k = m.take k) ∧ fr = [.p (.sl 1 es), .p (.sl 1 fs), .any, .any, .any, .any, .any, .any, .any, .any, .any, .any, .p (int (l.length : Nat)), .p (int (k : Nat)), .any, .any, .any, .any, .any, .any, .any, .any, .any, .any, .any, .any] ∧ L = []) (l.length) [.p (.sl 1 es), .p (.sl 1 fs), .any, .any, .any, .any, .any, .any, .any, .any, .any, .any, .p (int (l.length : Nat)), .p (int (0 : Nat)), .any, .any, .any, .any, .any, .any, .any, .any, .any, .any, .any, .any] [] (by simp only [hln, ZZ, YY, Ze, ite_true, ite_false, forall_const, reduceCtorEq, Nat.reduceAdd, Nat.reduceMul, Nat.reduceLeDiff, Nat.reduceLT, Nat.reduceEqDiff]; try trivial) (by (simp only [ZZ, YY, Ze, ite_true, ite_false, forall_const, reduceCtorEq, Nat.reduceAdd, Nat.reduceMul, Nat.reduceLeDiff, Nat.reduceLT, Nat.reduceEqDiff]; try trivial)) ⟨0, by omega, by omega, by simp, rfl, rfl⟩ ?_
  rintro n fr L ⟨k, hk, rfl, hf, rfl, rfl⟩
  simp only [ir_slices_Equal_string_string_L0, ZZ, YY, Ze, ite_true, ite_false, forall_const, reduceCtorEq, Nat.reduceAdd, Nat.reduceMul, Nat.reduceLeDiff, Nat.reduceLT, Nat.reduceEqDiff]
  refine br ?_ ?_
  · intro h
    have hlt : k < l.length := by have := of_decide_eq_true h; omega
    obtain ⟨x, hx⟩ : ∃ x, l[k]? = some x := ⟨_, List.getElem?_eq_getElem hlt⟩
    obtain ⟨y, hy⟩ : ∃ y, m[k]? = some y := ⟨_, List.getElem?_eq_getElem (by omega)⟩
    have hg := hget k x hx
    have hg2 := hgem k y hy
    simp only [ZZ, YY, Ze, ite_true, ite_false, forall_const, reduceCtorEq, Nat.reduceAdd, Nat.reduceMul, Nat.reduceLeDiff, Nat.reduceLT, Nat.reduceEqDiff]
    refine drg0 ?_
    simp only [ZZ, YY, Ze, ite_true, ite_false, forall_const, reduceCtorEq, Nat.reduceAdd, Nat.reduceMul, Nat.reduceLeDiff, Nat.reduceLT, Nat.reduceEqDiff, hg, hg2, hln, hlm]
    ((repeat' (with_reducible apply And.intro)) <;> try ((first | first | assumption | trivial | exact (fun hq => by rw [hq]; rfl) | exact i64_of (by omega) (by omega) | omega | (simp; done) | (simp; omega) | (intro hsc; have hs0 := hsc; (try have hsd := of_decide_eq_true hsc); (try simp only [Bool.not_eq_true', Bool.or_eq_false_iff, Bool.and_eq_true, Bool.or_eq_true, decide_eq_true_eq, decide_eq_false_iff_not] at hsc); (repeat' (with_reducible apply And.intro)) <;> (first | assumption | trivial | exact (fun hq => by rw [hq]; rfl) | exact i64_of (by omega) (by omega) | omega | (simp; done) | (simp; omega) | (intro hse; simp [hse, hs0]; done) | (intro hse; simp only [hse, hs0, Bool.true_and, Bool.and_true, Bool.not_false, Bool.not_true, Bool.and_self]; done))))))
    refine br ?_ ?_
    · intro h2
      have : ¬ l = m := by
        rintro rfl
        rw [hx] at hy
        cases hy
        simp at h2
      simp only [ZZ, YY, Ze, ite_true, ite_false, forall_const, reduceCtorEq, Nat.reduceAdd, Nat.reduceMul, Nat.reduceLeDiff, Nat.reduceLT, Nat.reduceEqDiff]
      simp [this]
    · intro h2
      have hxy : x = y := by simpa using h2
      simp only [ZZ, YY, Ze, ite_true, ite_false, forall_const, reduceCtorEq, Nat.reduceAdd, Nat.reduceMul, Nat.reduceLeDiff, Nat.reduceLT, Nat.reduceEqDiff]
      ((repeat' (with_reducible apply And.intro)) <;> try ((first | first | assumption | trivial | exact (fun hq => by rw [hq]; rfl) | exact i64_of (by omega) (by omega) | omega | (simp; done) | (simp; omega) | (intro hsc; have hs0 := hsc; (try have hsd := of_decide_eq_true hsc); (try simp only [Bool.not_eq_true', Bool.or_eq_false_iff, Bool.and_eq_true, Bool.or_eq_true, decide_eq_true_eq, decide_eq_false_iff_not] at hsc); (repeat' (with_reducible apply And.intro)) <;> (first | assumption | trivial | exact (fun hq => by rw [hq]; rfl) | exact i64_of (by omega) (by omega) | omega | (simp; done) | (simp; omega) | (intro hse; simp [hse, hs0]; done) | (intro hse; simp only [hse, hs0, Bool.true_and, Bool.and_true, Bool.not_false, Bool.not_true, Bool.and_self]; done))))))
      refine end_round (l.length - (k + 1)) [.p (.sl 1 es), .p (.sl 1 fs), .any, .any, .any, .any, .any, .any, .any, .any, .any, .any, .p (int (l.length : Nat)), .p (int ((k + 1) : Nat)), .any, .any, .any, .any, .any, .any, .any, .any, .any, .any, .any, .any] [] (by omega) (by (simp only [ZZ, YY, Ze, ite_true, ite_false, forall_const, reduceCtorEq, Nat.reduceAdd, Nat.reduceMul, Nat.reduceLeDiff, Nat.reduceLT, Nat.reduceEqDiff]; try trivial)) (by (simp only [ZZ, YY, Ze, ite_true, ite_false, forall_const, reduceCtorEq, Nat.reduceAdd, Nat.reduceMul, Nat.reduceLeDiff, Nat.reduceLT, Nat.reduceEqDiff]; try trivial)) ⟨k + 1, by omega, rfl, by rw [List.take_add_one, List.take_add_one, hf, hx, hy, hxy], rfl, rfl⟩
  · intro h
    have hge : l.length ≤ k := by have := of_decide_eq_false h; omega
    simp only [ZZ, YY, Ze, ite_true, ite_false, forall_const, reduceCtorEq, Nat.reduceAdd, Nat.reduceMul, Nat.reduceLeDiff, Nat.reduceLT, Nat.reduceEqDiff]
    rw [List.take_of_length_le hge, List.take_of_length_le (by omega)] at hf
    simp [hf]
end
end Go.Proofs.YthfpehmbellmcaaGreatDoor

/- The same changes: told of equal lists. -/
namespace Go.Proofs.YthfpehmbellmcaaGreatDoor
open Go.RowKit
set_option linter.unusedVariables false
set_option linter.unusedSimpArgs false
set_option linter.defProp false

/- paperchase/chaseref1.SameChanges$1 -/
def ir_chaseref1_SameChanges_1 : IC :=
  (.seq (.reg [⟨some 2, .box 76 (.t 0), none⟩,
      ⟨some 3, .box 76 (.t 1), none⟩,
      ⟨some 4, .mov (.c (.bool false)), none⟩])
    (.seq (.reg [⟨some 5, .fla 0 (.t 2), none⟩,
      ⟨some 6, .ld 1 false (.t 5), none⟩,
      ⟨some 7, .fla 0 (.t 3), none⟩,
      ⟨some 8, .ld 1 false (.t 7), none⟩,
      ⟨some 9, .bin .eql (.t 6) (.t 8), none⟩,
      ⟨some 10, .mov (.t 9), none⟩,
      ⟨some 11, .fla 1 (.t 2), (some (10, true))⟩,
      ⟨some 12, .ld 1 false (.t 11), (some (10, true))⟩,
      ⟨some 13, .fla 1 (.t 3), (some (10, true))⟩,
      ⟨some 14, .ld 1 false (.t 13), (some (10, true))⟩,
      ⟨some 15, .call 11 [.t 12, .t 14], (some (10, true))⟩,
      ⟨some 16, .pick (.t 10) (.t 15) (.c (.bool false)), none⟩,
      ⟨some 17, .mov (.t 16), none⟩,
      ⟨some 18, .fla 2 (.t 2), (some (17, true))⟩,
      ⟨some 19, .ld 1 false (.t 18), (some (17, true))⟩,
      ⟨some 20, .fla 2 (.t 3), (some (17, true))⟩,
      ⟨some 21, .ld 1 false (.t 20), (some (17, true))⟩,
      ⟨some 22, .call 11 [.t 19, .t 21], (some (17, true))⟩,
      ⟨some 23, .pick (.t 17) (.t 22) (.c (.bool false)), none⟩,
      ⟨some 4, .mov (.t 23), none⟩])
    .ret))
def rs_chaseref1_SameChanges_1 : List IRes := [.t 4]
theorem ck_chaseref1_SameChanges_1 : chkF Tryz.prog Tryz.f54 ir_chaseref1_SameChanges_1 rs_chaseref1_SameChanges_1 24 = true := by kernel_rfl
/- paperchase/chaseref1.SameChanges -/
def ir_chaseref1_SameChanges : IC :=
  (.seq (.reg [⟨some 4, .mov (.c (.bool false)), none⟩])
    (.seq (.reg [⟨some 5, .mov (.t 0), none⟩,
      ⟨some 6, .mov (.t 1), none⟩,
      ⟨some 7, .call 53 [.t 5, .t 6, .f 54], none⟩,
      ⟨some 4, .mov (.t 7), none⟩])
    .ret))
def rs_chaseref1_SameChanges : List IRes := [.t 4]
theorem ck_chaseref1_SameChanges : chkF Tryz.prog Tryz.f22 ir_chaseref1_SameChanges rs_chaseref1_SameChanges 8 = true := by kernel_rfl
/- slices.EqualFunc[[]paperchase/api.WordChange,[]paperchase/api.WordChange,paperchase/api.WordChange,paperchase/api.WordChange] -/
def ir_slices_EqualFunc_api_WordChange_api_WordChange_api_WordChange_api_WordChange_L0 : IC :=
  (.seq (.reg [⟨some 18, .bin .lss (.t 17) (.t 16), none⟩])
    (.seq (.cond (.t 18) .skip (.exit 0))
    (.seq (.block 1 (.seq (.reg [⟨some 19, .mov (.t 17), none⟩,
      ⟨some 20, .ixa 3 (.t 15) (.t 17), none⟩,
      ⟨some 21, .ld 3 true (.t 20), none⟩,
      ⟨some 8, .alc 76 [.int .i64 0, .nl 1, .nl 1], none⟩,
      ⟨some 7, .mov (.t 19), none⟩,
      ⟨none, .st 3 (.t 8) (.t 21), none⟩])
    (.seq (.reg [⟨some 22, .mov (.t 1), none⟩,
      ⟨some 23, .mov (.t 7), none⟩,
      ⟨some 24, .ixa 3 (.t 22) (.t 23), none⟩,
      ⟨some 25, .ld 3 true (.t 24), none⟩,
      ⟨some 9, .alc 76 [.int .i64 0, .nl 1, .nl 1], none⟩,
      ⟨none, .st 3 (.t 9) (.t 25), none⟩])
    (.seq (.reg [⟨some 26, .mov (.t 2), none⟩,
      ⟨some 27, .ld 3 true (.t 8), none⟩,
      ⟨some 28, .ld 3 true (.t 9), none⟩,
      ⟨some 29, .callv (.t 26) [.t 27, .t 28], none⟩,
      ⟨some 30, .not (.t 29), none⟩])
    (.cond (.t 30) (.seq (.reg [⟨some 6, .mov (.c (.bool false)), none⟩])
    .ret) .skip)))))
    (.reg [⟨some 31, .bin .add (.t 17) (.c (.int .i64 1)), none⟩,
      ⟨some 17, .mov (.t 31), none⟩]))))
def ir_slices_EqualFunc_api_WordChange_api_WordChange_api_WordChange_api_WordChange : IC :=
  (.seq (.reg [⟨some 6, .mov (.c (.bool false)), none⟩])
    (.seq (.seq (.reg [⟨some 10, .mov (.t 0), none⟩,
      ⟨some 11, .len (.t 10), none⟩,
      ⟨some 12, .mov (.t 1), none⟩,
      ⟨some 13, .len (.t 12), none⟩,
      ⟨some 14, .bin .neq (.t 11) (.t 13), none⟩])
    (.cond (.t 14) (.seq (.reg [⟨some 6, .mov (.c (.bool false)), none⟩])
    .ret) .skip))
    (.seq (.seq (.reg [⟨some 15, .mov (.t 0), none⟩,
      ⟨some 16, .len (.t 15), none⟩,
      ⟨some 17, .mov (.c (.int .i64 0)), none⟩])
    (.block 0 (.loop ir_slices_EqualFunc_api_WordChange_api_WordChange_api_WordChange_api_WordChange_L0)))
    (.seq (.reg [⟨some 6, .mov (.c (.bool true)), none⟩])
    .ret))))
def rs_slices_EqualFunc_api_WordChange_api_WordChange_api_WordChange_api_WordChange : List IRes := [.t 6]
theorem ck_slices_EqualFunc_api_WordChange_api_WordChange_api_WordChange_api_WordChange : chkF Tryz.prog Tryz.f53 ir_slices_EqualFunc_api_WordChange_api_WordChange_api_WordChange_api_WordChange rs_slices_EqualFunc_api_WordChange_api_WordChange_api_WordChange_api_WordChange 32 = true := by kernel_rfl

def chV (c : Chg) : List PV := [int (c.1 : Nat), .sl 1 (strE c.2.1), .sl 1 (strE c.2.2)]
theorem SameOne_ok {E : Envt} (c : Chg) (h1 : c.2.1.length ≤ 1000000000) (h2 : c.2.2.length ≤ 1000000000) : PCall Tryz.prog E 54 [.agg (chV c), .agg (chV c)] (· = .bool true) := by
  simp only [chV]
  refine pcallF mixed Tryz.func54 ck_chaseref1_SameChanges_1 ?_
  simp only [a0, l0, OS.ao, List.map_cons, List.map_nil, List.length_cons, List.length_nil, List.cons_append, List.nil_append, Nat.reduceSub, Nat.reduceAdd, List.replicate_succ, List.replicate_zero, ir_chaseref1_SameChanges_1, rs_chaseref1_SameChanges_1, ZZ, YY, Ze, ite_true, ite_false, forall_const, reduceCtorEq, Nat.reduceAdd, Nat.reduceMul, Nat.reduceLeDiff, Nat.reduceLT, Nat.reduceEqDiff]
  have hq : ∀ l : Toks, decide (l = l) = true := fun l => decide_eq_true rfl
  refine useG (fun _ => EqualT_ok c.2.1 c.2.1 h1) rfl (.inl rfl) ?_
  simp only [ZZ, YY, Ze, ite_true, ite_false, forall_const, reduceCtorEq, Nat.reduceAdd, Nat.reduceMul, Nat.reduceLeDiff, Nat.reduceLT, Nat.reduceEqDiff, hq]
  refine useG (fun _ => EqualT_ok c.2.2 c.2.2 h2) rfl (.inl rfl) ?_
  simp only [ZZ, YY, Ze, ite_true, ite_false, forall_const, reduceCtorEq, Nat.reduceAdd, Nat.reduceMul, Nat.reduceLeDiff, Nat.reduceLT, Nat.reduceEqDiff, hq]
  simp
set_option maxRecDepth 100000 in
theorem EqualFuncC_ok {E : Envt} (l : List Chg) (f : FuncId) (hl : l.length ≤ 1000000000) (hfn : fnB Tryz.prog f = true) (hf : ∀ c ∈ l, PCall Tryz.prog E f [.agg (chV c), .agg (chV c)] (· = .bool true)) : PCall Tryz.prog E 53 [.sl 3 (chE l), .sl 3 (chE l), .clo f []] (· = .bool true) := by
  refine pcallF mixed Tryz.func53 ck_slices_EqualFunc_api_WordChange_api_WordChange_api_WordChange_api_WordChange ?_
  simp only [a0, l0, OS.ao, List.map_cons, List.map_nil, List.length_cons, List.length_nil, List.cons_append, List.nil_append, Nat.reduceSub, Nat.reduceAdd, List.replicate_succ, List.replicate_zero, ir_slices_EqualFunc_api_WordChange_api_WordChange_api_WordChange_api_WordChange, rs_slices_EqualFunc_api_WordChange_api_WordChange_api_WordChange_api_WordChange, ZZ, YY, Ze, ite_true, ite_false, forall_const, reduceCtorEq, Nat.reduceAdd, Nat.reduceMul, Nat.reduceLeDiff, Nat.reduceLT, Nat.reduceEqDiff]
  simp only [ZZ, YY, Ze, ite_true, ite_false, forall_const, reduceCtorEq, Nat.reduceAdd, Nat.reduceMul, Nat.reduceLeDiff, Nat.reduceLT, Nat.reduceEqDiff, chE_len, decide_true, Bool.not_true]
  refine loop_intro (fun n fr L => ∃ (k : Nat), k ≤ l.length ∧ n = l.length - k ∧ fr = [.p (.sl 3 (chE l)), .p (.sl 3 (chE l)), .p (.clo f []), .any, .any, .any, .any, .any, .any, .any, .any, .any, .any, .any, .any, .p (.sl 3 (chE l)), .p (int (l.length : Nat)), .p (int (k : Nat)), .any, .any, .any, .any, .any, .any, .any, .any, .any, .any, .any, .any, .any, .any] ∧ L = []) (l.length) [.p (.sl 3 (chE l)), .p (.sl 3 (chE l)), .p (.clo f []), .any, .any, .any, .any, .any, .any, .any, .any, .any, .any, .any, .any, .p (.sl 3 (chE l)), .p (int (l.length : Nat)), .p (int (0 : Nat)), .any, .any, .any, .any, .any, .any, .any, .any, .any, .any, .any, .any, .any, .any] [] (by simp only [ZZ, YY, Ze, ite_true, ite_false, forall_const, reduceCtorEq, Nat.reduceAdd, Nat.reduceMul, Nat.reduceLeDiff, Nat.reduceLT, Nat.reduceEqDiff, chE_len]; try trivial) (by (simp only [ZZ, YY, Ze, ite_true, ite_false, forall_const, reduceCtorEq, Nat.reduceAdd, Nat.reduceMul, Nat.reduceLeDiff, Nat.reduceLT, Nat.reduceEqDiff]; try trivial)) ⟨0, by omega, by omega, rfl, rfl⟩ ?_
  rintro n fr L ⟨k, hk, rfl, rfl, rfl⟩
  simp only [ir_slices_EqualFunc_api_WordChange_api_WordChange_api_WordChange_api_WordChange_L0, ZZ, YY, Ze, ite_true, ite_false, forall_const, reduceCtorEq, Nat.reduceAdd, Nat.reduceMul, Nat.reduceLeDiff, Nat.reduceLT, Nat.reduceEqDiff]
  refine br ?_ ?_
  · intro h
    have hlt : k < l.length := by have := of_decide_eq_true h; omega
    obtain ⟨c, hx⟩ : ∃ c, l[k]? = some c := ⟨_, List.getElem?_eq_getElem hlt⟩
    have hg : (chE l).getD k [] = chV c := by unfold chE; exact getD_map hx
    simp only [chV] at hg
    simp only [ZZ, YY, Ze, ite_true, ite_false, forall_const, reduceCtorEq, Nat.reduceAdd, Nat.reduceMul, Nat.reduceLeDiff, Nat.reduceLT, Nat.reduceEqDiff, hg, chE_len, hfn]
    ((repeat' (with_reducible apply And.intro)) <;> try ((first | first | assumption | trivial | exact (fun hq => by rw [hq]; rfl) | exact i64_of (by omega) (by omega) | omega | (simp; done) | (simp; omega) | (intro hsc; have hs0 := hsc; (try have hsd := of_decide_eq_true hsc); (try simp only [Bool.not_eq_true', Bool.or_eq_false_iff, Bool.and_eq_true, Bool.or_eq_true, decide_eq_true_eq, decide_eq_false_iff_not] at hsc); (repeat' (with_reducible apply And.intro)) <;> (first | assumption | trivial | exact (fun hq => by rw [hq]; rfl) | exact i64_of (by omega) (by omega) | omega | (simp; done) | (simp; omega) | (intro hse; simp [hse, hs0]; done) | (intro hse; simp only [hse, hs0, Bool.true_and, Bool.and_true, Bool.not_false, Bool.not_true, Bool.and_self]; done))))))
    refine use1 (hf c (List.mem_of_getElem? hx)) rfl (.inl rfl) ?_
    simp only [ZZ, YY, Ze, ite_true, ite_false, forall_const, reduceCtorEq, Nat.reduceAdd, Nat.reduceMul, Nat.reduceLeDiff, Nat.reduceLT, Nat.reduceEqDiff]
    ((repeat' (with_reducible apply And.intro)) <;> try ((first | first | assumption | trivial | exact (fun hq => by rw [hq]; rfl) | exact i64_of (by omega) (by omega) | omega | (simp; done) | (simp; omega) | (intro hsc; have hs0 := hsc; (try have hsd := of_decide_eq_true hsc); (try simp only [Bool.not_eq_true', Bool.or_eq_false_iff, Bool.and_eq_true, Bool.or_eq_true, decide_eq_true_eq, decide_eq_false_iff_not] at hsc); (repeat' (with_reducible apply And.intro)) <;> (first | assumption | trivial | exact (fun hq => by rw [hq]; rfl) | exact i64_of (by omega) (by omega) | omega | (simp; done) | (simp; omega) | (intro hse; simp [hse, hs0]; done) | (intro hse; simp only [hse, hs0, Bool.true_and, Bool.and_true, Bool.not_false, Bool.not_true, Bool.and_self]; done))))))
    refine end_round (l.length - (k + 1)) [.p (.sl 3 (chE l)), .p (.sl 3 (chE l)), .p (.clo f []), .any, .any, .any, .any, .any, .any, .any, .any, .any, .any, .any, .any, .p (.sl 3 (chE l)), .p (int (l.length : Nat)), .p (int ((k + 1) : Nat)), .any, .any, .any, .any, .any, .any, .any, .any, .any, .any, .any, .any, .any, .any] [] (by omega) (by (simp only [ZZ, YY, Ze, ite_true, ite_false, forall_const, reduceCtorEq, Nat.reduceAdd, Nat.reduceMul, Nat.reduceLeDiff, Nat.reduceLT, Nat.reduceEqDiff]; try trivial)) (by (simp only [ZZ, YY, Ze, ite_true, ite_false, forall_const, reduceCtorEq, Nat.reduceAdd, Nat.reduceMul, Nat.reduceLeDiff, Nat.reduceLT, Nat.reduceEqDiff]; try trivial)) ⟨k + 1, by omega, rfl, rfl, rfl⟩
  · intro h
    have hge : l.length ≤ k := by have := of_decide_eq_false h; omega
    simp only [ZZ, YY, Ze, ite_true, ite_false, forall_const, reduceCtorEq, Nat.reduceAdd, Nat.reduceMul, Nat.reduceLeDiff, Nat.reduceLT, Nat.reduceEqDiff]
theorem SameChanges_ok {E : Envt} (l : List Chg) (hl : l.length ≤ 1000000000) (hb : ∀ c ∈ l, c.2.1.length ≤ 1000000000 ∧ c.2.2.length ≤ 1000000000) : PCall Tryz.prog E 22 [.sl 3 (chE l), .sl 3 (chE l)] (· = .bool true) := by
  refine pcallF mixed Tryz.func22 ck_chaseref1_SameChanges ?_
  simp only [a0, l0, OS.ao, List.map_cons, List.map_nil, List.length_cons, List.length_nil, List.cons_append, List.nil_append, Nat.reduceSub, Nat.reduceAdd, List.replicate_succ, List.replicate_zero, ir_chaseref1_SameChanges, rs_chaseref1_SameChanges, ZZ, YY, Ze, ite_true, ite_false, forall_const, reduceCtorEq, Nat.reduceAdd, Nat.reduceMul, Nat.reduceLeDiff, Nat.reduceLT, Nat.reduceEqDiff]
  refine use1 (EqualFuncC_ok l _ hl (by kernel_rfl) (fun c hc => SameOne_ok c (hb c hc).1 (hb c hc).2)) rfl (.inl rfl) ?_
  simp only [ZZ, YY, Ze, ite_true, ite_false, forall_const, reduceCtorEq, Nat.reduceAdd, Nat.reduceMul, Nat.reduceLeDiff, Nat.reduceLT, Nat.reduceEqDiff]
end Go.Proofs.YthfpehmbellmcaaGreatDoor

/- Changes put into a text: what a token is, and what comes out (plain). -/
namespace Go.Proofs.YthfpehmbellmcaaGreatDoor
open Go.RowKit
set_option linter.unusedVariables false
set_option linter.unusedSimpArgs false
set_option linter.defProp false

theorem sp_sub (c : UInt8) : ∀ s : List UInt8, ∀ x ∈ sp c s, ∀ b ∈ x, b ∈ s := by
  intro s
  induction s with
  | nil => simp [sp]
  | cons y s ih =>
    intro x hx b hb
    rw [sp] at hx
    split at hx
    · rcases List.mem_cons.1 hx with rfl | hx
      · simp at hb
      · exact List.mem_cons_of_mem _ (ih x hx b hb)
    · cases h : sp c s with
      | nil => exact absurd h (sp_ne c s)
      | cons z r =>
        rw [h] at hx ih
        rcases List.mem_cons.1 hx with rfl | hx
        · simp only [List.headD_cons] at hb
          rcases List.mem_cons.1 hb with rfl | hb
          · simp
          · exact List.mem_cons_of_mem _ (ih z (by simp) b hb)
        · exact List.mem_cons_of_mem _ (ih x (by simp only [List.tail_cons] at hx; exact List.mem_cons_of_mem _ hx) b hb)
theorem tkL_mem (ls : List (List UInt8)) (h : ∀ x ∈ ls, (10 : UInt8) ∉ x) : ∀ k, k ≤ ls.length → ∀ x ∈ tkL ls k, x = [10] ∨ (10 : UInt8) ∉ x
  | 0, _, x, hx => by simp [tkL] at hx
  | k + 1, hk, x, hx => by
    rw [tkL, tkS, List.mem_append, List.mem_append] at hx
    rcases hx with (hx | hx) | hx
    · exact tkL_mem ls h k (by omega) x hx
    · split at hx
      · exact .inl (by simpa using hx)
      · simp at hx
    · have hx := (List.mem_filter.1 hx).1
      rw [splF_sp] at hx
      refine .inr fun hb => ?_
      have h2 := sp_sub 32 _ x hx 10 hb
      have h3 : ls.getD k [] ∈ ls := by
        rw [List.getD, List.getElem?_eq_getElem (by omega), Option.getD_some]
        exact List.getElem_mem _
      exact h _ h3 h2
/-- Whether a string is one token. -/
def isTok (s : List UInt8) : Bool := decide (s = [10]) || (!decide (s = []) && !(decide ((32 : UInt8) ∈ s) || decide ((10 : UInt8) ∈ s)))
theorem tok_one (s : List UInt8) : decide (tokF s = [s]) = isTok s := by
  by_cases h0 : s = []
  · subst h0; rfl
  by_cases h1 : s = [10]
  · subst h1; rfl
  have hq : isTok s = !(decide ((32 : UInt8) ∈ s) || decide ((10 : UInt8) ∈ s)) := by simp [isTok, h0, h1]
  rw [hq]
  by_cases h10 : (10 : UInt8) ∈ s
  · rw [decide_eq_true h10, Bool.or_true, Bool.not_true, decide_eq_false]
    intro e
    have hm : s ∈ tokF s := by rw [e]; simp
    rcases tkL_mem (splF s 10) (by rw [splF_sp]; exact sp_free 10 s) _ (Nat.le_refl _) s hm with h | h
    · exact h1 h
    · exact h h10
  · rw [decide_eq_false h10, Bool.or_false]
    have ht : tokF s = (sp 32 s).filter nem := by
      rw [tokF, splF_sp, sp_one h10]
      simp [tkL, tkS, splF_sp]
    rw [ht]
    by_cases h32 : (32 : UInt8) ∈ s
    · rw [decide_eq_true h32, Bool.not_true, decide_eq_false]
      intro e
      have hm : s ∈ (sp 32 s).filter nem := by rw [e]; simp
      exact sp_free 32 s s ((List.mem_filter.1 hm).1) h32
    · rw [decide_eq_false h32, Bool.not_false, decide_eq_true]
      rw [sp_one h32]
      simp [nem, h0]
/-- Changes with any place. -/
abbrev ChI := Int × Toks × Toks
def ciV (c : ChI) : List PV := [int c.1, .sl 1 (strE c.2.1), .sl 1 (strE c.2.2)]
def ciE (l : List ChI) : List (List PV) := l.map ciV
theorem ciE_len (l : List ChI) : (ciE l).length = l.length := by simp [ciE]
theorem ciE_app (l m : List ChI) : ciE (l ++ m) = ciE l ++ ciE m := by simp [ciE]
theorem ciE_get {l : List ChI} {k : Nat} {c : ChI} (h : l[k]? = some c) : (ciE l).getD k [] = [int c.1, .sl 1 (strE c.2.1), .sl 1 (strE c.2.2)] := getD_map h
theorem ciE_set (l : List ChI) (k : Nat) (c : ChI) : (ciE l).set k [int c.1, .sl 1 (strE c.2.1), .sl 1 (strE c.2.2)] = ciE (l.set k c) := by simp [ciE, List.map_set, ciV]
def liftC (l : List Chg) : List ChI := l.map fun c => ((c.1 : Int), c.2)
theorem ciE_lift (l : List Chg) : ciE (liftC l) = chE l := by simp [ciE, liftC, chE, ciV]
/-- What is wrong with one change. -/
def stE (x : Toks) (first : Bool) (p : Nat) (c : ChI) : Int :=
  if inE c.1 0 x.length = false then 1
  else if first = false ∧ c.1 ≤ p then 7
  else if (c.2.1 = [] ∧ c.2.2 = []) ∨ (c.2.1 ++ c.2.2).any (fun s => !isTok s) = true then 3
  else if x.length < c.1.toNat + c.2.1.length ∨ ¬ (x.drop c.1.toNat).take c.2.1.length = c.2.1 then 13 else 0
/-- The tokens behind the changes, or what is wrong. -/
def paE (x : Toks) : List ChI → Bool → Nat → Int
  | [], _, _ => 0
  | c :: r, first, p => if stE x first p c = 0 then paE x r false (c.1.toNat + c.2.1.length) else stE x first p c
def paT (x : Toks) : List ChI → Nat → Toks → Toks
  | [], p, out => out ++ x.drop p
  | c :: r, p, out => paT x r (c.1.toNat + c.2.1.length) (out ++ (x.take c.1.toNat).drop p ++ c.2.2)
/-- The changes that lead back: places are told by how much was put out. -/
def baT : List ChI → Int → List ChI
  | [], _ => []
  | c :: r, m => (c.1 + m, c.2.2, c.2.1) :: baT r (m + c.2.2.length - c.2.1.length)
/-- What changes may be. -/
def ChB (l : List ChI) : Prop := l.length ≤ 2000 ∧ ∀ c ∈ l, -1000000 ≤ c.1 ∧ c.1 ≤ 1000000 ∧ wgt c.2.1 ≤ 100000 ∧ wgt c.2.2 ≤ 100000
theorem wgt_mem {l : Toks} {x : List UInt8} (h : x ∈ l) : x.length ≤ wgt l := by
  induction l with
  | nil => cases h
  | cons y r ih =>
    rcases List.mem_cons.1 h with rfl | h
    · simp only [wgt]; omega
    · have := ih h; simp only [wgt]; omega
def addW (l : List ChI) : Nat := (l.map fun c => wgt c.2.2).sum
theorem addW_le {l : List ChI} (h : ChB l) : addW l ≤ 200000000 := by
  have : ∀ (l : List ChI), (∀ c ∈ l, wgt c.2.2 ≤ 100000) → addW l ≤ l.length * 100000 := by
    intro l
    induction l with
    | nil => intro _; simp [addW]
    | cons c r ih =>
      intro h
      have h1 := h c (by simp)
      have h2 := ih fun x hx => h x (by simp [hx])
      simp only [addW, List.map_cons, List.sum_cons, List.length_cons] at h2 ⊢
      omega
  have h2 := this l fun c hc => (h.2 c hc).2.2.2
  have h3 := h.1
  omega
theorem addW_cons (c : ChI) (r : List ChI) : addW (c :: r) = wgt c.2.2 + addW r := by simp [addW]
theorem dropL_cons {α : Type} {l : List α} {k : Nat} {x : α} (h : l[k]? = some x) : l.drop k = x :: l.drop (k + 1) := by
  obtain ⟨hl, rfl⟩ := List.getElem?_eq_some_iff.1 h
  exact List.drop_eq_getElem_cons hl
/-- What a Zf does to the weights. -/
theorem step_wgt (x out a d : Toks) (p i W : Nat) (h1 : p ≤ i) (h2 : i ≤ x.length) (hw : wgt out + wgt (x.drop p) + (wgt a + W) ≤ 300000000) : wgt (out ++ (x.take i).drop p ++ a) + wgt (x.drop (i + d.length)) + W ≤ 300000000 := by
  have g1 := wgt_cut x p i h1 h2
  have g2 := wgt_dropM x i (i + d.length) (by omega)
  rw [wgt_app, wgt_app]
  omega
/-- What comes out of changes, or what is wrong. -/
def pE (s : List UInt8) (l : List ChI) : Int := if eTok s = 0 then if paE (tokF s) l true 0 = 0 then if 20000 < (jnF (paT (tokF s) l 0 [])).length then 2 else 0 else paE (tokF s) l true 0 else eTok s
end Go.Proofs.YthfpehmbellmcaaGreatDoor

/- Phrases: the places of phrases, found one by one or painted (plain). -/
namespace Go.Proofs.YthfpehmbellmcaaGreatDoor
set_option linter.unusedVariables false
set_option linter.unusedSimpArgs false
set_option linter.defProp false

end Go.Proofs.YthfpehmbellmcaaGreatDoor

/- Memos and phrases: what makes them, Find, and the reference's FindOf. -/
namespace Go.Proofs.YthfpehmbellmcaaGreatDoor
open Go.RowKit
set_option linter.unusedVariables false
set_option linter.unusedSimpArgs false
set_option linter.defProp false

/- slices.IndexFunc[[]string,string] -/
def ir_slices_IndexFunc_string_string_L0 : IC :=
  (.seq (.reg [⟨some 9, .bin .lss (.t 8) (.t 7), none⟩])
    (.seq (.cond (.t 9) .skip (.exit 0))
    (.seq (.block 1 (.seq (.reg [⟨some 10, .mov (.t 8), none⟩,
      ⟨some 5, .mov (.t 10), none⟩])
    (.seq (.reg [⟨some 11, .mov (.t 1), none⟩,
      ⟨some 12, .mov (.t 0), none⟩,
      ⟨some 13, .mov (.t 5), none⟩,
      ⟨some 14, .ixa 1 (.t 12) (.t 13), none⟩,
      ⟨some 15, .ld 1 false (.t 14), none⟩,
      ⟨some 16, .callv (.t 11) [.t 15], none⟩])
    (.cond (.t 16) (.seq (.reg [⟨some 17, .mov (.t 5), none⟩,
      ⟨some 4, .mov (.t 17), none⟩])
    .ret) .skip))))
    (.reg [⟨some 18, .bin .add (.t 8) (.c (.int .i64 1)), none⟩,
      ⟨some 8, .mov (.t 18), none⟩]))))
def ir_slices_IndexFunc_string_string : IC :=
  (.seq (.reg [⟨some 4, .mov (.c (.int .i64 0)), none⟩])
    (.seq (.seq (.reg [⟨some 6, .mov (.t 0), none⟩,
      ⟨some 7, .len (.t 6), none⟩,
      ⟨some 8, .mov (.c (.int .i64 0)), none⟩])
    (.block 0 (.loop ir_slices_IndexFunc_string_string_L0)))
    (.seq (.reg [⟨some 4, .mov (.c (.int .i64 (-1))), none⟩])
    .ret)))
def rs_slices_IndexFunc_string_string : List IRes := [.t 4]
theorem ck_slices_IndexFunc_string_string : chkF Tryz.prog Tryz.f145 ir_slices_IndexFunc_string_string rs_slices_IndexFunc_string_string 19 = true := by kernel_rfl
/- slices.ContainsFunc[[]string,string] -/
def ir_slices_ContainsFunc_string_string : IC :=
  (.seq (.reg [⟨some 4, .mov (.c (.bool false)), none⟩])
    (.seq (.reg [⟨some 5, .mov (.t 0), none⟩,
      ⟨some 6, .mov (.t 1), none⟩,
      ⟨some 7, .call 145 [.t 5, .t 6], none⟩,
      ⟨some 8, .bin .geq (.t 7) (.c (.int .i64 0)), none⟩,
      ⟨some 4, .mov (.t 8), none⟩])
    .ret))
def rs_slices_ContainsFunc_string_string : List IRes := [.t 4]
theorem ck_slices_ContainsFunc_string_string : chkF Tryz.prog Tryz.f103 ir_slices_ContainsFunc_string_string rs_slices_ContainsFunc_string_string 9 = true := by kernel_rfl


section
variable {E : Envt}
def idxF {α : Type} (q : α → Bool) (l : List α) : Int := match l.findIdx? q with | some i => (i : Int) | none => -1
theorem idxF_hit {α : Type} {q : α → Bool} {l : List α} {k : Nat} {x : α} (h : l[k]? = some x) (hx : q x = true) (hno : ∀ y ∈ l.take k, q y = false) : idxF q l = k := by
  obtain ⟨hk, hxk⟩ := List.getElem?_eq_some_iff.1 h
  have : l.findIdx? q = some k := by
    rw [List.findIdx?_eq_some_iff_getElem]
    refine ⟨hk, by rw [hxk]; exact hx, fun j hj => ?_⟩
    have := hno l[j] (by rw [List.mem_take_iff_getElem]; exact ⟨j, by omega, rfl⟩)
    simp [this]
  simp [idxF, this]
theorem idxF_none {α : Type} {q : α → Bool} {l : List α} (hno : ∀ y ∈ l, q y = false) : idxF q l = -1 := by
  have : l.findIdx? q = none := by rw [List.findIdx?_eq_none_iff]; exact hno
  simp [idxF, this]
theorem idxF_any {α : Type} (q : α → Bool) (l : List α) : decide ((0 : Int) ≤ idxF q l) = l.any q := by
  rw [← List.findIdx?_isSome]
  unfold idxF
  cases l.findIdx? q <;> simp
theorem IndexFuncS_ok (l : List (List UInt8)) (f : FuncId) (q : List UInt8 → Bool) (hl : l.length ≤ 1000000000) (hfn : Unit → fnB Tryz.prog f = true) (hf : ∀ x ∈ l, PCall Tryz.prog E f [.str x] (· = .bool (q x))) : PCall Tryz.prog E 145 [strs l, .clo f []] (· = int (idxF q l)) := by
  refine pcallF mixed Tryz.func145 ck_slices_IndexFunc_string_string ?_
  simp only [a0, l0, OS.ao, List.map_cons, List.map_nil, List.length_cons, List.length_nil, List.cons_append, List.nil_append, Nat.reduceSub, Nat.reduceAdd, List.replicate_succ, List.replicate_zero, ir_slices_IndexFunc_string_string, rs_slices_IndexFunc_string_string, ZZ, YY, Ze, ite_true, ite_false, forall_const, reduceCtorEq, Nat.reduceAdd, Nat.reduceMul, Nat.reduceLeDiff, Nat.reduceLT, Nat.reduceEqDiff]
  simp only [strs, ZZ, YY, Ze, ite_true, ite_false, forall_const, reduceCtorEq, Nat.reduceAdd, Nat.reduceMul, Nat.reduceLeDiff, Nat.reduceLT, Nat.reduceEqDiff]
  have hln : (l.map fun x => [PV.str x]).length = l.length := by simp
  have hget : ∀ k x, l[k]? = some x → (l.map fun x => [PV.str x]).getD k [] = [.str x] := fun k p hp => getD_map hp
  generalize (l.map fun x => [PV.str x]) = es at hln hget ⊢
  refine loop_intro (fun n fr L => ∃ (k : Nat), k ≤ l.length ∧ n = l.length - k ∧ (∀ x ∈ l.take k, q x = false) ∧ fr = [.p (.sl 1 es), .p (.clo f []), .any, .any, .any, .any, .any, .p (int (l.length : Nat)), .p (int (k : Nat)), .any, .any, .any, .any, .any, .any, .any, .any, .any, .any] ∧ L = []) (l.length) [.p (.sl 1 es), .p (.clo f []), .any, .any, .any, .any, .any, .p (int (l.length : Nat)), .p (int (0 : Nat)), .any, .any, .any, .any, .any, .any, .any, .any, .any, .any] [] (by simp only [hln, ZZ, YY, Ze, ite_true, ite_false, forall_const, reduceCtorEq, Nat.reduceAdd, Nat.reduceMul, Nat.reduceLeDiff, Nat.reduceLT, Nat.reduceEqDiff]; try trivial) (by (simp only [ZZ, YY, Ze, ite_true, ite_false, forall_const, reduceCtorEq, Nat.reduceAdd, Nat.reduceMul, Nat.reduceLeDiff, Nat.reduceLT, Nat.reduceEqDiff]; try trivial)) ⟨0, by omega, by omega, by simp, rfl, rfl⟩ ?_
  rintro n fr L ⟨k, hk, rfl, hno, rfl, rfl⟩
  simp only [ir_slices_IndexFunc_string_string_L0, ZZ, YY, Ze, ite_true, ite_false, forall_const, reduceCtorEq, Nat.reduceAdd, Nat.reduceMul, Nat.reduceLeDiff, Nat.reduceLT, Nat.reduceEqDiff]
  refine br ?_ ?_
  · intro h
    have hlt : k < l.length := by have := of_decide_eq_true h; omega
    obtain ⟨x, hx⟩ : ∃ x, l[k]? = some x := ⟨_, List.getElem?_eq_getElem hlt⟩
    have hg := hget k x hx
    simp only [ZZ, YY, Ze, ite_true, ite_false, forall_const, reduceCtorEq, Nat.reduceAdd, Nat.reduceMul, Nat.reduceLeDiff, Nat.reduceLT, Nat.reduceEqDiff, hg, hln, hfn ()]
    ((repeat' (with_reducible apply And.intro)) <;> try ((first | first | assumption | trivial | exact (fun hq => by rw [hq]; rfl) | exact i64_of (by omega) (by omega) | omega | (simp; done) | (simp; omega) | (intro hsc; have hs0 := hsc; (try have hsd := of_decide_eq_true hsc); (try simp only [Bool.not_eq_true', Bool.or_eq_false_iff, Bool.and_eq_true, Bool.or_eq_true, decide_eq_true_eq, decide_eq_false_iff_not] at hsc); (repeat' (with_reducible apply And.intro)) <;> (first | assumption | trivial | exact (fun hq => by rw [hq]; rfl) | exact i64_of (by omega) (by omega) | omega | (simp; done) | (simp; omega) | (intro hse; simp [hse, hs0]; done) | (intro hse; simp only [hse, hs0, Bool.true_and, Bool.and_true, Bool.not_false, Bool.not_true, Bool.and_self]; done))))))
    refine use1 (hf x (List.mem_of_getElem? hx)) rfl (.inl rfl) ?_
    simp only [ZZ, YY, Ze, ite_true, ite_false, forall_const, reduceCtorEq, Nat.reduceAdd, Nat.reduceMul, Nat.reduceLeDiff, Nat.reduceLT, Nat.reduceEqDiff]
    refine br ?_ ?_
    · intro hq
      simp only [ZZ, YY, Ze, ite_true, ite_false, forall_const, reduceCtorEq, Nat.reduceAdd, Nat.reduceMul, Nat.reduceLeDiff, Nat.reduceLT, Nat.reduceEqDiff]
      rw [idxF_hit hx hq hno]
    · intro hq
      simp only [ZZ, YY, Ze, ite_true, ite_false, forall_const, reduceCtorEq, Nat.reduceAdd, Nat.reduceMul, Nat.reduceLeDiff, Nat.reduceLT, Nat.reduceEqDiff]
      ((repeat' (with_reducible apply And.intro)) <;> try ((first | first | assumption | trivial | exact (fun hq => by rw [hq]; rfl) | exact i64_of (by omega) (by omega) | omega | (simp; done) | (simp; omega) | (intro hsc; have hs0 := hsc; (try have hsd := of_decide_eq_true hsc); (try simp only [Bool.not_eq_true', Bool.or_eq_false_iff, Bool.and_eq_true, Bool.or_eq_true, decide_eq_true_eq, decide_eq_false_iff_not] at hsc); (repeat' (with_reducible apply And.intro)) <;> (first | assumption | trivial | exact (fun hq => by rw [hq]; rfl) | exact i64_of (by omega) (by omega) | omega | (simp; done) | (simp; omega) | (intro hse; simp [hse, hs0]; done) | (intro hse; simp only [hse, hs0, Bool.true_and, Bool.and_true, Bool.not_false, Bool.not_true, Bool.and_self]; done))))))
      refine end_round (l.length - (k + 1)) [.p (.sl 1 es), .p (.clo f []), .any, .any, .any, .any, .any, .p (int (l.length : Nat)), .p (int ((k + 1) : Nat)), .any, .any, .any, .any, .any, .any, .any, .any, .any, .any] [] (by omega) (by (simp only [ZZ, YY, Ze, ite_true, ite_false, forall_const, reduceCtorEq, Nat.reduceAdd, Nat.reduceMul, Nat.reduceLeDiff, Nat.reduceLT, Nat.reduceEqDiff]; try trivial)) (by (simp only [ZZ, YY, Ze, ite_true, ite_false, forall_const, reduceCtorEq, Nat.reduceAdd, Nat.reduceMul, Nat.reduceLeDiff, Nat.reduceLT, Nat.reduceEqDiff]; try trivial)) ⟨k + 1, by omega, rfl, by rw [List.take_succ_eq_append_getElem hlt]; intro y hy; rcases List.mem_append.1 hy with hy | hy; exact hno y hy; rw [List.mem_singleton] at hy; rw [hy, (List.getElem?_eq_some_iff.1 hx).2]; exact hq, rfl, rfl⟩
  · intro h
    have hge : l.length ≤ k := by have := of_decide_eq_false h; omega
    rw [List.take_of_length_le hge] at hno
    simp only [ZZ, YY, Ze, ite_true, ite_false, forall_const, reduceCtorEq, Nat.reduceAdd, Nat.reduceMul, Nat.reduceLeDiff, Nat.reduceLT, Nat.reduceEqDiff]
    rw [idxF_none hno]
theorem ContainsFuncS_ok (l : List (List UInt8)) (f : FuncId) (q : List UInt8 → Bool) (hl : l.length ≤ 1000000000) (hfn : Unit → fnB Tryz.prog f = true) (hf : ∀ x ∈ l, PCall Tryz.prog E f [.str x] (· = .bool (q x))) : PCall Tryz.prog E 103 [strs l, .clo f []] (· = .bool (l.any q)) := by
  refine pcallF mixed Tryz.func103 ck_slices_ContainsFunc_string_string ?_
  simp only [a0, l0, OS.ao, List.map_cons, List.map_nil, List.length_cons, List.length_nil, List.cons_append, List.nil_append, Nat.reduceSub, Nat.reduceAdd, List.replicate_succ, List.replicate_zero, ir_slices_ContainsFunc_string_string, rs_slices_ContainsFunc_string_string, ZZ, YY, Ze, ite_true, ite_false, forall_const, reduceCtorEq, Nat.reduceAdd, Nat.reduceMul, Nat.reduceLeDiff, Nat.reduceLT, Nat.reduceEqDiff]
  refine use1 (IndexFuncS_ok l f q hl hfn hf) rfl (.inl rfl) ?_
  simp only [ZZ, YY, Ze, ite_true, ite_false, forall_const, reduceCtorEq, Nat.reduceAdd, Nat.reduceMul, Nat.reduceLeDiff, Nat.reduceLT, Nat.reduceEqDiff]
  rw [idxF_any]
end
end Go.Proofs.YthfpehmbellmcaaGreatDoor

/- strings.IndexRune at a rune beyond ASCII in an ASCII string; strings.IndexAny of any string at ASCII letters. -/
namespace Go.Proofs.YthfpehmbellmcaaGreatDoor
open Go.Shelf Go.RowKit Go.Lib
set_option linter.unusedVariables false
set_option linter.unusedSimpArgs false
set_option linter.defProp false

theorem get_bang {s : ByteArray} {j : Nat} (h : j < s.size) : s.get! j = s[j]'h := by
  simp [ByteArray.get!, getElem!_pos, h]
  rfl
theorem decode_high (s : ByteArray) (pos : Nat) (h : pos < s.size) (ha : 128 ≤ (s[pos]'h).toNat) :
    128 ≤ (Utf8.decode s pos).1 ∧ (Utf8.decode s pos).1 ≤ 1114111 ∧ 1 ≤ (Utf8.decode s pos).2 ∧ pos + (Utf8.decode s pos).2 ≤ s.size ∧ ∀ j (hj : j < s.size), pos ≤ j → j < pos + (Utf8.decode s pos).2 → 128 ≤ (s[j]'hj).toNat := by
  have g0 : s.get! (pos + 0) = s[pos]'h := get_bang h
  have hb : (s[pos]'h).toNat < 256 := (s[pos]'h).toNat_lt
  have hc : ∀ k, (decide (pos + k < s.size) && ((s.get! (pos + k)).toNat / 64 == 2)) = true → ∃ hk : pos + k < s.size, 128 ≤ (s[pos + k]'hk).toNat := by
    intro k hk
    simp only [Bool.and_eq_true, decide_eq_true_eq, beq_iff_eq] at hk
    refine ⟨hk.1, ?_⟩
    have := hk.2
    rw [get_bang hk.1] at this
    omega
  have one : ∀ j (hj : j < s.size), pos ≤ j → j < pos + 1 → 128 ≤ (s[j]'hj).toNat := by
    intro j hj h1 h2
    obtain rfl : j = pos := by omega
    exact ha
  have hw : ∀ n, n ≤ 4 → (∀ k, 1 ≤ k → k < n → (decide (pos + k < s.size) && ((s.get! (pos + k)).toNat / 64 == 2)) = true) → 1 ≤ n → pos + n ≤ s.size ∧ ∀ j (hj : j < s.size), pos ≤ j → j < pos + n → 128 ≤ (s[j]'hj).toNat := by
    intro n hn hk h1
    constructor
    · by_cases e : n = 1
      · omega
      · obtain ⟨hx, _⟩ := hc (n - 1) (hk (n - 1) (by omega) (by omega))
        omega
    · intro j hj j1 j2
      by_cases e : j = pos
      · subst e; exact ha
      · obtain ⟨k, rfl⟩ : ∃ k, j = pos + k := ⟨j - pos, by omega⟩
        obtain ⟨_, hx⟩ := hc k (hk k (by omega) (by omega))
        exact hx
  unfold Utf8.decode
  simp only [g0]
  rw [if_neg (by omega)]
  split
  · rename_i h1
    simp only [Bool.and_eq_true] at h1
    split
    · rename_i h2
      refine ⟨by omega, by omega, (by show 1 ≤ 2; decide), ?_⟩
      exact hw 2 (by decide) (fun k k1 k2 => by obtain rfl : k = 1 := by omega
                                                simpa using h1.2) (by decide)
    · exact ⟨by decide, by decide, by decide, by omega, one⟩
  · split
    · rename_i h1
      simp only [Bool.and_eq_true] at h1
      split
      · rename_i h2
        simp only [Bool.and_eq_true, decide_eq_true_eq] at h2
        refine ⟨by omega, ?_, (by show 1 ≤ 3; decide), ?_⟩
        · have := h2.2
          rw [Utf8.valid] at this
          simp only [Bool.or_eq_true, Bool.and_eq_true, decide_eq_true_eq] at this
          omega
        · exact hw 3 (by decide) (fun k k1 k2 => by
            rcases (show k = 1 ∨ k = 2 by omega) with rfl | rfl
            · simpa using h1.1.2
            · simpa using h1.2) (by decide)
      · exact ⟨by decide, by decide, by decide, by omega, one⟩
    · split
      · rename_i h1
        simp only [Bool.and_eq_true] at h1
        split
        · rename_i h2
          simp only [Bool.and_eq_true, decide_eq_true_eq] at h2
          refine ⟨by omega, ?_, (by show 1 ≤ 4; decide), ?_⟩
          · have := h2.2
            rw [Utf8.valid] at this
            simp only [Bool.or_eq_true, Bool.and_eq_true, decide_eq_true_eq] at this
            omega
          · exact hw 4 (by decide) (fun k k1 k2 => by
              rcases (show k = 1 ∨ k = 2 ∨ k = 3 by omega) with rfl | rfl | rfl
              · simpa using h1.1.1.2
              · simpa using h1.1.2
              · simpa using h1.2) (by decide)
        · exact ⟨by decide, by decide, by decide, by omega, one⟩
      · exact ⟨by decide, by decide, by decide, by omega, one⟩

/-- The next rune of a string that is ranged over. -/
theorem run_next_any {P : Program} (w : World) (g : Nat) (s : ByteArray) (pos : Nat) (ty : TypeId) (hg : w.heap[g]? = some (.stringIter s pos)) (h : pos < s.size) :
    (Instr.next (.pointer (some ⟨g, 0, none⟩)) true ty).run P w = .ok (.tuple #[.bool true, .int .i64 pos, .int .i32 (Utf8.decode s pos).1]) { w with heap := w.heap.setIfInBounds g (.stringIter s (pos + (Utf8.decode s pos).2)) } := by
  simp only [Instr.next, getObj, setObj, Sem.run_bind, Sem.run, hg, Result.andThen, h, if_true]
  rfl
theorem run_next_over {P : Program} (w : World) (g : Nat) (s : ByteArray) (pos : Nat) (ty : TypeId) (hg : w.heap[g]? = some (.stringIter s pos)) (h : ¬ pos < s.size) :
    (Instr.next (.pointer (some ⟨g, 0, none⟩)) true ty).run P w = .ok (.tuple #[.bool false]) w := by
  simp only [Instr.next, getObj, Sem.run_bind, Sem.run, hg, Result.andThen, h, if_false]
  rfl

theorem indexByte_absent {l : List UInt8} {c : UInt8} (h : ∀ b ∈ l, b ≠ c) : Lib.indexByte l c = -1 := by
  have h1 := Lib.contains_iff_indexByte l c
  have h2 : l.contains c = false := by
    rw [Bool.eq_false_iff]
    intro h3
    exact h c (by simpa using h3) rfl
  rw [h2] at h1
  have h3 : ¬ (0 : Int) ≤ Lib.indexByte l c := of_decide_eq_false h1.symm
  have h4 : -1 ≤ Lib.indexByte l c := by rw [← Lib.indexAny_one]; exact Lib.indexAny_ge _ _
  omega

def Asc (s : ByteArray) : Prop := ∀ (j : Nat) (b : UInt8), s.data.toList[j]? = some b → b.toNat < 128
theorem Asc.at' {s : ByteArray} (h : Asc s) {j : Nat} (hj : j < s.size) : (s[j]'hj).toNat < 128 := h j _ (Lib.data_getElem? s j hj)
theorem Asc.rest {s : ByteArray} (h : Asc s) (i : Nat) {c : UInt8} (hc : 128 ≤ c.toNat) : Lib.indexByte (s.extract i s.size).data.toList c = -1 := by
  refine indexByte_absent fun b hb e => ?_
  have hb := mem_extract hb
  obtain ⟨j, hj⟩ := List.getElem?_of_mem hb
  have := h j b hj
  rw [e] at this
  omega

theorem iter_step {w wx : World} {s : ByteArray} {i : Nat} (hit : wx.heap[w.heap.size]? = some (.stringIter s i)) (hbl : Below w.heap.size w wx) (j : Nat) :
    ({ wx with heap := wx.heap.setIfInBounds w.heap.size (.stringIter s j) } : World).heap[w.heap.size]? = some (.stringIter s j) ∧ Below w.heap.size w { wx with heap := wx.heap.setIfInBounds w.heap.size (.stringIter s j) } := by
  have hlt : w.heap.size < wx.heap.size := (Array.getElem?_eq_some_iff.1 hit).1
  refine ⟨by simp [hlt], hbl.os, hbl.tape, hbl.output, by simpa using hbl.size, fun b hb => ?_⟩
  rw [← hbl.block b hb]
  exact Array.getElem?_setIfInBounds_ne (by omega)
theorem noAny_high {s chars : ByteArray} (ha : Asc chars) {i n : Nat} (h : Lib.NoAny s.data.toList chars.data.toList i) (hn : ∀ j (hj : j < s.size), i ≤ j → j < i + n → 128 ≤ (s[j]'hj).toNat) : Lib.NoAny s.data.toList chars.data.toList (i + n) := by
  intro j b hj hb
  by_cases hji : j < i
  · exact h j b hji hb
  · have hjs : j < s.size := by
      have := (List.getElem?_eq_some_iff.1 hb).1
      rwa [← Lib.size_eq] at this
    have h1 := hn j hjs (by omega) hj
    have h2 : s[j]'hjs = b := by
      have := Lib.data_getElem? s j hjs
      rw [this] at hb; exact Option.some.inj hb
    rw [h2] at h1
    rw [Bool.eq_false_iff]
    intro h3
    have h3 : b ∈ chars.data.toList := by simpa using h3
    obtain ⟨k, hk⟩ := List.getElem?_of_mem h3
    have := ha k b hk
    omega
theorem below_drewN {B : Nat} {a w : World} {n : Nat} (h : Below B a w) : Below B a (w.drewN n) := ⟨h.os, h.tape, h.output, h.size, h.block⟩

section
variable {P : Program} {ρ : Ren}
set_option maxHeartbeats 4000000 in
set_option maxRecDepth 1000000 in
theorem IndexRune_err (L : Lays.n152 P ρ) (s : ByteArray) (w : World) (hs : Asc s) :
    Calls P (ρ.f 152) #[.string s, .int .i32 65533] w fun e w' => e = .returned (.int .i64 (-1)) ∧ Below w.heap.size w w' := by
  have HA : Aside (Asc s) := hs
  clear hs
  have t3 := L.t3; have a3 := L.a3; have z3 := L.z3; have v3 := L.v3
  have t4 := L.t4; have a4 := L.a4; have z4 := L.z4; have v4 := L.v4
  have t5 := L.t5; have a5 := L.a5; have z5 := L.z5; have v5 := L.v5
  have t9 := L.t9; have a9 := L.a9; have z9 := L.z9; have v9 := L.v9
  have t21 := L.t21; have a21 := L.a21; have z21 := L.z21; have v21 := L.v21
  go_enter L.f152, Body.n152_ntmps ρ
  go_wp2
  go_loopg [5, 6] s.size (fun g _ _ wx => ∃ i : Nat, i + g = s.size ∧ wx = w.iter s i)
  case atStart => exact ⟨0, by omega, rfl⟩
  case round =>
    obtain ⟨i, hig, rfl⟩ := hrel
    cases gk with
    | zero =>
      obtain rfl : i = s.size := by omega
      have hnx := run_next_end (P := P) w s s.size
      go_wp2
      go_ret
      exact ⟨rfl, (Below.refl _ _).alloc (Nat.le_refl _) _⟩
    | succ g =>
      have hi : i < s.size := by omega
      have hx128 := HA.out.at' hi
      have hnx := fun ty => run_next_ascii (P := P) w s i ty hi hx128
      have hne : (((s[i]'hi).toNat : Int) == 65533) = false := beq_eq_false_iff_ne.2 (by omega)
      go_wp2
      go_roundg g
      case measure => omega
      case rel => exact ⟨i + 1, by omega, rfl⟩

set_option maxHeartbeats 8000000 in
set_option maxRecDepth 1000000 in
theorem IndexRune_val (L : Lays.n152 P ρ) (s : ByteArray) (r : Int) (w : World) (hs : Asc s) (hz : s.size < 4611686018427387904) (h1 : 128 ≤ r) (h2 : r ≤ 1114111) (h3 : r ≠ 65533) :
    Calls P (ρ.f 152) #[.string s, .int .i32 r] w fun e w' => e = .returned (.int .i64 (-1)) ∧ Below w.heap.size w w' := by
  have HA : Aside (Asc s) := hs
  clear hs
  have hne : (r == 65533) = false := beq_eq_false_iff_ne.2 h3
  have hlt : decide (r < 128) = false := decide_eq_false (by omega)
  have hle : decide (0 ≤ r) = true := decide_eq_true (by omega)
  have t3 := L.t3; have a3 := L.a3; have z3 := L.z3; have v3 := L.v3
  have t4 := L.t4; have a4 := L.a4; have z4 := L.z4; have v4 := L.v4
  have t5 := L.t5; have a5 := L.a5; have z5 := L.z5; have v5 := L.v5
  have t9 := L.t9; have a9 := L.a9; have z9 := L.z9; have v9 := L.v9
  have t21 := L.t21; have a21 := L.a21; have z21 := L.z21; have v21 := L.v21
  have mixed := L.mixed
  have e119 : ∀ args w, (callFunc (ρ.f 119) args).run P w = .ok (.enter (ρ.f 119) args) w := enters_of L.f119 (by kernel_rfl) rfl
  have e137 : ∀ args w, (callFunc (ρ.f 137) args).run P w = .ok (.enter (ρ.f 137) args) w := enters_of L.f137 (by kernel_rfl) rfl
  by_cases hv : Lib.validRune r = true
  · have hv2 : Utf8.valid r = true := by
      unfold Utf8.valid
      have h := hv
      unfold Lib.validRune at h
      simp at h ⊢
      omega
    obtain ⟨m1, m2, m3⟩ := encode_facts r hv2 h1
    generalize hE : Utf8.encode r = rs at *
    obtain ⟨m, hm⟩ : ∃ m, rs.size = m + 1 := ⟨rs.size - 1, by omega⟩
    have hmr : m < rs.size := by omega
    have m3' : 128 ≤ (rs[m]'hmr).toNat := by
      have h := m3 (by omega)
      have e : rs.size - 1 = m := by omega
      simpa only [e] using h
    clear m3
    have w1 : IntKind.i64.wrap ((rs.size : Int) - 1) = (m : Int) := by rw [wrap_small _ (by omega) (by omega)]; omega
    have hx := HA.out.rest (m + 1) m3'
    have w4 : m < s.size → IntKind.i64.wrap ((m : Int) + 1) = (m : Int) + 1 := fun _ => wrap_small _ (by omega) (by omega)
    clear hm m1 m2
    go_enter L.f152, Body.n152_ntmps ρ
    go_wp2_with (go_at_fn (ρ.f 119); refine (Any.utf8_ValidRune { L with } _ _).mono ?_; rintro e w' ⟨rfl, hw⟩; rw [hw])
    go_step3
    go_wp2
    go_loopg [9] 1 (fun g s9 wx => g = 1 ∧ s9 = .int .i64 (m : Int) ∧ wx = w)
    case atStart => exact ⟨rfl, rfl, rfl⟩
    case round =>
      obtain ⟨rfl, rfl, rfl⟩ := hrel
      by_cases hin : m < s.size
      · have w3 : decide ((m : Int) < (s.size : Int)) = true := decide_eq_true (by omega)
        have hb : (((s[m]'hin).toNat : Int) == ((rs[m]'hmr).toNat : Int)) = false := beq_eq_false_iff_ne.2 (by have := HA.out.at' hin; omega)
        have w4 := w4 hin
        have i3 : (m : Int) + 1 ≤ (s.size : Int) := by omega
        have i4 : ¬ (s.size : Int) < (m : Int) + 1 := by omega
        have i5 : (0 : Int) ≤ (m : Int) + 1 := by omega
        have i6 : ((m : Int) + 1).toNat = m + 1 := by omega
        have i7 : ¬ (s.size : Int) < (m : Int) := by omega
        go_wp2_with fail
        go_step3
        go_wp2_with fail
        go_quiet_o (fail)
        go_wp2_with fail
        have hc : ∀ W, Calls P (ρ.f 137) #[.string (s.extract (m + 1) s.size), .int .u8 ((rs[m]'hmr).toNat : Int)] W fun e w' => e = .returned (.int .i64 (-1)) ∧ w' = W := fun W => by
          have h := Any.strings_IndexByte (P := P) (ρ := ρ) { L with } (s.extract (m + 1) s.size) ((rs[m]'hmr).toNat : Int) W
          rwa [show (((rs[m]'hmr).toNat : Int)).toNat.toUInt8 = rs[m]'hmr from by simp, hx] at h
        go_quiet_o (exact (hc _).mono fun _ _ h => ⟨h.1, _, h.2⟩)
        go_wp2_with fail
        simp only [Exit.noGoto, Exit.inBlock, Exit.then]
        go_ret
        exact ⟨rfl, below_drewN (Below.refl _ _)⟩
      · have w3 : decide ((m : Int) < (s.size : Int)) = false := decide_eq_false (by omega)
        go_wp2
        rw [Exit.noGoto_ret]
        go_ret
        exact ⟨rfl, Below.refl _ _⟩
  · have hv' : Lib.validRune r = false := Bool.eq_false_iff.2 hv
    go_enter L.f152, Body.n152_ntmps ρ
    go_wp2_with (go_at_fn (ρ.f 119); refine (Any.utf8_ValidRune { L with } _ _).mono ?_; rintro e w' ⟨rfl, rfl⟩)
    go_ret
    exact ⟨rfl, Below.refl _ _⟩

theorem IndexRune_high (L : Lays.n152 P ρ) (s : ByteArray) (r : Int) (w : World) (hs : Asc s) (hz : s.size < 4611686018427387904) (h1 : 128 ≤ r) (h2 : r ≤ 1114111) :
    Calls P (ρ.f 152) #[.string s, .int .i32 r] w fun e w' => e = .returned (.int .i64 (-1)) ∧ Below w.heap.size w w' := by
  by_cases h3 : r = 65533
  · subst h3; exact IndexRune_err L s w hs
  · exact IndexRune_val L s r w hs hz h1 h2 h3

set_option maxHeartbeats 8000000 in
set_option maxRecDepth 1000000 in
/-- A string of at most eight bytes, whatever they are. -/
theorem IndexAny_short (L : Lays.n153 P ρ) (s chars : ByteArray) (w : World) (h2 : 2 ≤ chars.size) (h8 : s.size ≤ 8) (hz : chars.size < 4611686018427387904) (hascii : Asc chars) :
    Calls P (ρ.f 153) #[.string s, .string chars] w fun e w' => e = .returned (.int .i64 (Lib.indexAny s.data.toList chars.data.toList)) ∧ Below w.heap.size w w' := by
  have HA : Aside (Asc chars) := hascii
  clear hascii
  have hemp : chars.toList.isEmpty = false := by
    rw [Lib.toList_data]
    cases h : chars.data.toList with
    | nil => have := Lib.size_eq chars; rw [h, List.length_nil] at this; omega
    | cons _ _ => rfl
  have hn1 : ((chars.size : Int) == 1) = false := beq_eq_false_iff_ne.2 (by omega)
  have h8z : decide ((8 : Int) < (s.size : Int)) = false := decide_eq_false (by omega)
  have t3 := L.t3; have a3 := L.a3; have z3 := L.z3; have v3 := L.v3
  have t4 := L.t4; have a4 := L.a4; have z4 := L.z4; have v4 := L.v4
  have t5 := L.t5; have a5 := L.a5; have z5 := L.z5; have v5 := L.v5
  have t9 := L.t9; have a9 := L.a9; have z9 := L.z9; have v9 := L.v9
  have t21 := L.t21; have a21 := L.a21; have z21 := L.z21; have v21 := L.v21
  have e152 : ∀ args w, (callFunc (ρ.f 152) args).run P w = .ok (.enter (ρ.f 152) args) w := enters_of L.f152 (by kernel_rfl) rfl
  have e226 : ∀ args w, (callFunc (ρ.f 226) args).run P w = .ok (.enter (ρ.f 226) args) w := enters_of L.f226 (by kernel_rfl) rfl
  go_enter L.f153, Body.n153_ntmps ρ
  go_wp2_with (go_at_fn (ρ.f 226); refine (Any.strings_shouldUseASCIISet { L with } _ _).mono ?_; rintro e w' ⟨rfl, hw⟩; rw [hw, h8z])
  go_loopg [9, 10] s.size (fun g _ _ wx => ∃ i : Nat, i ≤ s.size ∧ s.size - i ≤ g ∧ wx.heap[w.heap.size]? = some (.stringIter s i) ∧ Below w.heap.size w wx ∧ Lib.NoAny s.data.toList chars.data.toList i)
  case atStart => exact ⟨0, by omega, by omega, by rw [World.iter_heap], (Below.refl _ _).alloc (Nat.le_refl _) _, Lib.NoAny.zero _ _⟩
  case round =>
    obtain ⟨i, his, hig, hit, hbl, hno⟩ := hrel
    have HN : Aside (Lib.NoAny s.data.toList chars.data.toList i) := hno
    clear hno
    by_cases hi : i < s.size
    · obtain ⟨g, rfl⟩ : ∃ g, gk = g + 1 := ⟨gk - 1, by omega⟩
      by_cases hx128 : (s[i]'hi).toNat < 128
      · obtain ⟨x, hx⟩ : ∃ x : UInt8, s[i]'hi = x := ⟨_, rfl⟩
        have hnx := fun ty => run_next_any (P := P) wr w.heap.size s i ty hit hi
        obtain ⟨k1, k2⟩ := iter_step hit hbl (i + 1)
        rw [decode_ascii s i hi hx128] at hnx
        simp only [hx] at hnx hx128
        have hxl : s.data.toList[i]? = some x := by rw [← hx]; exact Lib.data_getElem? s i hi
        generalize hW : ({ wr with heap := wr.heap.setIfInBounds w.heap.size (.stringIter s (i + 1)) } : World) = W1 at *
        have Hx : Aside (s.data.toList[i]? = some x) := hxl
        clear hxl hx hW
        have hcon := Lib.contains_iff_indexByte chars.data.toList x
        have hback : ((x.toNat : Int)).toNat.toUInt8 = x := by simp
        cases hin : chars.data.toList.contains x
        · rw [hin] at hcon
          have hlt : ¬ ((0 : Int) ≤ Lib.indexByte chars.data.toList x) := of_decide_eq_false hcon.symm
          clear hcon
          go_wp2_with (go_at_fn (ρ.f 152); refine (Any.strings_IndexRune_ascii { L with } _ _ _ (by omega) (by omega)).mono ?_; rintro e w' ⟨rfl, hw⟩; rw [hw, hback])
          go_roundg g
          case measure => omega
          case rel => exact ⟨i + 1, by omega, by omega, k1, k2, HN.out.succ Hx.out hin⟩
        · rw [hin] at hcon
          have hge : (0 : Int) ≤ Lib.indexByte chars.data.toList x := of_decide_eq_true hcon.symm
          clear hcon
          go_wp2_with (go_at_fn (ρ.f 152); refine (Any.strings_IndexRune_ascii { L with } _ _ _ (by omega) (by omega)).mono ?_; rintro e w' ⟨rfl, hw⟩; rw [hw, hback])
          go_ret
          exact ⟨by rw [Lib.indexAny_hit HN.out Hx.out hin]; rfl, k2⟩
      · obtain ⟨d1, d2, d3, d4, d5⟩ := decode_high s i hi (by omega)
        have hnx := fun ty => run_next_any (P := P) wr w.heap.size s i ty hit hi
        obtain ⟨k1, k2⟩ := iter_step hit hbl (i + (Utf8.decode s i).2)
        generalize hW : ({ wr with heap := wr.heap.setIfInBounds w.heap.size (.stringIter s (i + (Utf8.decode s i).2)) } : World) = W1 at *
        have H5 : Aside (Lib.NoAny s.data.toList chars.data.toList (i + (Utf8.decode s i).2)) := noAny_high HA.out HN.out d5
        clear d5 hW
        generalize (Utf8.decode s i).2 = wd at *
        generalize hcc : (((Utf8.decode s i).1 : Nat) : Int) = cc at *
        have hc1 : 128 ≤ cc := by omega
        have hc2 : cc ≤ 1114111 := by omega
        clear hcc d1 d2
        have hneg : ¬ (0 : Int) ≤ -1 := by decide
        go_wp2_with (go_at_fn (ρ.f 152); refine (IndexRune_high { L with } chars cc W1 HA.out hz hc1 hc2).mono ?_; rintro e w' ⟨rfl, hw⟩)
        go_roundg g
        case measure => omega
        case rel => exact ⟨i + wd, by omega, by omega, by rw [hw.block _ (Array.getElem?_eq_some_iff.1 k1).1]; exact k1, k2.trans (hw.mono k2.size), H5.out⟩
    · obtain rfl : i = s.size := by omega
      have hnx := fun ty => run_next_over (P := P) _ _ s s.size ty hit (by omega)
      go_wp2
      go_ret
      exact ⟨by rw [Lib.indexAny_none (by rw [← Lib.size_eq]; exact HN.out)]; rfl, hbl⟩

/-- strings.IndexAny of any string, at ASCII letters. -/
theorem IndexAny_all (L : Lays.n153 P ρ) (h116 : (P.info? (ρ.t 116)).map (fun i => (i.zero, i.size)) = some (some (.agg (Array.replicate 256 (.bool false))), 256)) (s chars : ByteArray) (w : World) (hs : s.size < 4294967281) (hcs : chars.size < 4294967281) (hac : Asc chars) :
    Calls P (ρ.f 153) #[.string s, .string chars] w fun e w' => e = .returned (.int .i64 (Lib.indexAny s.data.toList chars.data.toList)) ∧ Below w.heap.size w w' := by
  by_cases h0 : chars.size = 0
  · exact (Any.strings_IndexAny_none L s chars w h0).mono fun e w' ⟨h1, h2⟩ => ⟨h1, h2 ▸ Below.refl _ _⟩
  by_cases h1 : chars.size = 1
  · exact (Any.strings_IndexAny_one L s chars w h1 hac).mono fun e w' ⟨h1, h2⟩ => ⟨h1, h2 ▸ Below.refl _ _⟩
  by_cases h8 : s.size ≤ 8
  · exact IndexAny_short L s chars w (by omega) h8 (by omega) hac
  · refine (Any.strings_IndexAny_long L (zero_of_info h116).1 (zero_of_info h116).2 s chars w (by omega) (by omega) hs hcs hac).mono fun e w' ⟨h1, h2⟩ => ⟨h1, ?_⟩
    rw [h2]
    exact ((Below.refl _ _).alloc (Nat.le_refl _) _).alloc (by simp) _
end
end Go.Proofs.YthfpehmbellmcaaGreatDoor

/- What one token is, on the program's side. -/
namespace Go.Proofs.YthfpehmbellmcaaGreatDoor
open Go.RowKit
set_option linter.unusedVariables false
set_option linter.unusedSimpArgs false
set_option linter.defProp false

/- paperchase/near.isToken -/
def ir_near_isToken : IC :=
  (.seq (.reg [⟨some 2, .mov (.c (.bool false)), none⟩])
    (.seq (.reg [⟨some 3, .mov (.t 0), none⟩,
      ⟨some 4, .bin .eql (.t 3) (.c (.str [10])), none⟩,
      ⟨some 5, .mov (.t 4), none⟩,
      ⟨some 6, .mov (.t 0), (some (5, false))⟩,
      ⟨some 7, .bin .neq (.t 6) (.c (.str [])), (some (5, false))⟩,
      ⟨some 8, .mov (.t 7), (some (5, false))⟩,
      ⟨some 9, .mov (.t 0), (some (8, true))⟩,
      ⟨some 10, .call 144 [.t 9, .c (.str [32, 10])], (some (8, true))⟩,
      ⟨some 11, .not (.t 10), (some (8, true))⟩,
      ⟨some 12, .pick (.t 8) (.t 11) (.c (.bool false)), (some (5, false))⟩,
      ⟨some 13, .pick (.t 5) (.c (.bool true)) (.t 12), none⟩,
      ⟨some 2, .mov (.t 13), none⟩])
    .ret))
def rs_near_isToken : List IRes := [.t 2]
theorem ck_near_isToken : chkF Tryz.prog Tryz.f102 ir_near_isToken rs_near_isToken 14 = true := by kernel_rfl
/- paperchase/near.patched$1 -/
def ir_near_patched_1 : IC :=
  (.seq (.reg [⟨some 2, .mov (.c (.bool false)), none⟩])
    (.seq (.reg [⟨some 3, .mov (.t 0), none⟩,
      ⟨some 4, .call 102 [.t 3], none⟩,
      ⟨some 5, .not (.t 4), none⟩,
      ⟨some 2, .mov (.t 5), none⟩])
    .ret))
def rs_near_patched_1 : List IRes := [.t 2]
theorem ck_near_patched_1 : chkF Tryz.prog Tryz.f101 ir_near_patched_1 rs_near_patched_1 6 = true := by kernel_rfl

section
variable {E : Envt}
def ascQ (l : List UInt8) : Bool := l.all fun b => decide (b.toNat < 128)
theorem ascQ_at {l : List UInt8} (h : ascQ l = true) : ∀ (j : Nat) b, (⟨l.toArray⟩ : ByteArray).data.toList[j]? = some b → b.toNat < 128 :=
  fun _ b hb => of_decide_eq_true (List.all_eq_true.1 h b (List.mem_of_getElem? (by simpa using hb)))
theorem IndexAnyQ_ok (s cs : List UInt8) (hs : s.length ≤ 1000000000) (hcs : cs.length ≤ 1000000) (h2 : ascQ cs = true) : PCall Tryz.prog E 171 [.str s, .str cs] (· = int (Lib.indexAny s cs)) :=
  pcall_flat rfl rfl fun w _ => (IndexAny_all Tryz.layIndexAny (by kernel_rfl) ⟨s.toArray⟩ ⟨cs.toArray⟩ w (by rw [ba_size]; omega) (by rw [ba_size]; omega) (ascQ_at h2)).mono fun e w' h => ⟨h.1, grow_below h.2⟩
/- strings.ContainsAny -/
def ir_strings_ContainsAny : IC :=
  (.seq (.reg [⟨some 4, .mov (.c (.bool false)), none⟩])
    (.seq (.reg [⟨some 5, .mov (.t 0), none⟩,
      ⟨some 6, .mov (.t 1), none⟩,
      ⟨some 7, .call 171 [.t 5, .t 6], none⟩,
      ⟨some 8, .bin .geq (.t 7) (.c (.int .i64 0)), none⟩,
      ⟨some 4, .mov (.t 8), none⟩])
    .ret))
def rs_strings_ContainsAny : List IRes := [.t 4]
theorem ck_strings_ContainsAny : chkF Tryz.prog Tryz.f144 ir_strings_ContainsAny rs_strings_ContainsAny 9 = true := by kernel_rfl

theorem ContainsAnyQ_ok (s cs : List UInt8) (hs : s.length ≤ 1000000000) (hcs : cs.length ≤ 1000000) (h2 : ascQ cs = true) : PCall Tryz.prog E 144 [.str s, .str cs] (· = .bool (decide (0 ≤ Lib.indexAny s cs))) := by
  refine pcallF mixed Tryz.func144 ck_strings_ContainsAny ?_
  simp only [a0, l0, OS.ao, List.map_cons, List.map_nil, List.length_cons, List.length_nil, List.cons_append, List.nil_append, Nat.reduceSub, Nat.reduceAdd, List.replicate_succ, List.replicate_zero, ir_strings_ContainsAny, rs_strings_ContainsAny, ZZ, YY, Ze, ite_true, ite_false, forall_const, reduceCtorEq, Nat.reduceAdd, Nat.reduceMul, Nat.reduceLeDiff, Nat.reduceLT, Nat.reduceEqDiff]
  refine use1 (IndexAnyQ_ok s cs hs hcs h2) rfl (.inl rfl) ?_
  simp only [ZZ, YY, Ze, ite_true, ite_false, forall_const, reduceCtorEq, Nat.reduceAdd, Nat.reduceMul, Nat.reduceLeDiff, Nat.reduceLT, Nat.reduceEqDiff]
theorem any_sp : ∀ (s : List UInt8), decide (0 ≤ Lib.indexAny s [32, 10]) = (decide ((32 : UInt8) ∈ s) || decide ((10 : UInt8) ∈ s))
  | [] => by simp [Lib.indexAny]
  | x :: r => by
    have ih := any_sp r
    have hg := Lib.indexAny_ge [32, 10] r
    rw [Lib.indexAny]
    by_cases hc : ([32, 10] : List UInt8).contains x = true
    · rw [if_pos hc]
      have hx : x = 32 ∨ x = 10 := by simpa using hc
      rcases hx with rfl | rfl <;> simp
    · rw [if_neg hc]
      have hx : ¬ (x = 32 ∨ x = 10) := by simpa using hc
      have h1 : ¬ (32 : UInt8) = x := fun e => hx (.inl e.symm)
      have h2 : ¬ (10 : UInt8) = x := fun e => hx (.inr e.symm)
      simp only [List.mem_cons, h1, h2, false_or]
      rw [← ih, Bool.eq_iff_iff, decide_eq_true_iff, decide_eq_true_iff]
      by_cases hq : Lib.indexAny r [32, 10] = -1
      · rw [hq]; simp
      · rw [if_neg (by simpa using hq)]; omega
theorem isToken_ok (s : List UInt8) (hs : s.length ≤ 1000000000) : PCall Tryz.prog E 102 [.str s] (· = .bool (isTok s)) := by
  refine pcallF mixed Tryz.func102 ck_near_isToken ?_
  simp only [a0, l0, OS.ao, List.map_cons, List.map_nil, List.length_cons, List.length_nil, List.cons_append, List.nil_append, Nat.reduceSub, Nat.reduceAdd, List.replicate_succ, List.replicate_zero, ir_near_isToken, rs_near_isToken, ZZ, YY, Ze, ite_true, ite_false, forall_const, reduceCtorEq, Nat.reduceAdd, Nat.reduceMul, Nat.reduceLeDiff, Nat.reduceLT, Nat.reduceEqDiff]
  refine useG (fun _ => ContainsAnyQ_ok s [32, 10] hs (by simp) rfl) rfl (.inl rfl) ?_
  simp only [ZZ, YY, Ze, ite_true, ite_false, forall_const, reduceCtorEq, Nat.reduceAdd, Nat.reduceMul, Nat.reduceLeDiff, Nat.reduceLT, Nat.reduceEqDiff]
  rw [any_sp]
  unfold isTok
  by_cases h1 : s = [10] <;> by_cases h2 : s = [] <;> simp [h1, h2]
theorem wrong_ok (s : List UInt8) (hs : s.length ≤ 1000000000) : PCall Tryz.prog E 101 [.str s] (· = .bool (!isTok s)) := by
  refine pcallF mixed Tryz.func101 ck_near_patched_1 ?_
  simp only [a0, l0, OS.ao, List.map_cons, List.map_nil, List.length_cons, List.length_nil, List.cons_append, List.nil_append, Nat.reduceSub, Nat.reduceAdd, List.replicate_succ, List.replicate_zero, ir_near_patched_1, rs_near_patched_1, ZZ, YY, Ze, ite_true, ite_false, forall_const, reduceCtorEq, Nat.reduceAdd, Nat.reduceMul, Nat.reduceLeDiff, Nat.reduceLT, Nat.reduceEqDiff]
  refine use1 (isToken_ok s hs) rfl (.inl rfl) ?_
  simp only [ZZ, YY, Ze, ite_true, ite_false, forall_const, reduceCtorEq, Nat.reduceAdd, Nat.reduceMul, Nat.reduceLeDiff, Nat.reduceLT, Nat.reduceEqDiff]
end
end Go.Proofs.YthfpehmbellmcaaGreatDoor

/- The cells of strings; slices.Sort and slices.Compact of the strings that a call owns. -/
namespace Go.Proofs.YthfpehmbellmcaaGreatDoor
open Go.Shelf Go.RowKit Go.Lib Go.Sort
set_option linter.unusedVariables false
set_option linter.unusedSimpArgs false
set_option linter.defProp false

def sE (l : List UInt8) : Value := .string ⟨l.toArray⟩
theorem strE_vals {w : World} {U : Nat → Prop} : ∀ {l : List (List UInt8)} {vs : List Value}, PRepL w U (strE l).flatten vs ↔ vs = l.map sE
  | [], vs => by simp [strE, PRepL]
  | c :: r, vs => by
    have ih : ∀ vs, PRepL w U (strE r).flatten vs ↔ vs = r.map sE := fun vs => strE_vals
    simp only [strE, List.map_cons, List.flatten_cons, List.cons_append, List.nil_append, PRepL, PRep] at ih ⊢
    constructor
    · rintro ⟨v, r', rfl, rfl, h⟩
      rw [(ih r').1 h]
      rfl
    · rintro rfl
      exact ⟨_, _, rfl, rfl, (ih _).2 rfl⟩
theorem repE_sE {w : World} {U : Nat → Prop} {b : Nat} : ∀ (l : List (List UInt8)) (off : Nat), (∀ i u, (l.map sE)[i]? = some u → w.cell? ⟨b, off + i, none⟩ = some u) → PRepE w U b 1 off (strE l)
  | [], off, h => trivial
  | x :: r, off, h => by
    refine ⟨rfl, ⟨⟨.string ⟨x.toArray⟩, by simpa [sE] using h 0 _ rfl, rfl, rfl⟩, trivial⟩, repE_sE r (off + 1) fun i u hu => ?_⟩
    have := h (i + 1) u (by simpa using hu)
    rwa [show off + (i + 1) = off + 1 + i from by omega] at this
/-- The strings of an owned row are sorted in place. -/
theorem sortS_row {E : Envt} (et : Nat) (l : List (List UInt8)) (hl : l.length ≤ 1000000000000) : RCall Tryz.prog E 113 et 1 (strE l) [] (fun x es' => x = .tup [] ∧ es' = strE (l.mergeSort fun x y => decide (x ≤ y))) := by
  intro w U vs v0 hU hE hEb hA hB
  obtain ⟨hB1, us, hrow, h1, hrep, hz⟩ := hB
  simp only [PRepL] at hA
  subst hA
  rw [strE_vals] at hrep
  subst hrep
  rw [strE_len] at hrow
  have hml : (l.mergeSort fun x y => decide (x ≤ y)).length = l.length := List.length_mergeSort _
  rcases hrow.2 with ⟨rfl, hn⟩ | ⟨b, cap, cur, fz, rfl, hg, hn, hcap, hcs, htk, hfz⟩
  · have hl0 : l = [] := List.eq_nil_of_length_eq_zero hn
    subst hl0
    refine (AnyM.slices_Sort_string_none Tryz.laySort none 0 w).mono ?_
    rintro e w' ⟨rfl, rfl⟩
    exact ⟨_, .p (.tup []), .row et 1 [], rfl, ⟨_, _, rfl, rfl, rfl, by simp [strE]⟩, ⟨[], rfl, by simp [PRepL]⟩, Grow.refl _ _, ⟨[], ⟨by simp, .inl ⟨rfl, rfl⟩⟩, by simp, by simp [PRepL], by simp⟩⟩
  · have hf0 : fz = (0, 0) := by rcases hfz with h | h; exact h; exact absurd h.1 (by simp)
    subst hf0
    have hb : b < w.heap.size := by
      rcases Nat.lt_or_ge b w.heap.size with h | h
      · exact h
      · rw [Array.getElem?_eq_none h] at hg; cases hg
    simp only [Nat.mul_one] at htk hcs
    have hH : Holds encStr w b 0 l.toArray := by
      intro j hj
      have hj' : j < l.length := by simpa using hj
      have e1 : cur[j]? = some (encStr l.toArray[j]!) := by
        rw [← Array.getElem?_toList, ← List.getElem?_take_of_lt hj', htk, List.getElem?_map, List.getElem?_eq_getElem hj', getElem!_pos l.toArray j hj]
        rfl
      refine ⟨?_, ?_⟩
      · simp only [World.cell?, hg]
        simpa using e1
      · simp [World.frozen?, hg]
    refine (AnyM.slices_Sort_string Tryz.laySort b 0 cap l w hH hb (by omega)).mono ?_
    rintro e w' ⟨rfl, n, os, rfl⟩
    generalize (l.mergeSort fun x y => decide (x ≤ y)) = m at *
    have hblk : ∀ c, c ≠ b → c < w.heap.size → (grow (putRow encStr (Sort.ahead w n) b 0 m.toArray) os).heap[c]? = w.heap[c]? := by
      intro c hc hlt
      simp only [grow, putRow, mapBlock]
      rw [Array.getElem?_append_left (by simpa using hlt), Array.getElem?_modify, if_neg (fun e => hc e.symm)]
      rfl
    have hnew : (grow (putRow encStr (Sort.ahead w n) b 0 m.toArray) os).heap[b]? = some (.cells (putCells encStr 0 m.toArray cur) et (0, 0)) := by
      simp only [grow, putRow, mapBlock]
      rw [Array.getElem?_append_left (by simpa using hb), Array.getElem?_modify, if_pos rfl]
      show Option.map _ w.heap[b]? = _
      rw [hg]
      rfl
    have hGr : Grow w (grow (putRow encStr (Sort.ahead w n) b 0 m.toArray) os) (fun c => blk (.slice (some ⟨b, 0, none⟩) l.length cap) = some c) := by
      refine ⟨rfl, rfl, rfl, ?_, fun c hc hne => hblk c (fun e => hne (by rw [e]; rfl)) hc⟩
      simp [grow, putRow, mapBlock, Sort.ahead]
    refine ⟨_, .p (.tup []), .row et 1 (strE m), rfl, ⟨_, _, rfl, rfl, rfl, rfl⟩, ⟨[], rfl, by simp [PRepL]⟩, hGr, ?_⟩
    refine ⟨m.map sE, ⟨by rw [strE_len]; simp, .inr ⟨b, cap, _, (0, 0), by rw [strE_len, hml], hnew, by rw [strE_len, hml]; exact hn, hcap, by simp [putCells, hcs], ?_, .inl rfl⟩⟩, ?_, strE_vals.2 rfl, ?_⟩
    · rw [strE_len]
      apply List.ext_getElem?
      intro j
      by_cases hj : j < m.length
      · rw [List.getElem?_take_of_lt (by simpa using hj), Array.getElem?_toList]
        simp only [putCells, Array.getElem?_mapIdx]
        rw [Array.getElem?_eq_getElem (by omega), Option.map_some, if_pos ⟨Nat.zero_le _, by simpa using hj⟩, Nat.sub_zero, getElem!_pos _ j (by simpa using hj)]
        simp [hj, sE]
      · rw [List.getElem?_eq_none (by rw [List.length_take]; omega), List.getElem?_eq_none (by simp; omega)]
    · intro u hu
      obtain ⟨x, _, rfl⟩ := List.mem_map.1 hu
      rfl
    · intro x hx
      simp only [strE, List.mem_map] at hx
      obtain ⟨y, _, rfl⟩ := hx
      rfl
theorem compact_le (l : List (List UInt8)) : (Lib.compact l).length ≤ l.length := by
  unfold Lib.compact Lib.compactUpTo
  rw [List.length_map]
  exact Nat.le_trans (List.length_filter_le _ _) (by simp)
section
variable {E : Envt} {L : Objs} {k : Key} {fr : List AV} {d : Option Nat} {is : List IOper} {Y : List PV} {K : List AV → Objs → Prop}
/-- Runs of equal strings of an owned row are made one: what is left is plain, the row is gone. -/
theorem useComp (i : Nat) (l : List (List UInt8)) (hlen : l.length ≤ 1000000000) (hlk : Zas L k = some (.row (strE l) 9 1 true))
    (hk : awpOps Tryz.prog E Y is (Zg (fr.map (·.kill (.l i))) d (.p (.sl 1 (strE (Lib.compact l))))) (delO L k) K) : CallOp Tryz.prog E 119 [.row k] L d fr (contO Tryz.prog E Y is K) := by
  refine .inr (.inr ⟨i, ?_⟩)
  intro w X ι vs hs hX hE hEb hA
  simp only [ARepL, ARep] at hA
  obtain ⟨v1, r1, rfl, ⟨rfl, A, n, c, hv⟩, rfl⟩ := hA
  obtain ⟨us, u1, u2, u3, u4⟩ := hs.obj k _ hlk
  rw [strE_vals] at u3
  subst u3
  have hown := u1.owns
  rw [strE_len] at hown
  by_cases hne : ι k = .slice none 0 0
  · have hl0 : l = [] := by
      rcases hown.2 with ⟨_, h0⟩ | ⟨q, cap, cur, h1, _⟩
      · exact List.eq_nil_of_length_eq_zero h0
      · rw [hne] at h1; cases h1
    subst hl0
    rw [hne]
    refine (Any.slices_Compact_string_empty Tryz.layCompact none 0 w).mono ?_
    rintro e w' ⟨rfl, rfl⟩
    have hsub : ∀ j a, Zas (delO L k) j = some a → Zas L j = some a := by
      intro j a hj
      rw [look_delO] at hj
      by_cases e : j = k
      · rw [if_pos e] at hj; cases hj
      · rwa [if_neg e] at hj
    have hown3 : ∀ x, Own (delO L k) ι x → Own L ι x := fun x ⟨j, a, h1, h2⟩ => ⟨j, a, hsub j a h1, h2⟩
    have hkp : Keeps w' w' (fun x => Own L ι x ∨ X x) (fun x => Own (delO L k) ι x ∨ X x) := fun x hx hu => ⟨rfl, fun h => hu (h.imp (hown3 x) id)⟩
    refine ⟨_, .p (.sl 1 (strE (Lib.compact []))), delO L k, ι, rfl, hk, ?_, ⟨⟨?_, fun j j' a a' x h1 h2 h3 h4 => hs.inj j j' a a' x (hsub j a h1) (hsub j' a' h2) h3 h4⟩, Grow.refl _ _, fun x h => .inl (hown3 x h), fun j _ => rfl, fun j hj => ?_⟩⟩
    · show PRep w' _ (.sl 1 (strE (Lib.compact []))) _
      exact ⟨none, 0, rfl, by simp [strE, Lib.compact, Lib.compactUpTo], fun h => absurd rfl h⟩
    · intro j a h1
      exact ObjOk.mono hkp (fun x hx => rfl) (hs.obj j a (hsub j a h1))
    · obtain ⟨a, ha⟩ := Option.isSome_iff_exists.1 hj
      exact .inl (by rw [hsub j a ha]; rfl)
  obtain ⟨b, cap, hvb, _, hlt, hnc, hcm, _, hH⟩ := Lib.holds_of_ownsRow (enc := encStr) hown hne
  rw [hvb] at hown
  have hOb : Own L ι b := ⟨k, _, hlk, by rw [hvb]; rfl⟩
  have hcall := Any.slices_Compact_string Tryz.layCompact b 0 cap l w hH (by omega) (by simpa using hnc)
  rw [hvb]
  refine hcall.mono ?_
  rintro e w' ⟨rfl, q, rfl⟩
  have hle : (Lib.compact l).length ≤ l.length := compact_le l
  have hown2 := Lib.ownsRow_putRow (enc := encStr) (q := q) (k := (Lib.compact l).length) (ys := (Lib.compact l) ++ List.replicate (l.length - (Lib.compact l).length) []) hown (by simp; omega) hle
  rw [List.take_left' rfl] at hown2
  generalize hW : putRow encStr (Sort.ahead w q) b 0 ((Lib.compact l) ++ List.replicate (l.length - (Lib.compact l).length) []).toArray = w1 at hown2 ⊢
  have hG : Grow w w1 (fun x => x = b) := by
    rw [← hW]
    refine ⟨rfl, rfl, rfl, by simp [putRow, mapBlock, Sort.ahead], fun x hx hn => ?_⟩
    simp [putRow, mapBlock, Sort.ahead, Array.getElem?_modify, show b ≠ x from fun e => hn e.symm]
  have hsub : ∀ j a, Zas (delO L k) j = some a → j ≠ k ∧ Zas L j = some a := by
    intro j a hj
    rw [look_delO] at hj
    by_cases e : j = k
    · rw [if_pos e] at hj; cases hj
    · rw [if_neg e] at hj; exact ⟨e, hj⟩
  have hown3 : ∀ x, Own (delO L k) ι x → Own L ι x := fun x ⟨j, a, h1, h2⟩ => ⟨j, a, (hsub j a h1).2, h2⟩
  have hnb : ¬ (Own (delO L k) ι b ∨ X b) := by
    rintro (⟨j, a, h1, h2⟩ | h)
    · obtain ⟨e, h3⟩ := hsub j a h1
      exact e (hs.inj j k a _ b h3 hlk h2 (by rw [hvb]; rfl))
    · exact (hX b h).2 hOb
  have hgrow : Grow w w1 (Own L ι) := ⟨hG.os, hG.tape, hG.output, hG.size, fun x hx hn => hG.block x hx (fun e => hn (by rw [e]; exact hOb))⟩
  have hkp : Keeps w w1 (fun x => Own L ι x ∨ X x) (fun x => Own (delO L k) ι x ∨ X x) := fun x hx hu => ⟨hgrow.block x hx (fun h => hu (.inl h)), fun h => hu (h.imp (hown3 x) id)⟩
  refine ⟨_, .p (.sl 1 (strE (Lib.compact l))), delO L k, ι, rfl, hk, ?_, ⟨⟨?_, fun j j' a a' x h1 h2 h3 h4 => hs.inj j j' a a' x (hsub j a h1).2 (hsub j' a' h2).2 h3 h4⟩, hgrow, fun x h => .inl (hown3 x h), fun j _ => rfl, fun j hj => ?_⟩⟩
  · show PRep w1 _ (.sl 1 (strE _)) _
    refine ⟨some ⟨b, 0, none⟩, cap, by rw [strE_len], by rw [strE_len]; omega, fun _ => ⟨b, 0, rfl, Nat.lt_of_lt_of_le hlt hG.size, hnb, repE_sE _ 0 fun j u hu => ?_⟩⟩
    rw [Nat.zero_add]
    have := hown2.cells (g := b) rfl j u hu
    rw [show ({ block := b, off := 0 } : Addr).add j = ⟨b, j, none⟩ from by cases j <;> simp [Addr.add]] at this
    exact this
  · intro j a h1
    obtain ⟨e, h2⟩ := hsub j a h1
    refine ObjOk.mono hkp (fun x hx => hG.block x ((hs.obj j a h2).blk_lt hx) (fun ex => ?_)) (hs.obj j a h2)
    subst ex
    exact e (hs.inj j k a _ x h2 hlk hx (by rw [hvb]; rfl))
  · obtain ⟨a, ha⟩ := Option.isSome_iff_exists.1 hj
    exact .inl (by rw [(hsub j a ha).2]; rfl)
end
end Go.Proofs.YthfpehmbellmcaaGreatDoor

/- Shingles. -/
namespace Go.Proofs.YthfpehmbellmcaaGreatDoor
open Go.RowKit
set_option linter.unusedVariables false
set_option linter.unusedSimpArgs false
set_option linter.defProp false

/- paperchase/near.shingles -/
def ir_near_shingles_L0 : IC :=
  (.seq (.reg [⟨some 23, .bin .lss (.t 22) (.t 21), none⟩])
    (.seq (.cond (.t 23) .skip (.exit 0))
    (.seq (.block 1 (.seq (.reg [⟨some 24, .mov (.t 22), none⟩,
      ⟨some 7, .mov (.t 24), none⟩])
    (.reg [⟨some 25, .mov (.t 6), none⟩,
      ⟨some 26, .mov (.t 5), none⟩,
      ⟨some 27, .mov (.t 7), none⟩,
      ⟨some 28, .mov (.t 7), none⟩,
      ⟨some 29, .mov (.t 1), none⟩,
      ⟨some 30, .bin .add (.t 28) (.t 29), none⟩,
      ⟨some 31, .vsl 1 (.t 26) (some (.t 27)) (some (.t 30)), none⟩,
      ⟨some 32, .call 69 [.t 31, .c (.str [32])], none⟩,
      ⟨some 33, .bsl 1 [.t 32], none⟩,
      ⟨some 34, .app 9 1 16 (.t 25) (.t 33), none⟩,
      ⟨some 6, .mov (.t 34), none⟩])))
    (.reg [⟨some 35, .bin .add (.t 22) (.c (.int .i64 1)), none⟩,
      ⟨some 22, .mov (.t 35), none⟩]))))
def ir_near_shingles : IC :=
  (.seq (.reg [⟨some 4, .mov (.c (.nl 1)), none⟩])
    (.seq (.reg [⟨some 8, .mov (.t 0), none⟩,
      ⟨some 9, .call 111 [.t 8], none⟩,
      ⟨some 5, .mov (.t 9), none⟩])
    (.seq (.seq (.reg [⟨some 10, .mov (.t 5), none⟩,
      ⟨some 11, .len (.t 10), none⟩,
      ⟨some 12, .bin .eql (.t 11) (.c (.int .i64 0)), none⟩])
    (.cond (.t 12) (.seq (.reg [⟨some 4, .mov (.c (.nl 1)), none⟩])
    .ret) .skip))
    (.seq (.reg [⟨some 13, .mov (.t 1), none⟩,
      ⟨some 14, .mov (.t 5), none⟩,
      ⟨some 15, .len (.t 14), none⟩,
      ⟨some 16, .mn (.t 13) (.t 15), none⟩,
      ⟨some 1, .mov (.t 16), none⟩])
    (.seq (.reg [⟨some 6, .nilr 9 1, none⟩])
    (.seq (.seq (.reg [⟨some 17, .mov (.t 5), none⟩,
      ⟨some 18, .len (.t 17), none⟩,
      ⟨some 19, .mov (.t 1), none⟩,
      ⟨some 20, .bin .sub (.t 18) (.t 19), none⟩,
      ⟨some 21, .bin .add (.t 20) (.c (.int .i64 1)), none⟩,
      ⟨some 22, .mov (.c (.int .i64 0)), none⟩])
    (.block 0 (.loop ir_near_shingles_L0)))
    (.seq (.reg [⟨some 36, .mov (.t 6), none⟩,
      ⟨some 37, .call 113 [.t 36], none⟩])
    (.seq (.reg [⟨some 38, .mov (.t 6), none⟩,
      ⟨some 39, .call 119 [.t 38], none⟩,
      ⟨some 4, .mov (.t 39), none⟩])
    .ret))))))))
def rs_near_shingles : List IRes := [.t 4]
theorem ck_near_shingles : chkF Tryz.prog Tryz.f109 ir_near_shingles rs_near_shingles 40 = true := by kernel_rfl
/- paperchase/near.kError -/
def ir_near_kError : IC :=
  (.seq (.reg [⟨some 2, .mov (.c (.int .i64 0)), none⟩])
    (.seq (.reg [⟨some 3, .mov (.t 0), none⟩,
      ⟨some 4, .call 58 [.t 3, .c (.int .i64 1), .c (.int .i64 10)], none⟩,
      ⟨some 5, .not (.t 4), none⟩,
      ⟨some 6, .call 57 [.t 5, .c (.int .i64 1)], none⟩,
      ⟨some 2, .mov (.t 6), none⟩])
    .ret))
def rs_near_kError : List IRes := [.t 2]
theorem ck_near_kError : chkF Tryz.prog Tryz.f108 ir_near_kError rs_near_kError 7 = true := by kernel_rfl
/- paperchase/near.Shingles -/
def ir_near_Shingles : IC :=
  (.seq (.reg [⟨some 4, .mov (.c (.nl 1)), none⟩,
      ⟨some 5, .mov (.c (.int .i64 0)), none⟩])
    (.seq (.seq (.reg [⟨some 7, .mov (.t 0), none⟩,
      ⟨some 8, .call 67 [.t 7], none⟩,
      ⟨some 9, .mov (.t 1), none⟩,
      ⟨some 10, .call 108 [.t 9], none⟩,
      ⟨some 11, .bsl 1 [.t 8, .t 10], none⟩,
      ⟨some 12, .call 55 [.t 11], none⟩,
      ⟨some 6, .mov (.t 12), none⟩])
    (.seq (.reg [⟨some 13, .mov (.t 6), none⟩,
      ⟨some 14, .bin .neq (.t 13) (.c (.int .i64 0)), none⟩])
    (.cond (.t 14) (.seq (.reg [⟨some 15, .mov (.t 6), none⟩,
      ⟨some 4, .mov (.c (.nl 1)), none⟩,
      ⟨some 5, .mov (.t 15), none⟩])
    .ret) .skip)))
    (.seq (.reg [⟨some 16, .mov (.t 0), none⟩,
      ⟨some 17, .mov (.t 1), none⟩,
      ⟨some 18, .call 109 [.t 16, .t 17], none⟩,
      ⟨some 4, .mov (.t 18), none⟩,
      ⟨some 5, .mov (.c (.int .i64 0)), none⟩])
    .ret)))
def rs_near_Shingles : List IRes := [.t 4, .t 5]
theorem ck_near_Shingles : chkF Tryz.prog Tryz.f52 ir_near_Shingles rs_near_Shingles 19 = true := by kernel_rfl
/- paperchase/chaselaw1.nears -/
def ir_chaselaw1_nears : IC :=
  (.seq (.reg [⟨some 0, .mov (.c (.bool false)), none⟩])
    (.seq (.reg [⟨some 4, .call 52 [.c (.str [97, 32, 98, 32, 99]), .c (.int .i64 2)], none⟩,
      ⟨some 3, .mov (.t 4), none⟩,
      ⟨some 5, .ext 0 (.t 3), none⟩,
      ⟨some 6, .ext 1 (.t 3), none⟩,
      ⟨some 1, .mov (.t 5), none⟩,
      ⟨some 2, .mov (.t 6), none⟩])
    (.seq (.reg [⟨some 7, .mov (.t 2), none⟩,
      ⟨some 8, .bin .eql (.t 7) (.c (.int .i64 0)), none⟩,
      ⟨some 9, .mov (.t 8), none⟩,
      ⟨some 10, .mov (.t 1), (some (9, true))⟩,
      ⟨some 11, .bsl 1 [.c (.str [97, 32, 98]), .c (.str [98, 32, 99])], (some (9, true))⟩,
      ⟨some 12, .call 11 [.t 10, .t 11], (some (9, true))⟩,
      ⟨some 13, .pick (.t 9) (.t 12) (.c (.bool false)), none⟩,
      ⟨some 0, .mov (.t 13), none⟩])
    .ret)))
def rs_chaselaw1_nears : List IRes := [.t 0]
theorem ck_chaselaw1_nears : chkF Tryz.prog Tryz.f21 ir_chaselaw1_nears rs_chaselaw1_nears 14 = true := by kernel_rfl

def jS (l : List (List UInt8)) : List UInt8 := Lib.join l [32]
theorem jS_ok {E : Envt} (l : List (List UInt8)) (hl : l.length ≤ 1000000000) (hlen : (jS l).length ≤ 1000000000) : PCall Tryz.prog E 69 [.sl 1 (strE l), .str [32]] (· = .str (jS l)) := Join_ok l [32] hl hlen
theorem lensS_bd (m : Nat) : ∀ l : List (List UInt8), (∀ x ∈ l, x.length ≤ m) → Lib.lens l ≤ l.length * m
  | [], _ => by simp [Lib.lens]
  | x :: r, h => by
    have := lensS_bd m r (fun y hy => h y (by simp [hy]))
    have := h x (by simp)
    simp only [Lib.lens, List.map_cons, List.sum_cons, List.length_cons, Nat.succ_mul] at *
    omega
theorem jS_bd (l : List (List UInt8)) (m : Nat) (h : ∀ x ∈ l, x.length ≤ m) : (jS l).length ≤ l.length * (m + 1) := by
  cases l with
  | nil => simp [jS, Lib.join_nil]
  | cons x r =>
    have := lensS_bd m (x :: r) h
    rw [jS, Lib.join_length, Nat.mul_add]
    simp only [List.length_cons, List.length_nil] at *
    omega
theorem wordsS_bd (t : List UInt8) : ∀ x ∈ wordsF t, x.length ≤ t.length := by
  intro x hx
  simp only [wordsF, List.mem_map, wordF] at hx
  obtain ⟨p, _, rfl⟩ := hx
  rw [lowF_len]
  exact Sp.part_len t p.1 p.2
theorem wordsS_len (t : List UInt8) : (wordsF t).length ≤ t.length + 1 := by
  have := Sp.spans_len t
  simpa [wordsF] using this
/-- The shingles of m words, as they lie in the text. -/
def shL (w : List (List UInt8)) (m : Nat) : List (List UInt8) := (List.range (w.length + 1 - m)).map fun i => jS ((w.take (i + m)).drop i)
def shF (t : List UInt8) (k : Nat) : List (List UInt8) := if wordsF t = [] then [] else Lib.compact ((shL (wordsF t) (min k (wordsF t).length)).mergeSort fun x y => decide (x ≤ y))
set_option maxHeartbeats 4000000 in
theorem shingles_ok {E : Envt} (t : List UInt8) (k : Nat) (ht : t.length ≤ 20000) (hk1 : 1 ≤ k) (hk2 : k ≤ 10) : PCall Tryz.prog E 109 [.str t, int (k : Nat)] (· = .sl 1 (strE (shF t k))) := by
  refine pcallF mixed Tryz.func109 ck_near_shingles ?_
  simp only [a0, l0, OS.ao, List.map_cons, List.map_nil, List.length_cons, List.length_nil, List.cons_append, List.nil_append, Nat.reduceSub, Nat.reduceAdd, List.replicate_succ, List.replicate_zero, ir_near_shingles, rs_near_shingles, ZZ, YY, Ze, ite_true, ite_false, forall_const, reduceCtorEq, Nat.reduceAdd, Nat.reduceMul, Nat.reduceLeDiff, Nat.reduceLT, Nat.reduceEqDiff]
  refine use1 (Words_ok t (by omega)) rfl (.inl rfl) ?_
  rw [show strs (wordsF t) = .sl 1 (strE (wordsF t)) from rfl]
  have hwl := wordsS_len t
  have hwb := wordsS_bd t
  unfold shF
  generalize wordsF t = w at *
  simp only [ZZ, YY, Ze, ite_true, ite_false, forall_const, reduceCtorEq, Nat.reduceAdd, Nat.reduceMul, Nat.reduceLeDiff, Nat.reduceLT, Nat.reduceEqDiff, strE_len]
  refine br ?_ ?_
  · intro h
    have h0 : w = [] := List.eq_nil_of_length_eq_zero (by have := of_decide_eq_true h; omega)
    simp only [ZZ, YY, Ze, ite_true, ite_false, forall_const, reduceCtorEq, Nat.reduceAdd, Nat.reduceMul, Nat.reduceLeDiff, Nat.reduceLT, Nat.reduceEqDiff]
    rw [if_pos h0]
    rfl
  intro h
  have h0 : w ≠ [] := by rintro rfl; simp at h
  have h1 : 0 < w.length := List.length_pos_iff.2 h0
  rw [if_neg h0]
  obtain ⟨m, hm⟩ : ∃ m, m = min k w.length := ⟨_, rfl⟩
  have hm1 : min (k : Int) (w.length : Nat) = (m : Nat) := by omega
  obtain ⟨cnt, hn⟩ : ∃ cnt, cnt = w.length + 1 - m := ⟨_, rfl⟩
  have hn1 : ((w.length : Nat) : Int) - (m : Nat) + 1 = (cnt : Nat) := by omega
  rw [← hm]
  simp only [ZZ, YY, Ze, ite_true, ite_false, forall_const, reduceCtorEq, Nat.reduceAdd, Nat.reduceMul, Nat.reduceLeDiff, Nat.reduceLT, Nat.reduceEqDiff, strE_len, hm1]
  ((repeat' (with_reducible apply And.intro)) <;> try ((first | first | assumption | trivial | exact (fun hq => by rw [hq]; rfl) | exact i64_of (by omega) (by omega) | omega | (simp; done) | (simp; omega) | (intro hsc; have hs0 := hsc; (try have hsd := of_decide_eq_true hsc); (try simp only [Bool.not_eq_true', Bool.or_eq_false_iff, Bool.and_eq_true, Bool.or_eq_true, decide_eq_true_eq, decide_eq_false_iff_not] at hsc); (repeat' (with_reducible apply And.intro)) <;> (first | assumption | trivial | exact (fun hq => by rw [hq]; rfl) | exact i64_of (by omega) (by omega) | omega | (simp; done) | (simp; omega) | (intro hse; simp [hse, hs0]; done) | (intro hse; simp only [hse, hs0, Bool.true_and, Bool.and_true, Bool.not_false, Bool.not_true, Bool.and_self]; done))))))
  simp only [ZZ, YY, Ze, ite_true, ite_false, forall_const, reduceCtorEq, Nat.reduceAdd, Nat.reduceMul, Nat.reduceLeDiff, Nat.reduceLT, Nat.reduceEqDiff, hn1]
  have hsl : (shL w m).length = cnt := by simp [shL, hn]
  have hsg : ∀ i, i < cnt → (shL w m)[i]? = some (jS ((w.take (i + m)).drop i)) := by
    intro i hi
    rw [shL, ← hn, List.getElem?_map, List.getElem?_range hi]
    rfl
  generalize shL w m = q at *
  refine loop_intro (fun n fr L => ∃ (i : Nat), i ≤ cnt ∧ n = cnt - i ∧ fr = [.p (.str t), .p (int (m : Nat)), .any, .any, .any, .p (.sl 1 (strE w)), .row (.l 6), .any, .any, .any, .any, .any, .any, .any, .any, .any, .any, .any, .any, .any, .any, .p (int (cnt : Nat)), .p (int (i : Nat)), .any, .any, .any, .any, .any, .any, .any, .any, .any, .any, .any, .any, .any, .any, .any, .any, .any] ∧ L = [(.l 6, .row (strE (q.take i)) tStr 1 true)]) (cnt) [.p (.str t), .p (int (m : Nat)), .any, .any, .any, .p (.sl 1 (strE w)), .row (.l 6), .any, .any, .any, .any, .any, .any, .any, .any, .any, .any, .any, .any, .any, .any, .p (int (cnt : Nat)), .p (int (0 : Nat)), .any, .any, .any, .any, .any, .any, .any, .any, .any, .any, .any, .any, .any, .any, .any, .any, .any] [(.l 6, .row (strE (q.take 0)) tStr 1 true)] (by simp only [ZZ, YY, Ze, ite_true, ite_false, forall_const, reduceCtorEq, Nat.reduceAdd, Nat.reduceMul, Nat.reduceLeDiff, Nat.reduceLT, Nat.reduceEqDiff, strE_len]; try trivial) (by (simp only [ZZ, YY, Ze, ite_true, ite_false, forall_const, reduceCtorEq, Nat.reduceAdd, Nat.reduceMul, Nat.reduceLeDiff, Nat.reduceLT, Nat.reduceEqDiff]; try trivial)) ⟨0, by omega, by omega, rfl, rfl⟩ ?_
  rintro n fr L ⟨i, hi, rfl, rfl, rfl⟩
  simp only [ir_near_shingles_L0, ZZ, YY, Ze, ite_true, ite_false, forall_const, reduceCtorEq, Nat.reduceAdd, Nat.reduceMul, Nat.reduceLeDiff, Nat.reduceLT, Nat.reduceEqDiff]
  refine br ?_ ?_
  · intro h
    have hlt : i < cnt := by have := of_decide_eq_true h; omega
    have e1 : ((strE w).take (i + m)).drop i = strE ((w.take (i + m)).drop i) := by rw [strE, strE, ← List.map_take, ← List.map_drop]
    have hq : q.take (i + 1) = q.take i ++ [jS ((w.take (i + m)).drop i)] := by rw [List.take_add_one, hsg i hlt]; rfl
    have hql : (q.take i).length = i := by rw [List.length_take]; omega
    have e3 : ∀ (l : List (List UInt8)) (s : List UInt8), strE l ++ [[PV.str s]] = strE (l ++ [s]) := by intro l s; simp [strE]
    have hpl : ((w.take (i + m)).drop i).length ≤ 10 := by simp; omega
    have hpb := jS_bd ((w.take (i + m)).drop i) t.length (fun x hx => hwb x (List.mem_of_mem_take (List.mem_of_mem_drop hx)))
    have hpm : ((w.take (i + m)).drop i).length * (t.length + 1) ≤ 10 * 20001 := Nat.mul_le_mul hpl (by omega)
    simp only [ZZ, YY, Ze, ite_true, ite_false, forall_const, reduceCtorEq, Nat.reduceAdd, Nat.reduceMul, Nat.reduceLeDiff, Nat.reduceLT, Nat.reduceEqDiff, strE_len]
    ((repeat' (with_reducible apply And.intro)) <;> try ((first | first | assumption | trivial | exact (fun hq => by rw [hq]; rfl) | exact i64_of (by omega) (by omega) | omega | (simp; done) | (simp; omega) | (intro hsc; have hs0 := hsc; (try have hsd := of_decide_eq_true hsc); (try simp only [Bool.not_eq_true', Bool.or_eq_false_iff, Bool.and_eq_true, Bool.or_eq_true, decide_eq_true_eq, decide_eq_false_iff_not] at hsc); (repeat' (with_reducible apply And.intro)) <;> (first | assumption | trivial | exact (fun hq => by rw [hq]; rfl) | exact i64_of (by omega) (by omega) | omega | (simp; done) | (simp; omega) | (intro hse; simp [hse, hs0]; done) | (intro hse; simp only [hse, hs0, Bool.true_and, Bool.and_true, Bool.not_false, Bool.not_true, Bool.and_self]; done))))))
    have e0 : (((i : Nat) : Int) + (m : Nat)).toNat = i + m := by omega
    rw [e0, e1]
    refine use1 (jS_ok _ (by omega) (by omega)) rfl (.inl rfl) ?_
    simp only [ZZ, YY, Ze, ite_true, ite_false, forall_const, reduceCtorEq, Nat.reduceAdd, Nat.reduceMul, Nat.reduceLeDiff, Nat.reduceLT, Nat.reduceEqDiff, strE_len, e3, hql, ← hq]
    ((repeat' (with_reducible apply And.intro)) <;> try ((first | first | assumption | trivial | exact (fun hq => by rw [hq]; rfl) | exact i64_of (by omega) (by omega) | omega | (simp; done) | (simp; omega) | (intro hsc; have hs0 := hsc; (try have hsd := of_decide_eq_true hsc); (try simp only [Bool.not_eq_true', Bool.or_eq_false_iff, Bool.and_eq_true, Bool.or_eq_true, decide_eq_true_eq, decide_eq_false_iff_not] at hsc); (repeat' (with_reducible apply And.intro)) <;> (first | assumption | trivial | exact (fun hq => by rw [hq]; rfl) | exact i64_of (by omega) (by omega) | omega | (simp; done) | (simp; omega) | (intro hse; simp [hse, hs0]; done) | (intro hse; simp only [hse, hs0, Bool.true_and, Bool.and_true, Bool.not_false, Bool.not_true, Bool.and_self]; done))))))
    refine end_round (cnt - (i + 1)) [.p (.str t), .p (int (m : Nat)), .any, .any, .any, .p (.sl 1 (strE w)), .row (.l 6), .any, .any, .any, .any, .any, .any, .any, .any, .any, .any, .any, .any, .any, .any, .p (int (cnt : Nat)), .p (int ((i + 1) : Nat)), .any, .any, .any, .any, .any, .any, .any, .any, .any, .any, .any, .any, .any, .any, .any, .any, .any] [(.l 6, .row (strE (q.take (i + 1))) tStr 1 true)] (by omega) (by (simp only [ZZ, YY, Ze, ite_true, ite_false, forall_const, reduceCtorEq, Nat.reduceAdd, Nat.reduceMul, Nat.reduceLeDiff, Nat.reduceLT, Nat.reduceEqDiff]; try trivial)) (by (simp only [ZZ, YY, Ze, ite_true, ite_false, forall_const, reduceCtorEq, Nat.reduceAdd, Nat.reduceMul, Nat.reduceLeDiff, Nat.reduceLT, Nat.reduceEqDiff]; try trivial)) ⟨i + 1, by omega, rfl, rfl, rfl⟩
  · intro h
    have hge : i = cnt := by have := of_decide_eq_false h; omega
    subst hge
    have hqt : q.take i = q := by rw [← hsl, List.take_length]
    simp only [ZZ, YY, Ze, ite_true, ite_false, forall_const, reduceCtorEq, Nat.reduceAdd, Nat.reduceMul, Nat.reduceLeDiff, Nat.reduceLT, Nat.reduceEqDiff]
    rw [hqt]
    refine useR (sortS_row tStr q (by omega)) rfl rfl rfl (by simp only [ZZ, YY, Ze, ite_true, ite_false, forall_const, reduceCtorEq, Nat.reduceAdd, Nat.reduceMul, Nat.reduceLeDiff, Nat.reduceLT, Nat.reduceEqDiff]) ?_
    rintro x es ⟨rfl, rfl⟩
    simp only [ZZ, YY, Ze, ite_true, ite_false, forall_const, reduceCtorEq, Nat.reduceAdd, Nat.reduceMul, Nat.reduceLeDiff, Nat.reduceLT, Nat.reduceEqDiff]
    refine useComp 1000 (q.mergeSort fun x y => decide (x ≤ y)) (by rw [List.length_mergeSort]; omega) rfl ?_
    simp only [ZZ, YY, Ze, ite_true, ite_false, forall_const, reduceCtorEq, Nat.reduceAdd, Nat.reduceMul, Nat.reduceLeDiff, Nat.reduceLT, Nat.reduceEqDiff]
theorem kError_ok {E : Envt} (k : Int) : PCall Tryz.prog E 108 [int k] (· = int (whenE (!inE k 1 10) 1)) := by
  refine pcallF mixed Tryz.func108 ck_near_kError ?_
  simp only [a0, l0, OS.ao, List.map_cons, List.map_nil, List.length_cons, List.length_nil, List.cons_append, List.nil_append, Nat.reduceSub, Nat.reduceAdd, List.replicate_succ, List.replicate_zero, ir_near_kError, rs_near_kError, ZZ, YY, Ze, ite_true, ite_false, forall_const, reduceCtorEq, Nat.reduceAdd, Nat.reduceMul, Nat.reduceLeDiff, Nat.reduceLT, Nat.reduceEqDiff]
  refine use1 (In_ok k 1 10) rfl (.inl rfl) ?_
  simp only [ZZ, YY, Ze, ite_true, ite_false, forall_const, reduceCtorEq, Nat.reduceAdd, Nat.reduceMul, Nat.reduceLeDiff, Nat.reduceLT, Nat.reduceEqDiff]
  refine use1 (When_ok _ 1) rfl (.inl rfl) ?_
  simp only [ZZ, YY, Ze, ite_true, ite_false, forall_const, reduceCtorEq, Nat.reduceAdd, Nat.reduceMul, Nat.reduceLeDiff, Nat.reduceLT, Nat.reduceEqDiff]
def shE (t : List UInt8) (k : Int) : Int := firstE [if 20000 < t.length then 2 else 0, whenE (!inE k 1 10) 1]
theorem shE_zero {t : List UInt8} {k : Int} (h : shE t k = 0) : t.length ≤ 20000 ∧ 1 ≤ k ∧ k ≤ 10 := by
  unfold shE at h
  by_cases h1 : 20000 < t.length
  · rw [if_pos h1] at h
    exact absurd h (by simp [firstE])
  · rw [if_neg h1] at h
    refine ⟨by omega, ?_⟩
    have h2 : inE k 1 10 = true := by
      cases h2 : inE k 1 10
      · rw [h2] at h
        exact absurd h (by decide)
      · rfl
    simpa only [inE, Bool.and_eq_true, decide_eq_true_eq] using h2
theorem Shingles_ok {E : Envt} (t : List UInt8) (k : Int) (ht : t.length ≤ 1000000000) : PCall Tryz.prog E 52 [.str t, int k] (· = .tup [.sl 1 (strE (if shE t k = 0 then shF t k.toNat else [])), int (shE t k)]) := by
  refine pcallF mixed Tryz.func52 ck_near_Shingles ?_
  simp only [a0, l0, OS.ao, List.map_cons, List.map_nil, List.length_cons, List.length_nil, List.cons_append, List.nil_append, Nat.reduceSub, Nat.reduceAdd, List.replicate_succ, List.replicate_zero, ir_near_Shingles, rs_near_Shingles, ZZ, YY, Ze, ite_true, ite_false, forall_const, reduceCtorEq, Nat.reduceAdd, Nat.reduceMul, Nat.reduceLeDiff, Nat.reduceLT, Nat.reduceEqDiff]
  refine use1 (nlarge_ok t ht) rfl (.inl rfl) ?_
  simp only [ZZ, YY, Ze, ite_true, ite_false, forall_const, reduceCtorEq, Nat.reduceAdd, Nat.reduceMul, Nat.reduceLeDiff, Nat.reduceLT, Nat.reduceEqDiff]
  refine use1 (kError_ok k) rfl (.inl rfl) ?_
  simp only [ZZ, YY, Ze, ite_true, ite_false, forall_const, reduceCtorEq, Nat.reduceAdd, Nat.reduceMul, Nat.reduceLeDiff, Nat.reduceLT, Nat.reduceEqDiff]
  refine use1 (First_ok [if 20000 < t.length then 2 else 0, whenE (!inE k 1 10) 1] (by simp)) rfl (.inl rfl) ?_
  rw [show firstE [if 20000 < t.length then 2 else 0, whenE (!inE k 1 10) 1] = shE t k from rfl]
  by_cases h0 : shE t k = 0
  · have hd : decide (shE t k = 0) = true := decide_eq_true h0
    obtain ⟨h1, h2, h3⟩ := shE_zero h0
    obtain ⟨m, rfl⟩ : ∃ m : Nat, k = m := ⟨k.toNat, by omega⟩
    simp only [ZZ, YY, Ze, ite_true, ite_false, forall_const, reduceCtorEq, Nat.reduceAdd, Nat.reduceMul, Nat.reduceLeDiff, Nat.reduceLT, Nat.reduceEqDiff, hd]
    refine use1 (shingles_ok t m h1 (by omega) (by omega)) rfl (.inl rfl) ?_
    simp only [ZZ, YY, Ze, ite_true, ite_false, forall_const, reduceCtorEq, Nat.reduceAdd, Nat.reduceMul, Nat.reduceLeDiff, Nat.reduceLT, Nat.reduceEqDiff]
    rw [if_pos h0, h0]
    try rfl
  · have hd : decide (shE t k = 0) = false := decide_eq_false h0
    simp only [ZZ, YY, Ze, ite_true, ite_false, forall_const, reduceCtorEq, Nat.reduceAdd, Nat.reduceMul, Nat.reduceLeDiff, Nat.reduceLT, Nat.reduceEqDiff, hd]
    rw [if_neg h0]
    rfl
theorem nears_sh : shF [97, 32, 98, 32, 99] 2 = [[97, 32, 98], [98, 32, 99]] := by
  have h1 : wordsF [97, 32, 98, 32, 99] = [[97], [98], [99]] := by decide +kernel
  have h2 : shL [[97], [98], [99]] 2 = [[97, 32, 98], [98, 32, 99]] := by decide +kernel
  rw [shF, h1, if_neg (by simp), show min 2 ([[97], [98], [99]] : List (List UInt8)).length = 2 from rfl, h2, List.mergeSort_of_pairwise (by decide +kernel)]
  decide +kernel
theorem nears_ok {E : Envt} : PCall Tryz.prog E 21 [] (· = .bool true) := by
  refine pcallF mixed Tryz.func21 ck_chaselaw1_nears ?_
  simp only [a0, l0, OS.ao, List.map_cons, List.map_nil, List.length_cons, List.length_nil, List.cons_append, List.nil_append, Nat.reduceSub, Nat.reduceAdd, List.replicate_succ, List.replicate_zero, ir_chaselaw1_nears, rs_chaselaw1_nears, ZZ, YY, Ze, ite_true, ite_false, forall_const, reduceCtorEq, Nat.reduceAdd, Nat.reduceMul, Nat.reduceLeDiff, Nat.reduceLT, Nat.reduceEqDiff]
  refine use1 (Shingles_ok [97, 32, 98, 32, 99] 2 (by simp)) rfl (.inl rfl) ?_
  rw [show shE [97, 32, 98, 32, 99] 2 = 0 from by decide +kernel, if_pos rfl, show (2 : Int).toNat = 2 from rfl, nears_sh]
  simp only [ZZ, YY, Ze, ite_true, ite_false, forall_const, reduceCtorEq, Nat.reduceAdd, Nat.reduceMul, Nat.reduceLeDiff, Nat.reduceLT, Nat.reduceEqDiff]
  refine useG (fun _ => EqualT_ok [[97, 32, 98], [98, 32, 99]] [[97, 32, 98], [98, 32, 99]] (by simp)) rfl (.inl rfl) ?_
  simp only [ZZ, YY, Ze, ite_true, ite_false, forall_const, reduceCtorEq, Nat.reduceAdd, Nat.reduceMul, Nat.reduceLeDiff, Nat.reduceLT, Nat.reduceEqDiff]
  simp
end Go.Proofs.YthfpehmbellmcaaGreatDoor

/- Changes put into a text: the program's side. -/
namespace Go.Proofs.YthfpehmbellmcaaGreatDoor
open Go.RowKit
set_option linter.unusedVariables false
set_option linter.unusedSimpArgs false
set_option linter.defProp false

/- paperchase/near.patched -/
def ir_near_patched_L0 : IC :=
  (.seq (.reg [⟨some 24, .bin .lss (.t 23) (.t 22), none⟩])
    (.seq (.cond (.t 24) .skip (.exit 0))
    (.seq (.block 1 (.seq (.reg [⟨some 25, .mov (.t 23), none⟩,
      ⟨some 26, .ixa 3 (.t 21) (.t 23), none⟩,
      ⟨some 27, .ld 3 true (.t 26), none⟩,
      ⟨some 11, .alc 76 [.int .i64 0, .nl 1, .nl 1], none⟩,
      ⟨some 10, .mov (.t 25), none⟩,
      ⟨none, .st 3 (.t 11) (.t 27), none⟩])
    (.seq (.reg [⟨some 12, .mov (.f 101), none⟩])
    (.seq (.block 2 (.seq (.reg [⟨some 29, .fla 0 (.t 11), none⟩,
      ⟨some 30, .ld 1 false (.t 29), none⟩,
      ⟨some 31, .mov (.t 6), none⟩,
      ⟨some 32, .len (.t 31), none⟩,
      ⟨some 33, .call 58 [.t 30, .c (.int .i64 0), .t 32], none⟩,
      ⟨some 34, .not (.t 33), none⟩,
      ⟨some 28, .mov (.t 34), none⟩])
    (.cond (.t 28) (.seq (.reg [⟨some 4, .mov (.c (.nl 1)), none⟩,
      ⟨some 5, .mov (.c (.int .i64 1)), none⟩])
    .ret) (.seq (.reg [⟨some 36, .mov (.t 10), none⟩,
      ⟨some 37, .bin .gtr (.t 36) (.c (.int .i64 0)), none⟩,
      ⟨some 38, .mov (.t 37), none⟩,
      ⟨some 39, .fla 0 (.t 11), (some (38, true))⟩,
      ⟨some 40, .ld 1 false (.t 39), (some (38, true))⟩,
      ⟨some 41, .mov (.t 9), (some (38, true))⟩,
      ⟨some 42, .bin .leq (.t 40) (.t 41), (some (38, true))⟩,
      ⟨some 43, .pick (.t 38) (.t 42) (.c (.bool false)), none⟩,
      ⟨some 35, .mov (.t 43), none⟩])
    (.cond (.t 35) (.seq (.reg [⟨some 4, .mov (.c (.nl 1)), none⟩,
      ⟨some 5, .mov (.c (.int .i64 7)), none⟩])
    .ret) (.seq (.reg [⟨some 45, .fla 1 (.t 11), none⟩,
      ⟨some 46, .ld 1 false (.t 45), none⟩,
      ⟨some 47, .len (.t 46), none⟩,
      ⟨some 48, .bin .eql (.t 47) (.c (.int .i64 0)), none⟩,
      ⟨some 49, .mov (.t 48), none⟩,
      ⟨some 50, .fla 2 (.t 11), (some (49, true))⟩,
      ⟨some 51, .ld 1 false (.t 50), (some (49, true))⟩,
      ⟨some 52, .len (.t 51), (some (49, true))⟩,
      ⟨some 53, .bin .eql (.t 52) (.c (.int .i64 0)), (some (49, true))⟩,
      ⟨some 54, .pick (.t 49) (.t 53) (.c (.bool false)), none⟩,
      ⟨some 55, .mov (.t 54), none⟩,
      ⟨some 56, .fla 1 (.t 11), (some (55, false))⟩,
      ⟨some 57, .ld 1 false (.t 56), (some (55, false))⟩,
      ⟨some 58, .mov (.t 12), (some (55, false))⟩,
      ⟨some 59, .call 103 [.t 57, .t 58], (some (55, false))⟩,
      ⟨some 60, .pick (.t 55) (.c (.bool true)) (.t 59), none⟩,
      ⟨some 61, .mov (.t 60), none⟩,
      ⟨some 62, .fla 2 (.t 11), (some (61, false))⟩,
      ⟨some 63, .ld 1 false (.t 62), (some (61, false))⟩,
      ⟨some 64, .mov (.t 12), (some (61, false))⟩,
      ⟨some 65, .call 103 [.t 63, .t 64], (some (61, false))⟩,
      ⟨some 66, .pick (.t 61) (.c (.bool true)) (.t 65), none⟩,
      ⟨some 44, .mov (.t 66), none⟩])
    (.cond (.t 44) (.seq (.reg [⟨some 4, .mov (.c (.nl 1)), none⟩,
      ⟨some 5, .mov (.c (.int .i64 3)), none⟩])
    .ret) (.seq (.drg [⟨some 68, .fla 1 (.t 11), none⟩,
      ⟨some 69, .ld 1 false (.t 68), none⟩,
      ⟨some 70, .len (.t 69), none⟩,
      ⟨some 71, .mov (.t 6), none⟩,
      ⟨some 72, .len (.t 71), none⟩,
      ⟨some 73, .fla 0 (.t 11), none⟩,
      ⟨some 74, .ld 1 false (.t 73), none⟩,
      ⟨some 75, .bin .sub (.t 72) (.t 74), none⟩,
      ⟨some 76, .bin .gtr (.t 70) (.t 75), none⟩,
      ⟨some 77, .mov (.t 76), none⟩,
      ⟨some 78, .mov (.t 6), (some (77, false))⟩,
      ⟨some 79, .fla 0 (.t 11), (some (77, false))⟩,
      ⟨some 80, .ld 1 false (.t 79), (some (77, false))⟩,
      ⟨some 81, .fla 0 (.t 11), (some (77, false))⟩,
      ⟨some 82, .ld 1 false (.t 81), (some (77, false))⟩,
      ⟨some 83, .fla 1 (.t 11), (some (77, false))⟩,
      ⟨some 84, .ld 1 false (.t 83), (some (77, false))⟩,
      ⟨some 85, .len (.t 84), (some (77, false))⟩,
      ⟨some 86, .bin .add (.t 82) (.t 85), (some (77, false))⟩,
      ⟨some 87, .vsl 1 (.t 78) (some (.t 80)) (some (.t 86)), (some (77, false))⟩,
      ⟨some 88, .fla 1 (.t 11), (some (77, false))⟩,
      ⟨some 89, .ld 1 false (.t 88), (some (77, false))⟩,
      ⟨some 90, .pcall 0 11 [.t 87, .t 89], (some (77, false))⟩,
      ⟨some 91, .not (.t 90), (some (77, false))⟩,
      ⟨some 92, .pick (.t 77) (.c (.bool true)) (.t 91), none⟩,
      ⟨some 67, .mov (.t 92), none⟩])
    (.cond (.t 67) (.seq (.reg [⟨some 4, .mov (.c (.nl 1)), none⟩,
      ⟨some 5, .mov (.c (.int .i64 13)), none⟩])
    .ret) .skip)))))))))
    (.seq (.reg [⟨some 93, .mov (.t 8), none⟩,
      ⟨some 94, .mov (.t 6), none⟩,
      ⟨some 95, .mov (.t 9), none⟩,
      ⟨some 96, .fla 0 (.t 11), none⟩,
      ⟨some 97, .ld 1 false (.t 96), none⟩,
      ⟨some 98, .vsl 1 (.t 94) (some (.t 95)) (some (.t 97)), none⟩,
      ⟨some 99, .app 9 1 16 (.t 93) (.t 98), none⟩,
      ⟨some 8, .mov (.t 99), none⟩])
    (.seq (.reg [⟨some 100, .mov (.t 8), none⟩,
      ⟨some 101, .fla 2 (.t 11), none⟩,
      ⟨some 102, .ld 1 false (.t 101), none⟩,
      ⟨some 103, .app 9 1 16 (.t 100) (.t 102), none⟩,
      ⟨some 8, .mov (.t 103), none⟩])
    (.reg [⟨some 104, .fla 0 (.t 11), none⟩,
      ⟨some 105, .ld 1 false (.t 104), none⟩,
      ⟨some 106, .fla 1 (.t 11), none⟩,
      ⟨some 107, .ld 1 false (.t 106), none⟩,
      ⟨some 108, .len (.t 107), none⟩,
      ⟨some 109, .bin .add (.t 105) (.t 108), none⟩,
      ⟨some 9, .mov (.t 109), none⟩])))))))
    (.reg [⟨some 110, .bin .add (.t 23) (.c (.int .i64 1)), none⟩,
      ⟨some 23, .mov (.t 110), none⟩]))))
def ir_near_patched : IC :=
  (.seq (.reg [⟨some 4, .mov (.c (.nl 1)), none⟩,
      ⟨some 5, .mov (.c (.int .i64 0)), none⟩])
    (.seq (.reg [⟨some 14, .mov (.t 0), none⟩,
      ⟨some 15, .call 100 [.t 14], none⟩,
      ⟨some 13, .mov (.t 15), none⟩,
      ⟨some 16, .ext 0 (.t 13), none⟩,
      ⟨some 17, .ext 1 (.t 13), none⟩,
      ⟨some 6, .mov (.t 16), none⟩,
      ⟨some 7, .mov (.t 17), none⟩])
    (.seq (.seq (.reg [⟨some 18, .mov (.t 7), none⟩,
      ⟨some 19, .bin .neq (.t 18) (.c (.int .i64 0)), none⟩])
    (.cond (.t 19) (.seq (.reg [⟨some 20, .mov (.t 7), none⟩,
      ⟨some 4, .mov (.c (.nl 1)), none⟩,
      ⟨some 5, .mov (.t 20), none⟩])
    .ret) .skip))
    (.seq (.reg [⟨some 8, .nilr 9 1, none⟩])
    (.seq (.reg [⟨some 9, .mov (.c (.int .i64 0)), none⟩])
    (.seq (.seq (.reg [⟨some 21, .mov (.t 1), none⟩,
      ⟨some 22, .len (.t 21), none⟩,
      ⟨some 23, .mov (.c (.int .i64 0)), none⟩])
    (.block 0 (.loop ir_near_patched_L0)))
    (.seq (.reg [⟨some 111, .mov (.t 8), none⟩,
      ⟨some 112, .mov (.t 6), none⟩,
      ⟨some 113, .mov (.t 9), none⟩,
      ⟨some 114, .vsl 1 (.t 112) (some (.t 113)) none, none⟩,
      ⟨some 115, .app 9 1 16 (.t 111) (.t 114), none⟩,
      ⟨some 8, .mov (.t 115), none⟩])
    (.seq (.reg [⟨some 116, .mov (.t 8), none⟩,
      ⟨some 117, .mov (.t 8), none⟩,
      ⟨some 118, .call 50 [.t 117], none⟩,
      ⟨some 119, .call 67 [.t 118], none⟩,
      ⟨some 4, .mov (.t 116), none⟩,
      ⟨some 5, .mov (.t 119), none⟩])
    .ret))))))))
def rs_near_patched : List IRes := [.t 4, .t 5]
theorem ck_near_patched : chkF Tryz.prog Tryz.f49 ir_near_patched rs_near_patched 120 = true := by kernel_rfl
/- paperchase/near.Patch -/
def ir_near_Patch : IC :=
  (.seq (.reg [⟨some 4, .mov (.c (.str [])), none⟩,
      ⟨some 5, .mov (.c (.int .i64 0)), none⟩])
    (.seq (.reg [⟨some 9, .mov (.t 0), none⟩,
      ⟨some 10, .mov (.t 1), none⟩,
      ⟨some 11, .call 49 [.t 9, .t 10], none⟩,
      ⟨some 8, .mov (.t 11), none⟩,
      ⟨some 12, .ext 0 (.t 8), none⟩,
      ⟨some 13, .ext 1 (.t 8), none⟩,
      ⟨some 6, .mov (.t 12), none⟩,
      ⟨some 7, .mov (.t 13), none⟩])
    (.seq (.seq (.reg [⟨some 14, .mov (.t 7), none⟩,
      ⟨some 15, .bin .neq (.t 14) (.c (.int .i64 0)), none⟩])
    (.cond (.t 15) (.seq (.reg [⟨some 16, .mov (.t 7), none⟩,
      ⟨some 4, .mov (.c (.str [])), none⟩,
      ⟨some 5, .mov (.t 16), none⟩])
    .ret) .skip))
    (.seq (.reg [⟨some 17, .mov (.t 6), none⟩,
      ⟨some 18, .call 50 [.t 17], none⟩,
      ⟨some 4, .mov (.t 18), none⟩,
      ⟨some 5, .mov (.c (.int .i64 0)), none⟩])
    .ret))))
def rs_near_Patch : List IRes := [.t 4, .t 5]
theorem ck_near_Patch : chkF Tryz.prog Tryz.f17 ir_near_Patch rs_near_Patch 19 = true := by kernel_rfl
/- paperchase/near.Turn -/
def ir_near_Turn_L0 : IC :=
  (.seq (.reg [⟨some 24, .bin .lss (.t 23) (.t 22), none⟩])
    (.seq (.cond (.t 24) .skip (.exit 0))
    (.seq (.block 1 (.seq (.reg [⟨some 25, .ixa 3 (.t 21) (.t 23), none⟩,
      ⟨some 26, .ld 3 true (.t 25), none⟩,
      ⟨some 11, .alc 76 [.int .i64 0, .nl 1, .nl 1], none⟩,
      ⟨none, .st 3 (.t 11) (.t 26), none⟩])
    (.seq (.drg [⟨none, .fz (.t 34), none⟩,
      ⟨none, .fz (.t 37), none⟩,
      ⟨some 27, .mov (.t 8), none⟩,
      ⟨some 28, .fla 0 (.t 11), none⟩,
      ⟨some 29, .ld 1 false (.t 28), none⟩,
      ⟨some 30, .mov (.t 9), none⟩,
      ⟨some 31, .bin .add (.t 29) (.t 30), none⟩,
      ⟨some 32, .fla 2 (.t 11), none⟩,
      ⟨some 33, .ld 1 false (.t 32), none⟩,
      ⟨some 34, .pcall 0 37 [.t 33], none⟩,
      ⟨some 35, .fla 1 (.t 11), none⟩,
      ⟨some 36, .ld 1 false (.t 35), none⟩,
      ⟨some 37, .pcall 1 37 [.t 36], none⟩,
      ⟨some 38, .bld [.int .i64 0, .nl 1, .nl 1] [(0, 1, .t 31), (1, 1, .t 34), (2, 1, .t 37)], none⟩,
      ⟨some 39, .bsl 3 [.t 38], none⟩,
      ⟨some 40, .app 76 3 56 (.t 27) (.t 39), none⟩,
      ⟨some 8, .mov (.t 40), none⟩])
    (.reg [⟨some 41, .mov (.t 9), none⟩,
      ⟨some 42, .fla 2 (.t 11), none⟩,
      ⟨some 43, .ld 1 false (.t 42), none⟩,
      ⟨some 44, .len (.t 43), none⟩,
      ⟨some 45, .fla 1 (.t 11), none⟩,
      ⟨some 46, .ld 1 false (.t 45), none⟩,
      ⟨some 47, .len (.t 46), none⟩,
      ⟨some 48, .bin .sub (.t 44) (.t 47), none⟩,
      ⟨some 49, .bin .add (.t 41) (.t 48), none⟩,
      ⟨some 9, .mov (.t 49), none⟩]))))
    (.reg [⟨some 50, .bin .add (.t 23) (.c (.int .i64 1)), none⟩,
      ⟨some 23, .mov (.t 50), none⟩]))))
def ir_near_Turn : IC :=
  (.seq (.reg [⟨some 4, .mov (.c (.nl 3)), none⟩,
      ⟨some 5, .mov (.c (.int .i64 0)), none⟩])
    (.seq (.seq (.reg [⟨some 13, .mov (.t 0), none⟩,
      ⟨some 14, .mov (.t 1), none⟩,
      ⟨some 15, .call 49 [.t 13, .t 14], none⟩,
      ⟨some 12, .mov (.t 15), none⟩,
      ⟨some 16, .ext 0 (.t 12), none⟩,
      ⟨some 17, .ext 1 (.t 12), none⟩,
      ⟨some 6, .mov (.t 16), none⟩,
      ⟨some 7, .mov (.t 17), none⟩])
    (.seq (.reg [⟨some 18, .mov (.t 7), none⟩,
      ⟨some 19, .bin .neq (.t 18) (.c (.int .i64 0)), none⟩])
    (.cond (.t 19) (.seq (.reg [⟨some 20, .mov (.t 7), none⟩,
      ⟨some 4, .mov (.c (.nl 3)), none⟩,
      ⟨some 5, .mov (.t 20), none⟩])
    .ret) .skip)))
    (.seq (.reg [⟨some 8, .nilr 76 3, none⟩])
    (.seq (.reg [⟨some 9, .mov (.c (.int .i64 0)), none⟩])
    (.seq (.seq (.reg [⟨some 21, .mov (.t 1), none⟩,
      ⟨some 22, .len (.t 21), none⟩,
      ⟨some 23, .mov (.c (.int .i64 0)), none⟩])
    (.block 0 (.loop ir_near_Turn_L0)))
    (.seq (.reg [⟨some 51, .mov (.t 8), none⟩,
      ⟨some 4, .mov (.t 51), none⟩,
      ⟨some 5, .mov (.c (.int .i64 0)), none⟩])
    .ret))))))
def rs_near_Turn : List IRes := [.t 4, .t 5]
theorem ck_near_Turn : chkF Tryz.prog Tryz.f18 ir_near_Turn rs_near_Turn 52 = true := by kernel_rfl

set_option maxHeartbeats 8000000 in
set_option maxRecDepth 100000 in
theorem patched_ok (s : List UInt8) (l : List ChI) (hs : s.length ≤ 1000000) (hl : ChB l) : PCall Tryz.prog E0 49 [.str s, .sl 3 (ciE l)] (fun r => ∃ X, r = .tup [.sl 1 (strE X), int (pE s l)] ∧ (pE s l = 0 → X = paT (tokF s) l 0 [] ∧ wgt X ≤ 300000000)) := by
  refine pcallF mixed Tryz.func49 ck_near_patched ?_
  simp only [a0, l0, OS.ao, List.map_cons, List.map_nil, List.length_cons, List.length_nil, List.cons_append, List.nil_append, Nat.reduceSub, Nat.reduceAdd, List.replicate_succ, List.replicate_zero, ir_near_patched, rs_near_patched, ZZ, YY, Ze, ite_true, ite_false, forall_const, reduceCtorEq, Nat.reduceAdd, Nat.reduceMul, Nat.reduceLeDiff, Nat.reduceLT, Nat.reduceEqDiff]
  refine use (tokens_ok s (by omega)) rfl (.inl rfl) ?_
  rintro r ⟨X, rfl, hX⟩
  simp only [ZZ, YY, Ze, ite_true, ite_false, forall_const, reduceCtorEq, Nat.reduceAdd, Nat.reduceMul, Nat.reduceLeDiff, Nat.reduceLT, Nat.reduceEqDiff]
  by_cases h0 : eTok s = 0
  rotate_left
  · have hd : decide (eTok s = 0) = false := decide_eq_false h0
    simp only [ZZ, YY, Ze, ite_true, ite_false, forall_const, reduceCtorEq, Nat.reduceAdd, Nat.reduceMul, Nat.reduceLeDiff, Nat.reduceLT, Nat.reduceEqDiff, hd]
    have hp : pE s l = eTok s := by rw [pE, if_neg h0]
    exact ⟨[], by rw [hp]; rfl, fun h => by rw [hp] at h; exact absurd h h0⟩
  have hd : decide (eTok s = 0) = true := decide_eq_true h0
  obtain rfl := hX h0
  obtain ⟨s1, s2⟩ := eTok_zero h0
  have hw0 := tokF_wgt s
  have hp : pE s l = if paE (tokF s) l true 0 = 0 then if 20000 < (jnF (paT (tokF s) l 0 [])).length then 2 else 0 else paE (tokF s) l true 0 := by rw [pE, if_pos h0]
  rw [hp]
  clear hp hX
  obtain ⟨l1, l2⟩ := hl
  have hA := addW_le ⟨l1, l2⟩
  generalize tokF s = x at *
  simp only [ZZ, YY, Ze, ite_true, ite_false, forall_const, reduceCtorEq, Nat.reduceAdd, Nat.reduceMul, Nat.reduceLeDiff, Nat.reduceLT, Nat.reduceEqDiff, hd, ciE_len]
  refine loop_intro (fun n fr L => ∃ (k : Nat) (p : Nat) (out : Toks), k ≤ l.length ∧ n = l.length - k ∧ (paE x l true 0 = paE x (l.drop k) (decide (k = 0)) p) ∧ (paT x l 0 [] = paT x (l.drop k) p out) ∧ (p ≤ x.length) ∧ (k = 0 → p = 0) ∧ (wgt out + wgt (x.drop p) + addW (l.drop k) ≤ 300000000) ∧ fr = [.p (.str s), .p (.sl 3 (ciE l)), .any, .any, .any, .any, .p (.sl 1 (strE x)), .any, .row (.l 8), .p (int (p : Nat)), .any, .any, .any, .any, .any, .any, .any, .any, .any, .any, .any, .p (.sl 3 (ciE l)), .p (int (l.length : Nat)), .p (int (k : Nat)), .any, .any, .any, .any, .any, .any, .any, .any, .any, .any, .any, .any, .any, .any, .any, .any, .any, .any, .any, .any, .any, .any, .any, .any, .any, .any, .any, .any, .any, .any, .any, .any, .any, .any, .any, .any, .any, .any, .any, .any, .any, .any, .any, .any, .any, .any, .any, .any, .any, .any, .any, .any, .any, .any, .any, .any, .any, .any, .any, .any, .any, .any, .any, .any, .any, .any, .any, .any, .any, .any, .any, .any, .any, .any, .any, .any, .any, .any, .any, .any, .any, .any, .any, .any, .any, .any, .any, .any, .any, .any, .any, .any, .any, .any, .any, .any] ∧ L = [(.l 8, .row (strE out) tStr 1 true)]) (l.length) [.p (.str s), .p (.sl 3 (ciE l)), .any, .any, .any, .any, .p (.sl 1 (strE x)), .any, .row (.l 8), .p (int (0 : Nat)), .any, .any, .any, .any, .any, .any, .any, .any, .any, .any, .any, .p (.sl 3 (ciE l)), .p (int (l.length : Nat)), .p (int (0 : Nat)), .any, .any, .any, .any, .any, .any, .any, .any, .any, .any, .any, .any, .any, .any, .any, .any, .any, .any, .any, .any, .any, .any, .any, .any, .any, .any, .any, .any, .any, .any, .any, .any, .any, .any, .any, .any, .any, .any, .any, .any, .any, .any, .any, .any, .any, .any, .any, .any, .any, .any, .any, .any, .any, .any, .any, .any, .any, .any, .any, .any, .any, .any, .any, .any, .any, .any, .any, .any, .any, .any, .any, .any, .any, .any, .any, .any, .any, .any, .any, .any, .any, .any, .any, .any, .any, .any, .any, .any, .any, .any, .any, .any, .any, .any, .any, .any] [(.l 8, .row (strE []) tStr 1 true)] (by simp only [ZZ, YY, Ze, ite_true, ite_false, forall_const, reduceCtorEq, Nat.reduceAdd, Nat.reduceMul, Nat.reduceLeDiff, Nat.reduceLT, Nat.reduceEqDiff, ciE_len]; try trivial) (by (simp only [ZZ, YY, Ze, ite_true, ite_false, forall_const, reduceCtorEq, Nat.reduceAdd, Nat.reduceMul, Nat.reduceLeDiff, Nat.reduceLT, Nat.reduceEqDiff]; try trivial)) ⟨0, 0, [], by omega, by omega, by simp, by simp, by omega, by intro _; rfl, by simp [wgt]; omega, rfl, rfl⟩ ?_
  rintro n fr L ⟨k, p, out, hk, rfl, hE, hT, hpx, hp0, hw, rfl, rfl⟩
  simp only [ir_near_patched_L0, ZZ, YY, Ze, ite_true, ite_false, forall_const, reduceCtorEq, Nat.reduceAdd, Nat.reduceMul, Nat.reduceLeDiff, Nat.reduceLT, Nat.reduceEqDiff]
  refine br ?_ ?_
  · intro h
    have hlt : k < l.length := by have := of_decide_eq_true h; omega
    obtain ⟨c, hc⟩ : ∃ c, l[k]? = some c := ⟨_, List.getElem?_eq_getElem hlt⟩
    have hg := ciE_get hc
    obtain ⟨c1, c2, c3, c4⟩ := l2 c (List.mem_of_getElem? hc)
    obtain ⟨at_, dr, ad⟩ := c
    simp only at hg c1 c2 c3 c4
    have w1 := wgt_len dr
    have w2 := wgt_len ad
    rw [dropL_cons hc] at hE hT hw
    rw [addW_cons] at hw
    rw [paE] at hE
    rw [paT] at hT
    simp only at hE hT hw
    simp only [ZZ, YY, Ze, ite_true, ite_false, forall_const, reduceCtorEq, Nat.reduceAdd, Nat.reduceMul, Nat.reduceLeDiff, Nat.reduceLT, Nat.reduceEqDiff, hg, ciE_len, strE_len]
    ((repeat' (with_reducible apply And.intro)) <;> try ((first | first | assumption | trivial | exact (fun hq => by rw [hq]; rfl) | exact i64_of (by omega) (by omega) | omega | (simp; done) | (simp; omega) | (intro hsc; have hs0 := hsc; (try have hsd := of_decide_eq_true hsc); (try simp only [Bool.not_eq_true', Bool.or_eq_false_iff, Bool.and_eq_true, Bool.or_eq_true, decide_eq_true_eq, decide_eq_false_iff_not] at hsc); (repeat' (with_reducible apply And.intro)) <;> (first | assumption | trivial | exact (fun hq => by rw [hq]; rfl) | exact i64_of (by omega) (by omega) | omega | (simp; done) | (simp; omega) | (intro hse; simp [hse, hs0]; done) | (intro hse; simp only [hse, hs0, Bool.true_and, Bool.and_true, Bool.not_false, Bool.not_true, Bool.and_self]; done))))))
    refine use1 (In_ok at_ 0 (x.length : Nat)) rfl (.inl rfl) ?_
    simp only [ZZ, YY, Ze, ite_true, ite_false, forall_const, reduceCtorEq, Nat.reduceAdd, Nat.reduceMul, Nat.reduceLeDiff, Nat.reduceLT, Nat.reduceEqDiff]
    refine br ?_ ?_
    · intro hx
      have hx : inE at_ 0 (x.length : Nat) = false := by simpa using hx
      have hst : stE x (decide (k = 0)) p (at_, dr, ad) = 1 := by rw [stE, if_pos hx]
      rw [hst, if_neg (by decide)] at hE
      rw [hE]
      simp only [ZZ, YY, Ze, ite_true, ite_false, forall_const, reduceCtorEq, Nat.reduceAdd, Nat.reduceMul, Nat.reduceLeDiff, Nat.reduceLT, Nat.reduceEqDiff]
      exact ⟨[], rfl, fun h => by cases h⟩
    intro hx
    have hx : inE at_ 0 (x.length : Nat) = true := by simpa using hx
    have hx2 := hx
    simp only [inE, Bool.and_eq_true, decide_eq_true_eq] at hx2
    obtain ⟨i, rfl⟩ := Int.eq_ofNat_of_zero_le hx2.1
    have hi : i ≤ x.length := by omega
    rw [Int.toNat_natCast] at hE hT
    simp only [ZZ, YY, Ze, ite_true, ite_false, forall_const, reduceCtorEq, Nat.reduceAdd, Nat.reduceMul, Nat.reduceLeDiff, Nat.reduceLT, Nat.reduceEqDiff]
    ((repeat' (with_reducible apply And.intro)) <;> try ((first | first | assumption | trivial | exact (fun hq => by rw [hq]; rfl) | exact i64_of (by omega) (by omega) | omega | (simp; done) | (simp; omega) | (intro hsc; have hs0 := hsc; (try have hsd := of_decide_eq_true hsc); (try simp only [Bool.not_eq_true', Bool.or_eq_false_iff, Bool.and_eq_true, Bool.or_eq_true, decide_eq_true_eq, decide_eq_false_iff_not] at hsc); (repeat' (with_reducible apply And.intro)) <;> (first | assumption | trivial | exact (fun hq => by rw [hq]; rfl) | exact i64_of (by omega) (by omega) | omega | (simp; done) | (simp; omega) | (intro hse; simp [hse, hs0]; done) | (intro hse; simp only [hse, hs0, Bool.true_and, Bool.and_true, Bool.not_false, Bool.not_true, Bool.and_self]; done))))))
    refine br ?_ ?_
    · intro ho
      have ho : (0 : Int) < (k : Nat) ∧ ((i : Nat) : Int) ≤ (p : Nat) := by simpa using ho
      have hk0 : decide (k = 0) = false := decide_eq_false (by omega)
      have hst : stE x (decide (k = 0)) p ((i : Int), dr, ad) = 7 := by rw [stE, if_neg (by rw [hx]; simp), if_pos ⟨hk0, ho.2⟩]
      rw [hst, if_neg (by decide)] at hE
      rw [hE]
      simp only [ZZ, YY, Ze, ite_true, ite_false, forall_const, reduceCtorEq, Nat.reduceAdd, Nat.reduceMul, Nat.reduceLeDiff, Nat.reduceLT, Nat.reduceEqDiff]
      exact ⟨[], rfl, fun h => by cases h⟩
    intro ho
    have ho : ¬ (decide (k = 0) = false ∧ ((i : Nat) : Int) ≤ (p : Nat)) := by
      rintro ⟨h1, h2⟩
      have h1 : ¬ k = 0 := of_decide_eq_false h1
      have : (decide ((0 : Int) < (k : Nat)) && decide (((i : Nat) : Int) ≤ (p : Nat))) = true := by
        rw [Bool.and_eq_true, decide_eq_true_iff, decide_eq_true_iff]; exact ⟨by omega, h2⟩
      rw [this] at ho; cases ho
    have hpi : p ≤ i := by
      by_cases hk1 : k = 0
      · have := hp0 hk1; omega
      · have : ¬ ((i : Nat) : Int) ≤ (p : Nat) := fun e => ho ⟨decide_eq_false hk1, e⟩
        omega
    simp only [ZZ, YY, Ze, ite_true, ite_false, forall_const, reduceCtorEq, Nat.reduceAdd, Nat.reduceMul, Nat.reduceLeDiff, Nat.reduceLT, Nat.reduceEqDiff, strE_len]
    ((repeat' (with_reducible apply And.intro)) <;> try ((first | first | assumption | trivial | exact (fun hq => by rw [hq]; rfl) | exact i64_of (by omega) (by omega) | omega | (simp; done) | (simp; omega) | (intro hsc; have hs0 := hsc; (try have hsd := of_decide_eq_true hsc); (try simp only [Bool.not_eq_true', Bool.or_eq_false_iff, Bool.and_eq_true, Bool.or_eq_true, decide_eq_true_eq, decide_eq_false_iff_not] at hsc); (repeat' (with_reducible apply And.intro)) <;> (first | assumption | trivial | exact (fun hq => by rw [hq]; rfl) | exact i64_of (by omega) (by omega) | omega | (simp; done) | (simp; omega) | (intro hse; simp [hse, hs0]; done) | (intro hse; simp only [hse, hs0, Bool.true_and, Bool.and_true, Bool.not_false, Bool.not_true, Bool.and_self]; done))))))
    refine useG (fun _ => ContainsFuncS_ok dr 101 (fun s => !isTok s) (by omega) (fun _ => by kernel_rfl) (fun x hx => wrong_ok x (by have := wgt_mem hx; omega))) rfl (.inl rfl) ?_
    simp only [ZZ, YY, Ze, ite_true, ite_false, forall_const, reduceCtorEq, Nat.reduceAdd, Nat.reduceMul, Nat.reduceLeDiff, Nat.reduceLT, Nat.reduceEqDiff]
    refine ⟨fun h => by rw [h]; rfl, ?_⟩
    refine useG (fun _ => ContainsFuncS_ok ad 101 (fun s => !isTok s) (by omega) (fun _ => by kernel_rfl) (fun x hx => wrong_ok x (by have := wgt_mem hx; omega))) rfl (.inl rfl) ?_
    simp only [ZZ, YY, Ze, ite_true, ite_false, forall_const, reduceCtorEq, Nat.reduceAdd, Nat.reduceMul, Nat.reduceLeDiff, Nat.reduceLT, Nat.reduceEqDiff]
    refine ⟨fun h => by rw [h]; rfl, ?_⟩
    have hB : (decide (((dr.length : Nat) : Int) = 0) && decide (((ad.length : Nat) : Int) = 0) || dr.any (fun s => !isTok s) || ad.any (fun s => !isTok s)) = decide ((dr = [] ∧ ad = []) ∨ (dr ++ ad).any (fun s => !isTok s) = true) := by
      rw [Bool.eq_iff_iff]
      simp only [Bool.or_eq_true, Bool.and_eq_true, decide_eq_true_eq, List.any_append, Int.natCast_eq_zero, List.length_eq_zero_iff, or_assoc]
    rw [hB]
    refine br ?_ ?_
    · intro hf
      have hf := of_decide_eq_true hf
      have hst : stE x (decide (k = 0)) p ((i : Int), dr, ad) = 3 := by rw [stE, if_neg (by rw [hx]; simp), if_neg ho, if_pos hf]
      rw [hst, if_neg (by decide)] at hE
      rw [hE]
      simp only [ZZ, YY, Ze, ite_true, ite_false, forall_const, reduceCtorEq, Nat.reduceAdd, Nat.reduceMul, Nat.reduceLeDiff, Nat.reduceLT, Nat.reduceEqDiff]
      exact ⟨[], rfl, fun h => by cases h⟩
    intro hf
    have hf := of_decide_eq_false hf
    have hin : (((i : Nat) : Int) + ((dr.length : Nat) : Int)).toNat = i + dr.length := by omega
    have hsl : ((strE x).take (i + dr.length)).drop i = strE ((x.drop i).take dr.length) := by
      rw [strE, strE, ← List.map_take, ← List.map_drop, List.drop_take, Nat.add_sub_cancel_left]
    simp only [ZZ, YY, Ze, ite_true, ite_false, forall_const, reduceCtorEq, Nat.reduceAdd, Nat.reduceMul, Nat.reduceLeDiff, Nat.reduceLT, Nat.reduceEqDiff]
    refine drg1 (x1 := .bool (decide ((x.drop i).take dr.length = dr))) ?_
    simp only [ZZ, YY, Ze, ite_true, ite_false, forall_const, reduceCtorEq, Nat.reduceAdd, Nat.reduceMul, Nat.reduceLeDiff, Nat.reduceLT, Nat.reduceEqDiff, strE_len, hin, hsl]
    ((repeat' (with_reducible apply And.intro)) <;> try (first | exact fun h => ⟨h, usep (EqualT_ok _ dr (by simp; omega)) rfl (.inl rfl)⟩ | (first | first | assumption | trivial | exact (fun hq => by rw [hq]; rfl) | exact i64_of (by omega) (by omega) | omega | (simp; done) | (simp; omega) | (intro hsc; have hs0 := hsc; (try have hsd := of_decide_eq_true hsc); (try simp only [Bool.not_eq_true', Bool.or_eq_false_iff, Bool.and_eq_true, Bool.or_eq_true, decide_eq_true_eq, decide_eq_false_iff_not] at hsc); (repeat' (with_reducible apply And.intro)) <;> (first | assumption | trivial | exact (fun hq => by rw [hq]; rfl) | exact i64_of (by omega) (by omega) | omega | (simp; done) | (simp; omega) | (intro hse; simp [hse, hs0]; done) | (intro hse; simp only [hse, hs0, Bool.true_and, Bool.and_true, Bool.not_false, Bool.not_true, Bool.and_self]; done))))))
    have hC : (decide (((x.length : Nat) : Int) - ((i : Nat) : Int) < ((dr.length : Nat) : Int)) || !decide ((x.drop i).take dr.length = dr)) = decide (x.length < i + dr.length ∨ ¬ (x.drop i).take dr.length = dr) := by
      rw [Bool.eq_iff_iff]
      simp only [Bool.or_eq_true, Bool.not_eq_true', decide_eq_true_eq, decide_eq_false_iff_not]
      constructor
      · rintro (h | h)
        · exact .inl (by omega)
        · exact .inr h
      · rintro (h | h)
        · exact .inl (by omega)
        · exact .inr h
    rw [hC]
    refine br ?_ ?_
    · intro hq
      have hq := of_decide_eq_true hq
      have hst : stE x (decide (k = 0)) p ((i : Int), dr, ad) = 13 := by rw [stE, if_neg (by rw [hx]; simp), if_neg ho, if_neg hf]; simp only [Int.toNat_natCast]; rw [if_pos hq]
      rw [hst, if_neg (by decide)] at hE
      rw [hE]
      simp only [ZZ, YY, Ze, ite_true, ite_false, forall_const, reduceCtorEq, Nat.reduceAdd, Nat.reduceMul, Nat.reduceLeDiff, Nat.reduceLT, Nat.reduceEqDiff]
      exact ⟨[], rfl, fun h => by cases h⟩
    intro hq
    have hq := of_decide_eq_false hq
    have hst : stE x (decide (k = 0)) p ((i : Int), dr, ad) = 0 := by rw [stE, if_neg (by rw [hx]; simp), if_neg ho, if_neg hf]; simp only [Int.toNat_natCast]; rw [if_neg hq]
    rw [hst, if_pos rfl] at hE
    have hil : i + dr.length ≤ x.length := by
      have : ¬ x.length < i + dr.length := fun e => hq (.inl e)
      omega
    have hsl2 : ((strE x).take i).drop p = strE ((x.take i).drop p) := by rw [strE, strE, ← List.map_take, ← List.map_drop]
    have hap : ∀ a b : Toks, strE a ++ strE b = strE (a ++ b) := fun a b => (strE_app a b).symm
    have wlo := wgt_len out
    have hcl : ((x.take i).drop p).length ≤ 2000 := by simp; omega
    have hap2 : (out ++ (x.take i).drop p).length ≤ 300002000 := by rw [List.length_append]; omega
    have hww := step_wgt x out ad dr p i (addW (l.drop (k + 1))) hpi hi hw
    have hps : ((i : Int) + ((dr.length : Nat) : Int)) = ((i + dr.length : Nat) : Int) := by omega
    simp only [ZZ, YY, Ze, ite_true, ite_false, forall_const, reduceCtorEq, Nat.reduceAdd, Nat.reduceMul, Nat.reduceLeDiff, Nat.reduceLT, Nat.reduceEqDiff, strE_len, hsl2, hap, hps]
    ((repeat' (with_reducible apply And.intro)) <;> try ((first | first | assumption | trivial | exact (fun hq => by rw [hq]; rfl) | exact i64_of (by omega) (by omega) | omega | (simp; done) | (simp; omega) | (intro hsc; have hs0 := hsc; (try have hsd := of_decide_eq_true hsc); (try simp only [Bool.not_eq_true', Bool.or_eq_false_iff, Bool.and_eq_true, Bool.or_eq_true, decide_eq_true_eq, decide_eq_false_iff_not] at hsc); (repeat' (with_reducible apply And.intro)) <;> (first | assumption | trivial | exact (fun hq => by rw [hq]; rfl) | exact i64_of (by omega) (by omega) | omega | (simp; done) | (simp; omega) | (intro hse; simp [hse, hs0]; done) | (intro hse; simp only [hse, hs0, Bool.true_and, Bool.and_true, Bool.not_false, Bool.not_true, Bool.and_self]; done))))))
    refine end_round (l.length - (k + 1)) [.p (.str s), .p (.sl 3 (ciE l)), .any, .any, .any, .any, .p (.sl 1 (strE x)), .any, .row (.l 8), .p (int ((i + dr.length) : Nat)), .any, .any, .any, .any, .any, .any, .any, .any, .any, .any, .any, .p (.sl 3 (ciE l)), .p (int (l.length : Nat)), .p (int ((k + 1) : Nat)), .any, .any, .any, .any, .any, .any, .any, .any, .any, .any, .any, .any, .any, .any, .any, .any, .any, .any, .any, .any, .any, .any, .any, .any, .any, .any, .any, .any, .any, .any, .any, .any, .any, .any, .any, .any, .any, .any, .any, .any, .any, .any, .any, .any, .any, .any, .any, .any, .any, .any, .any, .any, .any, .any, .any, .any, .any, .any, .any, .any, .any, .any, .any, .any, .any, .any, .any, .any, .any, .any, .any, .any, .any, .any, .any, .any, .any, .any, .any, .any, .any, .any, .any, .any, .any, .any, .any, .any, .any, .any, .any, .any, .any, .any, .any, .any] [(.l 8, .row (strE (out ++ (x.take i).drop p ++ ad)) tStr 1 true)] (by omega) (by (simp only [ZZ, YY, Ze, ite_true, ite_false, forall_const, reduceCtorEq, Nat.reduceAdd, Nat.reduceMul, Nat.reduceLeDiff, Nat.reduceLT, Nat.reduceEqDiff]; try trivial)) (by (simp only [ZZ, YY, Ze, ite_true, ite_false, forall_const, reduceCtorEq, Nat.reduceAdd, Nat.reduceMul, Nat.reduceLeDiff, Nat.reduceLT, Nat.reduceEqDiff]; try trivial)) ⟨k + 1, i + dr.length, out ++ (x.take i).drop p ++ ad, by omega, rfl, by rw [hE]; rfl, hT, hil, by intro e; omega, hww, rfl, rfl⟩
  · intro h
    have hge : k = l.length := by have := of_decide_eq_false h; omega
    rw [hge, List.drop_length] at hE hT hw
    rw [paE] at hE
    rw [paT] at hT
    rw [hE, hT, if_pos rfl]
    have hx1 : ((strE x).take x.length).drop p = strE (x.drop p) := by rw [List.take_of_length_le (by rw [strE_len]; exact Nat.le_refl _), strE, strE, List.map_drop]
    have hap : strE out ++ strE (x.drop p) = strE (out ++ x.drop p) := (strE_app _ _).symm
    have hwt : wgt (out ++ x.drop p) ≤ 300000000 := by rw [wgt_app]; omega
    have hjl := jnF_wgt (out ++ x.drop p)
    have wlo := wgt_len out
    have wld : (x.drop p).length ≤ 2000 := by simp; omega
    simp only [ZZ, YY, Ze, ite_true, ite_false, forall_const, reduceCtorEq, Nat.reduceAdd, Nat.reduceMul, Nat.reduceLeDiff, Nat.reduceLT, Nat.reduceEqDiff, strE_len, hx1, hap]
    ((repeat' (with_reducible apply And.intro)) <;> try ((first | first | assumption | trivial | exact (fun hq => by rw [hq]; rfl) | exact i64_of (by omega) (by omega) | omega | (simp; done) | (simp; omega) | (intro hsc; have hs0 := hsc; (try have hsd := of_decide_eq_true hsc); (try simp only [Bool.not_eq_true', Bool.or_eq_false_iff, Bool.and_eq_true, Bool.or_eq_true, decide_eq_true_eq, decide_eq_false_iff_not] at hsc); (repeat' (with_reducible apply And.intro)) <;> (first | assumption | trivial | exact (fun hq => by rw [hq]; rfl) | exact i64_of (by omega) (by omega) | omega | (simp; done) | (simp; omega) | (intro hse; simp [hse, hs0]; done) | (intro hse; simp only [hse, hs0, Bool.true_and, Bool.and_true, Bool.not_false, Bool.not_true, Bool.and_self]; done))))))
    refine use1 (NJoin_ok (out ++ x.drop p) (by omega)) rfl (.inr rfl) ?_
    simp only [ZZ, YY, Ze, ite_true, ite_false, forall_const, reduceCtorEq, Nat.reduceAdd, Nat.reduceMul, Nat.reduceLeDiff, Nat.reduceLT, Nat.reduceEqDiff]
    refine use1 (nlarge_ok _ (by omega)) rfl (.inl rfl) ?_
    simp only [ZZ, YY, Ze, ite_true, ite_false, forall_const, reduceCtorEq, Nat.reduceAdd, Nat.reduceMul, Nat.reduceLeDiff, Nat.reduceLT, Nat.reduceEqDiff]
    exact ⟨_, rfl, fun _ => ⟨rfl, hwt⟩⟩
end Go.Proofs.YthfpehmbellmcaaGreatDoor

/- Changes put into a text, and those that lead back: the program's side. -/
namespace Go.Proofs.YthfpehmbellmcaaGreatDoor
open Go.RowKit
set_option linter.unusedVariables false
set_option linter.unusedSimpArgs false
set_option linter.defProp false

theorem Patch_ok (s : List UInt8) (l : List ChI) (hs : s.length ≤ 1000000) (hl : ChB l) : PCall Tryz.prog E0 17 [.str s, .sl 3 (ciE l)] (fun r => r = .tup [.str (if pE s l = 0 then jnF (paT (tokF s) l 0 []) else []), int (pE s l)]) := by
  refine pcallF mixed Tryz.func17 ck_near_Patch ?_
  simp only [a0, l0, OS.ao, List.map_cons, List.map_nil, List.length_cons, List.length_nil, List.cons_append, List.nil_append, Nat.reduceSub, Nat.reduceAdd, List.replicate_succ, List.replicate_zero, ir_near_Patch, rs_near_Patch, ZZ, YY, Ze, ite_true, ite_false, forall_const, reduceCtorEq, Nat.reduceAdd, Nat.reduceMul, Nat.reduceLeDiff, Nat.reduceLT, Nat.reduceEqDiff]
  refine use (patched_ok s l hs hl) rfl (.inl rfl) ?_
  rintro r ⟨X, rfl, hX⟩
  simp only [ZZ, YY, Ze, ite_true, ite_false, forall_const, reduceCtorEq, Nat.reduceAdd, Nat.reduceMul, Nat.reduceLeDiff, Nat.reduceLT, Nat.reduceEqDiff]
  by_cases h0 : pE s l = 0
  · have hd : decide (pE s l = 0) = true := decide_eq_true h0
    obtain ⟨rfl, hw⟩ := hX h0
    simp only [ZZ, YY, Ze, ite_true, ite_false, forall_const, reduceCtorEq, Nat.reduceAdd, Nat.reduceMul, Nat.reduceLeDiff, Nat.reduceLT, Nat.reduceEqDiff, hd]
    refine use1 (NJoin_ok _ (by omega)) rfl (.inl rfl) ?_
    simp only [ZZ, YY, Ze, ite_true, ite_false, forall_const, reduceCtorEq, Nat.reduceAdd, Nat.reduceMul, Nat.reduceLeDiff, Nat.reduceLT, Nat.reduceEqDiff]
    rw [if_pos h0, h0]
  · have hd : decide (pE s l = 0) = false := decide_eq_false h0
    simp only [ZZ, YY, Ze, ite_true, ite_false, forall_const, reduceCtorEq, Nat.reduceAdd, Nat.reduceMul, Nat.reduceLeDiff, Nat.reduceLT, Nat.reduceEqDiff, hd]
    rw [if_neg h0]
theorem Turn_ok (s : List UInt8) (l : List ChI) (hs : s.length ≤ 1000000) (hl : ChB l) : PCall Tryz.prog E0 18 [.str s, .sl 3 (ciE l)] (fun r => r = .tup [.sl 3 (if pE s l = 0 then ciE (baT l 0) else []), int (pE s l)]) := by
  refine pcallF mixed Tryz.func18 ck_near_Turn ?_
  simp only [a0, l0, OS.ao, List.map_cons, List.map_nil, List.length_cons, List.length_nil, List.cons_append, List.nil_append, Nat.reduceSub, Nat.reduceAdd, List.replicate_succ, List.replicate_zero, ir_near_Turn, rs_near_Turn, ZZ, YY, Ze, ite_true, ite_false, forall_const, reduceCtorEq, Nat.reduceAdd, Nat.reduceMul, Nat.reduceLeDiff, Nat.reduceLT, Nat.reduceEqDiff]
  refine use (patched_ok s l hs hl) rfl (.inl rfl) ?_
  rintro r ⟨X, rfl, hX⟩
  simp only [ZZ, YY, Ze, ite_true, ite_false, forall_const, reduceCtorEq, Nat.reduceAdd, Nat.reduceMul, Nat.reduceLeDiff, Nat.reduceLT, Nat.reduceEqDiff]
  by_cases h0 : pE s l = 0
  rotate_left
  · have hd : decide (pE s l = 0) = false := decide_eq_false h0
    simp only [ZZ, YY, Ze, ite_true, ite_false, forall_const, reduceCtorEq, Nat.reduceAdd, Nat.reduceMul, Nat.reduceLeDiff, Nat.reduceLT, Nat.reduceEqDiff, hd]
    rw [if_neg h0]
  have hd : decide (pE s l = 0) = true := decide_eq_true h0
  rw [if_pos h0, h0]
  obtain ⟨l1, l2⟩ := hl
  simp only [ZZ, YY, Ze, ite_true, ite_false, forall_const, reduceCtorEq, Nat.reduceAdd, Nat.reduceMul, Nat.reduceLeDiff, Nat.reduceLT, Nat.reduceEqDiff, decide_true, Bool.not_true, ciE_len]
  refine loop_intro (fun n fr L => ∃ (k : Nat) (m0 : Int) (out : List ChI), k ≤ l.length ∧ n = l.length - k ∧ (baT l 0 = out ++ baT (l.drop k) m0) ∧ (-(100000 * (k : Int)) ≤ m0 ∧ m0 ≤ 100000 * (k : Int)) ∧ (out.length ≤ k) ∧ fr = [.p (.str s), .p (.sl 3 (ciE l)), .any, .any, .any, .any, .any, .any, .row (.l 8), .p (int m0), .any, .any, .any, .any, .any, .any, .any, .any, .any, .any, .any, .p (.sl 3 (ciE l)), .p (int (l.length : Nat)), .p (int (k : Nat)), .any, .any, .any, .any, .any, .any, .any, .any, .any, .any, .any, .any, .any, .any, .any, .any, .any, .any, .any, .any, .any, .any, .any, .any, .any, .any, .any, .any] ∧ L = [(.l 8, .row (ciE out) tCh 3 true)]) (l.length) [.p (.str s), .p (.sl 3 (ciE l)), .any, .any, .any, .any, .any, .any, .row (.l 8), .p (int 0), .any, .any, .any, .any, .any, .any, .any, .any, .any, .any, .any, .p (.sl 3 (ciE l)), .p (int (l.length : Nat)), .p (int (0 : Nat)), .any, .any, .any, .any, .any, .any, .any, .any, .any, .any, .any, .any, .any, .any, .any, .any, .any, .any, .any, .any, .any, .any, .any, .any, .any, .any, .any, .any] [(.l 8, .row (ciE []) tCh 3 true)] (by simp only [ZZ, YY, Ze, ite_true, ite_false, forall_const, reduceCtorEq, Nat.reduceAdd, Nat.reduceMul, Nat.reduceLeDiff, Nat.reduceLT, Nat.reduceEqDiff, ciE_len]; try trivial) (by (simp only [ZZ, YY, Ze, ite_true, ite_false, forall_const, reduceCtorEq, Nat.reduceAdd, Nat.reduceMul, Nat.reduceLeDiff, Nat.reduceLT, Nat.reduceEqDiff]; try trivial)) ⟨0, 0, [], by omega, by omega, by simp, by simp, by simp, rfl, rfl⟩ ?_
  rintro n fr L ⟨k, m0, out, hk, rfl, hB, hm, ho, rfl, rfl⟩
  simp only [ir_near_Turn_L0, ZZ, YY, Ze, ite_true, ite_false, forall_const, reduceCtorEq, Nat.reduceAdd, Nat.reduceMul, Nat.reduceLeDiff, Nat.reduceLT, Nat.reduceEqDiff]
  refine br ?_ ?_
  · intro h
    have hlt : k < l.length := by have := of_decide_eq_true h; omega
    obtain ⟨c, hc⟩ : ∃ c, l[k]? = some c := ⟨_, List.getElem?_eq_getElem hlt⟩
    have hg := ciE_get hc
    obtain ⟨c1, c2, c3, c4⟩ := l2 c (List.mem_of_getElem? hc)
    obtain ⟨at_, dr, ad⟩ := c
    simp only at hg c1 c2 c3 c4
    have w1 := wgt_len dr
    have w2 := wgt_len ad
    rw [dropL_cons hc, baT] at hB
    simp only at hB
    have g1 : (strE dr).length ≤ 1000000 := by rw [strE_len]; omega
    have g2 : (strE ad).length ≤ 1000000 := by rw [strE_len]; omega
    have hap : ciE out ++ [[int (at_ + m0), .sl 1 (strE ad), .sl 1 (strE dr)]] = ciE (out ++ [(at_ + m0, ad, dr)]) := by rw [ciE_app]; rfl
    simp only [ZZ, YY, Ze, ite_true, ite_false, forall_const, reduceCtorEq, Nat.reduceAdd, Nat.reduceMul, Nat.reduceLeDiff, Nat.reduceLT, Nat.reduceEqDiff, hg, ciE_len, strE_len]
    ((repeat' (with_reducible apply And.intro)) <;> try ((first | first | assumption | trivial | exact (fun hq => by rw [hq]; rfl) | exact i64_of (by omega) (by omega) | omega | (simp; done) | (simp; omega) | (intro hsc; have hs0 := hsc; (try have hsd := of_decide_eq_true hsc); (try simp only [Bool.not_eq_true', Bool.or_eq_false_iff, Bool.and_eq_true, Bool.or_eq_true, decide_eq_true_eq, decide_eq_false_iff_not] at hsc); (repeat' (with_reducible apply And.intro)) <;> (first | assumption | trivial | exact (fun hq => by rw [hq]; rfl) | exact i64_of (by omega) (by omega) | omega | (simp; done) | (simp; omega) | (intro hse; simp [hse, hs0]; done) | (intro hse; simp only [hse, hs0, Bool.true_and, Bool.and_true, Bool.not_false, Bool.not_true, Bool.and_self]; done))))))
    refine drg2 (x1 := .sl 1 (strE ad)) (x2 := .sl 1 (strE dr)) ?_
    have hmm : m0 + (((ad.length : Nat) : Int) - ((dr.length : Nat) : Int)) = m0 + ((ad.length : Nat) : Int) - ((dr.length : Nat) : Int) := by omega
    simp only [ZZ, YY, Ze, ite_true, ite_false, forall_const, reduceCtorEq, Nat.reduceAdd, Nat.reduceMul, Nat.reduceLeDiff, Nat.reduceLT, Nat.reduceEqDiff, strE_len, ciE_len, hap, hmm]
    ((repeat' (with_reducible apply And.intro)) <;> try (first | exact usep (plainR (CloneS_ok _ g1)) rfl (.inl rfl) | exact usep (plainR (CloneS_ok _ g2)) rfl (.inl rfl) | (first | first | assumption | trivial | exact (fun hq => by rw [hq]; rfl) | exact i64_of (by omega) (by omega) | omega | (simp; done) | (simp; omega) | (intro hsc; have hs0 := hsc; (try have hsd := of_decide_eq_true hsc); (try simp only [Bool.not_eq_true', Bool.or_eq_false_iff, Bool.and_eq_true, Bool.or_eq_true, decide_eq_true_eq, decide_eq_false_iff_not] at hsc); (repeat' (with_reducible apply And.intro)) <;> (first | assumption | trivial | exact (fun hq => by rw [hq]; rfl) | exact i64_of (by omega) (by omega) | omega | (simp; done) | (simp; omega) | (intro hse; simp [hse, hs0]; done) | (intro hse; simp only [hse, hs0, Bool.true_and, Bool.and_true, Bool.not_false, Bool.not_true, Bool.and_self]; done))))))
    refine end_round (l.length - (k + 1)) [.p (.str s), .p (.sl 3 (ciE l)), .any, .any, .any, .any, .any, .any, .row (.l 8), .p (int (m0 + ad.length - dr.length)), .any, .any, .any, .any, .any, .any, .any, .any, .any, .any, .any, .p (.sl 3 (ciE l)), .p (int (l.length : Nat)), .p (int ((k + 1) : Nat)), .any, .any, .any, .any, .any, .any, .any, .any, .any, .any, .any, .any, .any, .any, .any, .any, .any, .any, .any, .any, .any, .any, .any, .any, .any, .any, .any, .any] [(.l 8, .row (ciE (out ++ [(at_ + m0, ad, dr)])) tCh 3 true)] (by omega) (by (simp only [ZZ, YY, Ze, ite_true, ite_false, forall_const, reduceCtorEq, Nat.reduceAdd, Nat.reduceMul, Nat.reduceLeDiff, Nat.reduceLT, Nat.reduceEqDiff]; try trivial)) (by (simp only [ZZ, YY, Ze, ite_true, ite_false, forall_const, reduceCtorEq, Nat.reduceAdd, Nat.reduceMul, Nat.reduceLeDiff, Nat.reduceLT, Nat.reduceEqDiff]; try trivial)) ⟨k + 1, m0 + ad.length - dr.length, out ++ [(at_ + m0, ad, dr)], by omega, rfl, by rw [hB, List.append_assoc]; rfl, by omega, by simp; omega, rfl, rfl⟩
  · intro h
    have hge : k = l.length := by have := of_decide_eq_false h; omega
    rw [hge, List.drop_length, baT, List.append_nil] at hB
    simp only [ZZ, YY, Ze, ite_true, ite_false, forall_const, reduceCtorEq, Nat.reduceAdd, Nat.reduceMul, Nat.reduceLeDiff, Nat.reduceLT, Nat.reduceEqDiff]
    rw [hB]
end Go.Proofs.YthfpehmbellmcaaGreatDoor
