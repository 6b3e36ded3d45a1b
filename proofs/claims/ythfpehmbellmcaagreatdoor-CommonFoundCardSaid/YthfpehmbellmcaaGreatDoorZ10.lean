
/- Own texts, put together: R2 R8 P2 M7 M9 M10 M11 R4 R9. -/
import Derived.Test.YthfpehmbellmcaaGreatDoorZ9
import Derived.Test.YthfpehmbellmcaaGreatDoorLaySorted
import Derived.Test.YthfpehmbellmcaaGreatDoorLayKeysIt
import Derived.Test.YthfpehmbellmcaaGreatDoorLayKeys
import Derived.Test.YthfpehmbellmcaaGreatDoorZ7
import Derived.Test.YthfpehmbellmcaaGreatDoorZ8
/- Paragraphs: the walks of both sides (written by wip/genr2.py). -/
namespace Go.Proofs.YthfpehmbellmcaaGreatDoor
open Go.RowKit
set_option linter.unusedVariables false
set_option linter.unusedSimpArgs false
set_option linter.defProp false

theorem paK_lines (ls : SRow) : ∀ k, ∀ p ∈ (paK ls k).1, p.length ≤ k
  | 0, p, hp => by simp [paK] at hp
  | k + 1, p, hp => by
    have ih := paK_lines ls k
    have hn := (paK_len ls k).2
    rw [paK, paS] at hp
    split at hp
    · have := ih p hp; omega
    · split at hp
      · rename_i h
        simp only at hp
        rcases List.mem_append.1 hp with hp | hp
        · have := ih p (List.dropLast_subset _ hp); omega
        · rw [List.mem_singleton] at hp
          have h1 : (paK ls k).1.getLastD [] ∈ (paK ls k).1 := by
            rw [List.getLastD_eq_getLast?, List.getLast?_eq_some_getLast (hn h), Option.getD_some]
            exact List.getLast_mem _
          have := ih _ h1
          rw [hp, List.length_append]
          simp only [List.length_cons, List.length_nil]
          omega
      · simp only at hp
        rcases List.mem_append.1 hp with hp | hp
        · have := ih p hp; omega
        · rw [List.mem_singleton] at hp
          rw [hp]; simp
theorem tbA_kill (T : Tab) (k : Key) : ((tbE T).map (·.map AV.p)).map (fun x => x.map fun y => AV.kill k y) = (tbE T).map (·.map AV.p) := by
  rw [List.map_map]
  exact List.map_congr_left fun x _ => map_kill_p k x
theorem tbA_killN (T : Tab) (k : Key) : ((tbE T).map (·.map AV.p) ++ [[AV.p (PV.nl 1)]]).map (fun x => x.map fun y => AV.kill k y) = (tbE T).map (·.map AV.p) ++ [[AV.p (PV.nl 1)]] := by
  rw [List.map_append, tbA_kill]; rfl
theorem tbA_killR (T : Tab) : ((tbE T).map (·.map AV.p) ++ [[AV.row (.l 1000)]]).map (fun x => x.map fun y => AV.kill (.l 1000) y) = (tbE T).map (·.map AV.p) ++ [[AV.any]] := by
  rw [List.map_append, tbA_kill]
  simp [AV.kill]
theorem tbA_ren (T : Tab) : ((tbE T).map (·.map AV.p) ++ [[AV.row (.l 34)]]).map (fun x => x.map fun y => AV.ren (r1 34 1000) y) = (tbE T).map (·.map AV.p) ++ [[AV.row (.l 1000)]] := by
  rw [List.map_append, List.map_map]
  congr 1
  · exact List.map_congr_left fun x _ => by rw [Function.comp_apply, List.map_map]; exact List.map_congr_left fun _ _ => rfl
theorem tbA_len (T : Tab) : ((tbE T).map (·.map AV.p)).length = T.length := by simp [tbE]
theorem tbA_last (T : Tab) (x : List AV) : ((tbE T).map (·.map AV.p) ++ [x]).getD T.length [] = x := by
  rw [List.getD, List.getElem?_append_right (by rw [tbA_len]; exact Nat.le_refl _), tbA_len, Nat.sub_self]
  rfl
theorem tbA_setl (T : Tab) (x y : List AV) : ((tbE T).map (·.map AV.p) ++ [x]).set T.length y = (tbE T).map (·.map AV.p) ++ [y] := by
  rw [List.set_append_right _ _ (by rw [tbA_len]; exact Nat.le_refl _), tbA_len, Nat.sub_self]
  rfl
set_option maxHeartbeats 4000000 in
theorem paragraphs_ok (t : List UInt8) (ht : t.length ≤ 1000000) : FCall Tryz.prog E0 59 [.str t] tStrsR 1 (· = tbE (parF t)) := by
  unfold FCall
  refine gcallR mixed Tryz.func59 ck_near_paragraphs ?_
  simp only [a0, l0, OS.ao, List.map_cons, List.map_nil, List.length_cons, List.length_nil, List.cons_append, List.nil_append, Nat.reduceSub, Nat.reduceAdd, List.replicate_succ, List.replicate_zero, ir_near_paragraphs, rs_near_paragraphs, ZZ, YY, Ze, ite_true, ite_false, forall_const, reduceCtorEq, Nat.reduceAdd, Nat.reduceMul, Nat.reduceLeDiff, Nat.reduceLT, Nat.reduceEqDiff]
  refine use1 (Split_ok t 10 (by omega)) rfl (.inl rfl) ?_
  have hlb := splF_mem t 10
  have hll := splF_len t 10
  rw [show parF t = (paK (splF t 10) (splF t 10).length).1 from rfl]
  generalize splF t 10 = l at *
  rw [strs_eq]
  simp only [ZZ, YY, Ze, ite_true, ite_false, forall_const, reduceCtorEq, Nat.reduceAdd, Nat.reduceMul, Nat.reduceLeDiff, Nat.reduceLT, Nat.reduceEqDiff, strE_len]
  obtain ⟨J, hJ⟩ : ∃ J : Nat → Objs → Prop, J = fun k L => (k < l.length ∧ ParI L (paK l k).1 (paK l k).2) ∨ (k = l.length ∧ Zas L (.l 3) = some (.row (tbE (paK l k).1) tStrsR 1 true)) := ⟨_, rfl⟩
  have hnx : ∀ (b : Bool) k L, k ≤ l.length → ParI L (paK l k).1 (paK l k).2 → ∃ L', ReOk E0 [.p (.str t), .any, .any, .row (.l 3), .p (.bool b), .any, .any, .any, .p (.sl 1 (strE l)), .p (int (l.length : Nat)), .p (int (k : Nat)), .any, .any, .any, .any, .any, .any, .any, .any, .any, .any, .any, .any, .any, .any, .any, .any, .any, .any, .any, .any, .any, .any, .any, .any, .any, .any, .any] L [.p (.str t), .any, .any, .row (.l 3), .p (.bool b), .any, .any, .any, .p (.sl 1 (strE l)), .p (int (l.length : Nat)), .p (int (k : Nat)), .any, .any, .any, .any, .any, .any, .any, .any, .any, .any, .any, .any, .any, .any, .any, .any, .any, .any, .any, .any, .any, .any, .any, .any, .any, .any, .any] L' ∧ J k L' := by
    intro b k L hk h
    by_cases hkl : k < l.length
    · exact ⟨L, ReOk.refl, by rw [hJ]; exact .inl ⟨hkl, h⟩⟩
    · obtain ⟨L', r1, r2⟩ := par_end (E := E0) (fr := [.p (.str t), .any, .any, .row (.l 3), .p (.bool b), .any, .any, .any, .p (.sl 1 (strE l)), .p (int (l.length : Nat)), .p (int (k : Nat)), .any, .any, .any, .any, .any, .any, .any, .any, .any, .any, .any, .any, .any, .any, .any, .any, .any, .any, .any, .any, .any, .any, .any, .any, .any, .any, .any]) (by
        intro y
        have e1 : (Key.l 3 = .l 1000) = False := by simp
        simp only [List.map_cons, List.map_nil, AV.thaw, e1, if_false]) h
      exact ⟨L', r1, by rw [hJ]; exact .inr ⟨by omega, r2⟩⟩
  obtain ⟨L1, q1, q2⟩ := hnx false 0 (Zat [(.l 3, .row [] tStrsR 1 true)] (.l 3) (.rowv (([] : List (List PV)).map (·.map .p)) tStrsR 1)) (by omega) rfl
  refine loop_re (fun m fr L => ∃ k, k ≤ l.length ∧ m = l.length - k ∧ fr = [.p (.str t), .any, .any, .row (.l 3), .p (.bool (paK l k).2), .any, .any, .any, .p (.sl 1 (strE l)), .p (int (l.length : Nat)), .p (int (k : Nat)), .any, .any, .any, .any, .any, .any, .any, .any, .any, .any, .any, .any, .any, .any, .any, .any, .any, .any, .any, .any, .any, .any, .any, .any, .any, .any, .any] ∧ J k L) l.length [.p (.str t), .any, .any, .row (.l 3), .p (.bool false), .any, .any, .any, .p (.sl 1 (strE l)), .p (int (l.length : Nat)), .p (int (0 : Nat)), .any, .any, .any, .any, .any, .any, .any, .any, .any, .any, .any, .any, .any, .any, .any, .any, .any, .any, .any, .any, .any, .any, .any, .any, .any, .any, .any] L1 (ReOk.trans (re_le (by simp only [ZZ, YY, Ze, ite_true, ite_false, forall_const, reduceCtorEq, Nat.reduceAdd, Nat.reduceMul, Nat.reduceLeDiff, Nat.reduceLT, Nat.reduceEqDiff, strE_len]; try trivial)) (ReOk.trans (re_rowv (k := .l 3) rfl) q1)) ⟨0, by omega, by omega, rfl, q2⟩ ?_
  clear q1 q2 L1
  rintro m fr L ⟨k, hk, rfl, rfl, hj⟩
  simp only [ir_near_paragraphs_L0, ZZ, YY, Ze, ite_true, ite_false, forall_const, reduceCtorEq, Nat.reduceAdd, Nat.reduceMul, Nat.reduceLeDiff, Nat.reduceLT, Nat.reduceEqDiff]
  rw [hJ] at hj
  refine br ?_ ?_
  · intro h
    have hlt : k < l.length := by have := of_decide_eq_true h; omega
    rcases hj with ⟨_, hj⟩ | ⟨e, _⟩
    rotate_left
    · omega
    obtain ⟨s, hs⟩ : ∃ s, l[k]? = some s := ⟨_, List.getElem?_eq_getElem hlt⟩
    have hg : (strE l).getD k [] = [.str s] := strE_get hs
    have hsD : l.getD k [] = s := by simp [List.getD, hs]
    have hsl := hlb s (List.mem_of_getElem? hs)
    have hst : paK l (k + 1) = paS (paK l k) s := by rw [paK, hsD]
    have hpl := paK_len l k
    have hcb := paK_lines l k
    have hnx1 := fun b L => hnx b (k + 1) L (by omega)
    have hiv : ∀ b, (paK l (k + 1)).2 = b → ([.p (.str t), .any, .any, .row (.l 3), .p (.bool b), .any, .any, .any, .p (.sl 1 (strE l)), .p (int (l.length : Nat)), .p (int (k + 1 : Nat)), .any, .any, .any, .any, .any, .any, .any, .any, .any, .any, .any, .any, .any, .any, .any, .any, .any, .any, .any, .any, .any, .any, .any, .any, .any, .any, .any] : List AV) = [.p (.str t), .any, .any, .row (.l 3), .p (.bool (paK l (k + 1)).2), .any, .any, .any, .p (.sl 1 (strE l)), .p (int (l.length : Nat)), .p (int (k + 1 : Nat)), .any, .any, .any, .any, .any, .any, .any, .any, .any, .any, .any, .any, .any, .any, .any, .any, .any, .any, .any, .any, .any, .any, .any, .any, .any, .any, .any] := fun b e => by rw [e]
    generalize hP : paK l k = P0 at *
    obtain ⟨T, op⟩ := P0
    simp only at hj hpl hcb
    simp only [ZZ, YY, Ze, ite_true, ite_false, forall_const, reduceCtorEq, Nat.reduceAdd, Nat.reduceMul, Nat.reduceLeDiff, Nat.reduceLT, Nat.reduceEqDiff, hg, strE_len]
    ((repeat' (with_reducible apply And.intro)) <;> try ((first | first | assumption | trivial | exact (fun hq => by rw [hq]; rfl) | exact i64_of (by omega) (by omega) | omega | (simp; done) | (simp; omega) | (intro hsc; have hs0 := hsc; (try have hsd := of_decide_eq_true hsc); (try simp only [Bool.not_eq_true', Bool.or_eq_false_iff, Bool.and_eq_true, Bool.or_eq_true, decide_eq_true_eq, decide_eq_false_iff_not] at hsc); (repeat' (with_reducible apply And.intro)) <;> (first | assumption | trivial | exact (fun hq => by rw [hq]; rfl) | exact i64_of (by omega) (by omega) | omega | (simp; done) | (simp; omega) | (intro hse; simp [hse, hs0]; done) | (intro hse; simp only [hse, hs0, Bool.true_and, Bool.and_true, Bool.not_false, Bool.not_true, Bool.and_self]; done))))))
    refine use1 (TrimSet_ok s [32] (by omega) (by simp) rfl) rfl (.inl rfl) ?_
    simp only [ZZ, YY, Ze, ite_true, ite_false, forall_const, reduceCtorEq, Nat.reduceAdd, Nat.reduceMul, Nat.reduceLeDiff, Nat.reduceLT, Nat.reduceEqDiff]
    rw [blank_trim]
    refine br ?_ ?_
    · intro hb
      have hn : paK l (k + 1) = (T, false) := by rw [hst, paS, if_pos hb]
      rw [hn] at hnx1
      obtain ⟨L1, r1, h1⟩ := par_close (E := E0) (fr := [.p (.str t), .any, .any, .row (.l 3), .p (.bool false), .any, .any, .any, .p (.sl 1 (strE l)), .p (int (l.length : Nat)), .p (int (k + 1 : Nat)), .any, .any, .any, .any, .any, .any, .any, .any, .any, .any, .any, .any, .any, .any, .any, .any, .any, .any, .any, .any, .any, .any, .any, .any, .any, .any, .any]) (by
        intro y
        have e1 : (Key.l 3 = .l 1000) = False := by simp
        simp only [List.map_cons, List.map_nil, AV.thaw, e1, if_false]) hj
      obtain ⟨L2, r2, h2⟩ := hnx1 false L1 h1
      simp only [ZZ, YY, Ze, ite_true, ite_false, forall_const, reduceCtorEq, Nat.reduceAdd, Nat.reduceMul, Nat.reduceLeDiff, Nat.reduceLT, Nat.reduceEqDiff]
      refine cut_re _ _ ReOk.refl ?_
      simp only [ZZ, YY, Ze, ite_true, ite_false, forall_const, reduceCtorEq, Nat.reduceAdd, Nat.reduceMul, Nat.reduceLeDiff, Nat.reduceLT, Nat.reduceEqDiff]
      ((repeat' (with_reducible apply And.intro)) <;> try ((first | first | assumption | trivial | exact (fun hq => by rw [hq]; rfl) | exact i64_of (by omega) (by omega) | omega | (simp; done) | (simp; omega) | (intro hsc; have hs0 := hsc; (try have hsd := of_decide_eq_true hsc); (try simp only [Bool.not_eq_true', Bool.or_eq_false_iff, Bool.and_eq_true, Bool.or_eq_true, decide_eq_true_eq, decide_eq_false_iff_not] at hsc); (repeat' (with_reducible apply And.intro)) <;> (first | assumption | trivial | exact (fun hq => by rw [hq]; rfl) | exact i64_of (by omega) (by omega) | omega | (simp; done) | (simp; omega) | (intro hse; simp [hse, hs0]; done) | (intro hse; simp only [hse, hs0, Bool.true_and, Bool.and_true, Bool.not_false, Bool.not_true, Bool.and_self]; done))))))
      refine end_re (l.length - (k + 1)) [.p (.str t), .any, .any, .row (.l 3), .p (.bool false), .any, .any, .any, .p (.sl 1 (strE l)), .p (int (l.length : Nat)), .p (int (k + 1 : Nat)), .any, .any, .any, .any, .any, .any, .any, .any, .any, .any, .any, .any, .any, .any, .any, .any, .any, .any, .any, .any, .any, .any, .any, .any, .any, .any, .any] L2 (by omega) (ReOk.trans (re_le (by simp only [ZZ, YY, Ze, ite_true, ite_false, forall_const, reduceCtorEq, Nat.reduceAdd, Nat.reduceMul, Nat.reduceLeDiff, Nat.reduceLT, Nat.reduceEqDiff]; try trivial)) (ReOk.trans r1 r2)) ⟨k + 1, by omega, rfl, hiv false (by rw [hn]), h2⟩
    intro hb
    cases op
    · have hn : paK l (k + 1) = (T ++ [[s]], true) := by rw [hst, paS, if_neg (by rw [hb]; simp)]; rfl
      rw [hn] at hnx1
      unfold ParI at hj
      rw [if_neg (by simp)] at hj
      have hTl : T.length ≤ 1000001 := by have := hpl.1; omega
      have hix : (((T.length + 1 : Nat) : Int) - 1) = (T.length : Nat) := by omega
      simp only [ZZ, YY, Ze, ite_true, ite_false, forall_const, reduceCtorEq, Nat.reduceAdd, Nat.reduceMul, Nat.reduceLeDiff, Nat.reduceLT, Nat.reduceEqDiff, look_updL, look_putO, look_killO, hj, tbA_kill, tbA_len, List.map_append, List.length_append]
      ((repeat' (with_reducible apply And.intro)) <;> try ((first | first | assumption | trivial | exact (fun hq => by rw [hq]; rfl) | exact i64_of (by omega) (by omega) | omega | (simp; done) | (simp; omega) | (intro hsc; have hs0 := hsc; (try have hsd := of_decide_eq_true hsc); (try simp only [Bool.not_eq_true', Bool.or_eq_false_iff, Bool.and_eq_true, Bool.or_eq_true, decide_eq_true_eq, decide_eq_false_iff_not] at hsc); (repeat' (with_reducible apply And.intro)) <;> (first | assumption | trivial | exact (fun hq => by rw [hq]; rfl) | exact i64_of (by omega) (by omega) | omega | (simp; done) | (simp; omega) | (intro hse; simp [hse, hs0]; done) | (intro hse; simp only [hse, hs0, Bool.true_and, Bool.and_true, Bool.not_false, Bool.not_true, Bool.and_self]; done))))))
      refine cut_re _ _ ReOk.refl ?_
      have hlT : ((tbE T).map (·.map AV.p) ++ [[AV.p (PV.nl 1)]]).length = T.length + 1 := by rw [List.length_append, tbA_len]; rfl
      simp only [ZZ, YY, Ze, ite_true, ite_false, forall_const, reduceCtorEq, Nat.reduceAdd, Nat.reduceMul, Nat.reduceLeDiff, Nat.reduceLT, Nat.reduceEqDiff, look_updL, look_putO, look_killO, hj, tbA_kill, tbA_killN, hlT, hix, tbA_last, tbA_setl]
      ((repeat' (with_reducible apply And.intro)) <;> try ((first | first | assumption | trivial | exact (fun hq => by rw [hq]; rfl) | exact i64_of (by omega) (by omega) | omega | (simp; done) | (simp; omega) | (intro hsc; have hs0 := hsc; (try have hsd := of_decide_eq_true hsc); (try simp only [Bool.not_eq_true', Bool.or_eq_false_iff, Bool.and_eq_true, Bool.or_eq_true, decide_eq_true_eq, decide_eq_false_iff_not] at hsc); (repeat' (with_reducible apply And.intro)) <;> (first | assumption | trivial | exact (fun hq => by rw [hq]; rfl) | exact i64_of (by omega) (by omega) | omega | (simp; done) | (simp; omega) | (intro hse; simp [hse, hs0]; done) | (intro hse; simp only [hse, hs0, Bool.true_and, Bool.and_true, Bool.not_false, Bool.not_true, Bool.and_self]; done))))))
      generalize hLL : Zat (Zat _ (Key.l 34) _) (Key.l 3) _ = LL
      have hst1 : ([[PV.str s]] : List (List PV)) = strE [s] := rfl
      obtain ⟨L2, r2, h2⟩ := hnx1 true (mapO (r1 34 1000) LL) (by
        unfold ParI
        rw [if_pos rfl]
        refine ⟨T, [s], rfl, ?_, ?_⟩
        · rw [← hLL, look_ren1, if_neg (by simp), if_neg (by simp), look_putO, if_pos rfl]
          simp only [Option.map_some, AO.ren]
          exact congrArg (fun c => some (AO.rowv c tStrsR 1)) (tbA_ren T)
        · rw [← hLL, look_ren1, if_pos rfl, look_putO, if_neg (by simp), look_putO, if_pos rfl]
          rfl)
      refine cut_re _ _ ReOk.refl ?_
      simp only [ZZ, YY, Ze, ite_true, ite_false, forall_const, reduceCtorEq, Nat.reduceAdd, Nat.reduceMul, Nat.reduceLeDiff, Nat.reduceLT, Nat.reduceEqDiff]
      ((repeat' (with_reducible apply And.intro)) <;> try ((first | first | assumption | trivial | exact (fun hq => by rw [hq]; rfl) | exact i64_of (by omega) (by omega) | omega | (simp; done) | (simp; omega) | (intro hsc; have hs0 := hsc; (try have hsd := of_decide_eq_true hsc); (try simp only [Bool.not_eq_true', Bool.or_eq_false_iff, Bool.and_eq_true, Bool.or_eq_true, decide_eq_true_eq, decide_eq_false_iff_not] at hsc); (repeat' (with_reducible apply And.intro)) <;> (first | assumption | trivial | exact (fun hq => by rw [hq]; rfl) | exact i64_of (by omega) (by omega) | omega | (simp; done) | (simp; omega) | (intro hse; simp [hse, hs0]; done) | (intro hse; simp only [hse, hs0, Bool.true_and, Bool.and_true, Bool.not_false, Bool.not_true, Bool.and_self]; done))))))
      refine end_re (l.length - (k + 1)) [.p (.str t), .any, .any, .row (.l 3), .p (.bool true), .any, .any, .any, .p (.sl 1 (strE l)), .p (int (l.length : Nat)), .p (int (k + 1 : Nat)), .any, .any, .any, .any, .any, .any, .any, .any, .any, .any, .any, .any, .any, .any, .any, .any, .any, .any, .any, .any, .any, .any, .any, .any, .any, .any, .any] L2 (by omega) (ReOk.trans (re_ren 34 1000) (ReOk.trans (re_le (by simp only [AV.ren, r1, ZZ, YY, Ze, ite_true, ite_false, forall_const, reduceCtorEq, Nat.reduceAdd, Nat.reduceMul, Nat.reduceLeDiff, Nat.reduceLT, Nat.reduceEqDiff]; try trivial)) r2)) ⟨k + 1, by omega, rfl, hiv true (by rw [hn]), h2⟩
    · have hn : paK l (k + 1) = (T.dropLast ++ [T.getLastD [] ++ [s]], true) := by rw [hst, paS, if_neg (by rw [hb]; simp)]; rfl
      rw [hn] at hnx1
      unfold ParI at hj
      rw [if_pos rfl] at hj
      obtain ⟨I, cur, rfl, h1, h2⟩ := hj
      have hIl : I.length ≤ 1000001 := by have := hpl.1; simp at this; omega
      have hlI : ((tbE I).map (·.map AV.p) ++ [[AV.row (Key.l 1000)]]).length = I.length + 1 := by rw [List.length_append, tbA_len]; rfl
      have hix : (((I.length + 1 : Nat) : Int) - 1) = (I.length : Nat) := by omega
      simp only [ZZ, YY, Ze, ite_true, ite_false, forall_const, reduceCtorEq, Nat.reduceAdd, Nat.reduceMul, Nat.reduceLeDiff, Nat.reduceLT, Nat.reduceEqDiff]
      refine cut_re _ _ ReOk.refl ?_
      have hlA : ((tbE I).map (·.map AV.p) ++ [[AV.any]]).length = I.length + 1 := by rw [List.length_append, tbA_len]; rfl
      have hcl : cur.length ≤ 10000000 := by
        have := hcb cur (by simp)
        omega
      simp only [ZZ, YY, Ze, ite_true, ite_false, forall_const, reduceCtorEq, Nat.reduceAdd, Nat.reduceMul, Nat.reduceLeDiff, Nat.reduceLT, Nat.reduceEqDiff, look_updL, look_putO, look_killO, h1, h2, hlI, hlA, hix, tbA_last, tbA_setl, tbA_kill, tbA_killR, strE_len]
      ((repeat' (with_reducible apply And.intro)) <;> try ((first | first | assumption | trivial | exact (fun hq => by rw [hq]; rfl) | exact i64_of (by omega) (by omega) | omega | (simp; done) | (simp; omega) | (intro hsc; have hs0 := hsc; (try have hsd := of_decide_eq_true hsc); (try simp only [Bool.not_eq_true', Bool.or_eq_false_iff, Bool.and_eq_true, Bool.or_eq_true, decide_eq_true_eq, decide_eq_false_iff_not] at hsc); (repeat' (with_reducible apply And.intro)) <;> (first | assumption | trivial | exact (fun hq => by rw [hq]; rfl) | exact i64_of (by omega) (by omega) | omega | (simp; done) | (simp; omega) | (intro hse; simp [hse, hs0]; done) | (intro hse; simp only [hse, hs0, Bool.true_and, Bool.and_true, Bool.not_false, Bool.not_true, Bool.and_self]; done))))))
      generalize hLL : Zat (Zat _ (Key.l 1000) _) (Key.l 3) _ = LL
      obtain ⟨L2, r2, h2'⟩ := hnx1 true LL (by
        unfold ParI
        rw [if_pos rfl]
        refine ⟨I, cur ++ [s], by simp, ?_, ?_⟩
        · rw [← hLL, look_putO, if_pos rfl]
        · rw [← hLL, look_putO, if_neg (by simp), look_putO, if_pos rfl, strE_app]
          rfl)
      refine cut_re _ _ ReOk.refl ?_
      simp only [ZZ, YY, Ze, ite_true, ite_false, forall_const, reduceCtorEq, Nat.reduceAdd, Nat.reduceMul, Nat.reduceLeDiff, Nat.reduceLT, Nat.reduceEqDiff]
      ((repeat' (with_reducible apply And.intro)) <;> try ((first | first | assumption | trivial | exact (fun hq => by rw [hq]; rfl) | exact i64_of (by omega) (by omega) | omega | (simp; done) | (simp; omega) | (intro hsc; have hs0 := hsc; (try have hsd := of_decide_eq_true hsc); (try simp only [Bool.not_eq_true', Bool.or_eq_false_iff, Bool.and_eq_true, Bool.or_eq_true, decide_eq_true_eq, decide_eq_false_iff_not] at hsc); (repeat' (with_reducible apply And.intro)) <;> (first | assumption | trivial | exact (fun hq => by rw [hq]; rfl) | exact i64_of (by omega) (by omega) | omega | (simp; done) | (simp; omega) | (intro hse; simp [hse, hs0]; done) | (intro hse; simp only [hse, hs0, Bool.true_and, Bool.and_true, Bool.not_false, Bool.not_true, Bool.and_self]; done))))))
      refine end_re (l.length - (k + 1)) [.p (.str t), .any, .any, .row (.l 3), .p (.bool true), .any, .any, .any, .p (.sl 1 (strE l)), .p (int (l.length : Nat)), .p (int (k + 1 : Nat)), .any, .any, .any, .any, .any, .any, .any, .any, .any, .any, .any, .any, .any, .any, .any, .any, .any, .any, .any, .any, .any, .any, .any, .any, .any, .any, .any] L2 (by omega) (ReOk.trans (re_le (by simp only [ZZ, YY, Ze, ite_true, ite_false, forall_const, reduceCtorEq, Nat.reduceAdd, Nat.reduceMul, Nat.reduceLeDiff, Nat.reduceLT, Nat.reduceEqDiff]; try trivial)) r2) ⟨k + 1, by omega, rfl, hiv true (by rw [hn]), h2'⟩
  · intro h
    have hge : k = l.length := by have := of_decide_eq_false h; omega
    rcases hj with ⟨e, _⟩ | ⟨_, hO⟩
    · omega
    subst hge
    simp only [ZZ, YY, Ze, ite_true, ite_false, forall_const, reduceCtorEq, Nat.reduceAdd, Nat.reduceMul, Nat.reduceLeDiff, Nat.reduceLT, Nat.reduceEqDiff]
    exact fin_F 3 _ rfl hO rfl
set_option maxHeartbeats 4000000 in
theorem blocks_ok (t : List UInt8) (ht : t.length ≤ 1000000) : FCall Tryz.prog E0 64 [.str t] tStrsR 1 (· = tbE (parF t)) := by
  unfold FCall
  refine gcallR mixed Tryz.func64 ck_chaseref1_blocks ?_
  simp only [a0, l0, OS.ao, List.map_cons, List.map_nil, List.length_cons, List.length_nil, List.cons_append, List.nil_append, Nat.reduceSub, Nat.reduceAdd, List.replicate_succ, List.replicate_zero, ir_chaseref1_blocks, rs_chaseref1_blocks, ZZ, YY, Ze, ite_true, ite_false, forall_const, reduceCtorEq, Nat.reduceAdd, Nat.reduceMul, Nat.reduceLeDiff, Nat.reduceLT, Nat.reduceEqDiff]
  refine use1 (Split_ok t 10 (by omega)) rfl (.inl rfl) ?_
  have hlb := splF_mem t 10
  have hll := splF_len t 10
  rw [show parF t = (paK (splF t 10) (splF t 10).length).1 from rfl]
  generalize splF t 10 = l at *
  rw [strs_eq]
  simp only [ZZ, YY, Ze, ite_true, ite_false, forall_const, reduceCtorEq, Nat.reduceAdd, Nat.reduceMul, Nat.reduceLeDiff, Nat.reduceLT, Nat.reduceEqDiff, strE_len]
  obtain ⟨J, hJ⟩ : ∃ J : Nat → Objs → Prop, J = fun k L => (k < l.length ∧ ParI L (paK l k).1 (paK l k).2) ∨ (k = l.length ∧ Zas L (.l 3) = some (.row (tbE (paK l k).1) tStrsR 1 true)) := ⟨_, rfl⟩
  have hnx : ∀ (b : Bool) k L, k ≤ l.length → ParI L (paK l k).1 (paK l k).2 → ∃ L', ReOk E0 [.p (.str t), .any, .any, .row (.l 3), .p (.bool b), .any, .any, .any, .p (.sl 1 (strE l)), .p (int (l.length : Nat)), .p (int (k : Nat)), .any, .any, .any, .any, .any, .any, .any, .any, .any, .any, .any, .any, .any, .any, .any, .any, .any, .any, .any, .any, .any, .any, .any, .any, .any, .any, .any] L [.p (.str t), .any, .any, .row (.l 3), .p (.bool b), .any, .any, .any, .p (.sl 1 (strE l)), .p (int (l.length : Nat)), .p (int (k : Nat)), .any, .any, .any, .any, .any, .any, .any, .any, .any, .any, .any, .any, .any, .any, .any, .any, .any, .any, .any, .any, .any, .any, .any, .any, .any, .any, .any] L' ∧ J k L' := by
    intro b k L hk h
    by_cases hkl : k < l.length
    · exact ⟨L, ReOk.refl, by rw [hJ]; exact .inl ⟨hkl, h⟩⟩
    · obtain ⟨L', r1, r2⟩ := par_end (E := E0) (fr := [.p (.str t), .any, .any, .row (.l 3), .p (.bool b), .any, .any, .any, .p (.sl 1 (strE l)), .p (int (l.length : Nat)), .p (int (k : Nat)), .any, .any, .any, .any, .any, .any, .any, .any, .any, .any, .any, .any, .any, .any, .any, .any, .any, .any, .any, .any, .any, .any, .any, .any, .any, .any, .any]) (by
        intro y
        have e1 : (Key.l 3 = .l 1000) = False := by simp
        simp only [List.map_cons, List.map_nil, AV.thaw, e1, if_false]) h
      exact ⟨L', r1, by rw [hJ]; exact .inr ⟨by omega, r2⟩⟩
  obtain ⟨L1, q1, q2⟩ := hnx false 0 (Zat [(.l 3, .row [] tStrsR 1 true)] (.l 3) (.rowv (([] : List (List PV)).map (·.map .p)) tStrsR 1)) (by omega) rfl
  refine loop_re (fun m fr L => ∃ k, k ≤ l.length ∧ m = l.length - k ∧ fr = [.p (.str t), .any, .any, .row (.l 3), .p (.bool (paK l k).2), .any, .any, .any, .p (.sl 1 (strE l)), .p (int (l.length : Nat)), .p (int (k : Nat)), .any, .any, .any, .any, .any, .any, .any, .any, .any, .any, .any, .any, .any, .any, .any, .any, .any, .any, .any, .any, .any, .any, .any, .any, .any, .any, .any] ∧ J k L) l.length [.p (.str t), .any, .any, .row (.l 3), .p (.bool false), .any, .any, .any, .p (.sl 1 (strE l)), .p (int (l.length : Nat)), .p (int (0 : Nat)), .any, .any, .any, .any, .any, .any, .any, .any, .any, .any, .any, .any, .any, .any, .any, .any, .any, .any, .any, .any, .any, .any, .any, .any, .any, .any, .any] L1 (ReOk.trans (re_le (by simp only [ZZ, YY, Ze, ite_true, ite_false, forall_const, reduceCtorEq, Nat.reduceAdd, Nat.reduceMul, Nat.reduceLeDiff, Nat.reduceLT, Nat.reduceEqDiff, strE_len]; try trivial)) (ReOk.trans (re_rowv (k := .l 3) rfl) q1)) ⟨0, by omega, by omega, rfl, q2⟩ ?_
  clear q1 q2 L1
  rintro m fr L ⟨k, hk, rfl, rfl, hj⟩
  simp only [ir_chaseref1_blocks_L0, ZZ, YY, Ze, ite_true, ite_false, forall_const, reduceCtorEq, Nat.reduceAdd, Nat.reduceMul, Nat.reduceLeDiff, Nat.reduceLT, Nat.reduceEqDiff]
  rw [hJ] at hj
  refine br ?_ ?_
  · intro h
    have hlt : k < l.length := by have := of_decide_eq_true h; omega
    rcases hj with ⟨_, hj⟩ | ⟨e, _⟩
    rotate_left
    · omega
    obtain ⟨s, hs⟩ : ∃ s, l[k]? = some s := ⟨_, List.getElem?_eq_getElem hlt⟩
    have hg : (strE l).getD k [] = [.str s] := strE_get hs
    have hsD : l.getD k [] = s := by simp [List.getD, hs]
    have hsl := hlb s (List.mem_of_getElem? hs)
    have hst : paK l (k + 1) = paS (paK l k) s := by rw [paK, hsD]
    have hpl := paK_len l k
    have hcb := paK_lines l k
    have hnx1 := fun b L => hnx b (k + 1) L (by omega)
    have hiv : ∀ b, (paK l (k + 1)).2 = b → ([.p (.str t), .any, .any, .row (.l 3), .p (.bool b), .any, .any, .any, .p (.sl 1 (strE l)), .p (int (l.length : Nat)), .p (int (k + 1 : Nat)), .any, .any, .any, .any, .any, .any, .any, .any, .any, .any, .any, .any, .any, .any, .any, .any, .any, .any, .any, .any, .any, .any, .any, .any, .any, .any, .any] : List AV) = [.p (.str t), .any, .any, .row (.l 3), .p (.bool (paK l (k + 1)).2), .any, .any, .any, .p (.sl 1 (strE l)), .p (int (l.length : Nat)), .p (int (k + 1 : Nat)), .any, .any, .any, .any, .any, .any, .any, .any, .any, .any, .any, .any, .any, .any, .any, .any, .any, .any, .any, .any, .any, .any, .any, .any, .any, .any, .any] := fun b e => by rw [e]
    generalize hP : paK l k = P0 at *
    obtain ⟨T, op⟩ := P0
    simp only at hj hpl hcb
    simp only [ZZ, YY, Ze, ite_true, ite_false, forall_const, reduceCtorEq, Nat.reduceAdd, Nat.reduceMul, Nat.reduceLeDiff, Nat.reduceLT, Nat.reduceEqDiff, hg, strE_len]
    ((repeat' (with_reducible apply And.intro)) <;> try ((first | first | assumption | trivial | exact (fun hq => by rw [hq]; rfl) | exact i64_of (by omega) (by omega) | omega | (simp; done) | (simp; omega) | (intro hsc; have hs0 := hsc; (try have hsd := of_decide_eq_true hsc); (try simp only [Bool.not_eq_true', Bool.or_eq_false_iff, Bool.and_eq_true, Bool.or_eq_true, decide_eq_true_eq, decide_eq_false_iff_not] at hsc); (repeat' (with_reducible apply And.intro)) <;> (first | assumption | trivial | exact (fun hq => by rw [hq]; rfl) | exact i64_of (by omega) (by omega) | omega | (simp; done) | (simp; omega) | (intro hse; simp [hse, hs0]; done) | (intro hse; simp only [hse, hs0, Bool.true_and, Bool.and_true, Bool.not_false, Bool.not_true, Bool.and_self]; done))))))
    refine use1 (squeezed_ok s (by omega)) rfl (.inl rfl) ?_
    simp only [ZZ, YY, Ze, ite_true, ite_false, forall_const, reduceCtorEq, Nat.reduceAdd, Nat.reduceMul, Nat.reduceLeDiff, Nat.reduceLT, Nat.reduceEqDiff]
    rw [blank_sq]
    refine br ?_ ?_
    · intro hb
      have hn : paK l (k + 1) = (T, false) := by rw [hst, paS, if_pos hb]
      rw [hn] at hnx1
      obtain ⟨L1, r1, h1⟩ := par_close (E := E0) (fr := [.p (.str t), .any, .any, .row (.l 3), .p (.bool false), .any, .any, .any, .p (.sl 1 (strE l)), .p (int (l.length : Nat)), .p (int (k + 1 : Nat)), .any, .any, .any, .any, .any, .any, .any, .any, .any, .any, .any, .any, .any, .any, .any, .any, .any, .any, .any, .any, .any, .any, .any, .any, .any, .any, .any]) (by
        intro y
        have e1 : (Key.l 3 = .l 1000) = False := by simp
        simp only [List.map_cons, List.map_nil, AV.thaw, e1, if_false]) hj
      obtain ⟨L2, r2, h2⟩ := hnx1 false L1 h1
      simp only [ZZ, YY, Ze, ite_true, ite_false, forall_const, reduceCtorEq, Nat.reduceAdd, Nat.reduceMul, Nat.reduceLeDiff, Nat.reduceLT, Nat.reduceEqDiff]
      refine cut_re _ _ ReOk.refl ?_
      simp only [ZZ, YY, Ze, ite_true, ite_false, forall_const, reduceCtorEq, Nat.reduceAdd, Nat.reduceMul, Nat.reduceLeDiff, Nat.reduceLT, Nat.reduceEqDiff]
      ((repeat' (with_reducible apply And.intro)) <;> try ((first | first | assumption | trivial | exact (fun hq => by rw [hq]; rfl) | exact i64_of (by omega) (by omega) | omega | (simp; done) | (simp; omega) | (intro hsc; have hs0 := hsc; (try have hsd := of_decide_eq_true hsc); (try simp only [Bool.not_eq_true', Bool.or_eq_false_iff, Bool.and_eq_true, Bool.or_eq_true, decide_eq_true_eq, decide_eq_false_iff_not] at hsc); (repeat' (with_reducible apply And.intro)) <;> (first | assumption | trivial | exact (fun hq => by rw [hq]; rfl) | exact i64_of (by omega) (by omega) | omega | (simp; done) | (simp; omega) | (intro hse; simp [hse, hs0]; done) | (intro hse; simp only [hse, hs0, Bool.true_and, Bool.and_true, Bool.not_false, Bool.not_true, Bool.and_self]; done))))))
      refine end_re (l.length - (k + 1)) [.p (.str t), .any, .any, .row (.l 3), .p (.bool false), .any, .any, .any, .p (.sl 1 (strE l)), .p (int (l.length : Nat)), .p (int (k + 1 : Nat)), .any, .any, .any, .any, .any, .any, .any, .any, .any, .any, .any, .any, .any, .any, .any, .any, .any, .any, .any, .any, .any, .any, .any, .any, .any, .any, .any] L2 (by omega) (ReOk.trans (re_le (by simp only [ZZ, YY, Ze, ite_true, ite_false, forall_const, reduceCtorEq, Nat.reduceAdd, Nat.reduceMul, Nat.reduceLeDiff, Nat.reduceLT, Nat.reduceEqDiff]; try trivial)) (ReOk.trans r1 r2)) ⟨k + 1, by omega, rfl, hiv false (by rw [hn]), h2⟩
    intro hb
    cases op
    · have hn : paK l (k + 1) = (T ++ [[s]], true) := by rw [hst, paS, if_neg (by rw [hb]; simp)]; rfl
      rw [hn] at hnx1
      unfold ParI at hj
      rw [if_neg (by simp)] at hj
      have hTl : T.length ≤ 1000001 := by have := hpl.1; omega
      have hix : (((T.length + 1 : Nat) : Int) - 1) = (T.length : Nat) := by omega
      simp only [ZZ, YY, Ze, ite_true, ite_false, forall_const, reduceCtorEq, Nat.reduceAdd, Nat.reduceMul, Nat.reduceLeDiff, Nat.reduceLT, Nat.reduceEqDiff, look_updL, look_putO, look_killO, hj, tbA_kill, tbA_len, List.map_append, List.length_append]
      ((repeat' (with_reducible apply And.intro)) <;> try ((first | first | assumption | trivial | exact (fun hq => by rw [hq]; rfl) | exact i64_of (by omega) (by omega) | omega | (simp; done) | (simp; omega) | (intro hsc; have hs0 := hsc; (try have hsd := of_decide_eq_true hsc); (try simp only [Bool.not_eq_true', Bool.or_eq_false_iff, Bool.and_eq_true, Bool.or_eq_true, decide_eq_true_eq, decide_eq_false_iff_not] at hsc); (repeat' (with_reducible apply And.intro)) <;> (first | assumption | trivial | exact (fun hq => by rw [hq]; rfl) | exact i64_of (by omega) (by omega) | omega | (simp; done) | (simp; omega) | (intro hse; simp [hse, hs0]; done) | (intro hse; simp only [hse, hs0, Bool.true_and, Bool.and_true, Bool.not_false, Bool.not_true, Bool.and_self]; done))))))
      refine cut_re _ _ ReOk.refl ?_
      have hlT : ((tbE T).map (·.map AV.p) ++ [[AV.p (PV.nl 1)]]).length = T.length + 1 := by rw [List.length_append, tbA_len]; rfl
      simp only [ZZ, YY, Ze, ite_true, ite_false, forall_const, reduceCtorEq, Nat.reduceAdd, Nat.reduceMul, Nat.reduceLeDiff, Nat.reduceLT, Nat.reduceEqDiff, look_updL, look_putO, look_killO, hj, tbA_kill, tbA_killN, hlT, hix, tbA_last, tbA_setl]
      ((repeat' (with_reducible apply And.intro)) <;> try ((first | first | assumption | trivial | exact (fun hq => by rw [hq]; rfl) | exact i64_of (by omega) (by omega) | omega | (simp; done) | (simp; omega) | (intro hsc; have hs0 := hsc; (try have hsd := of_decide_eq_true hsc); (try simp only [Bool.not_eq_true', Bool.or_eq_false_iff, Bool.and_eq_true, Bool.or_eq_true, decide_eq_true_eq, decide_eq_false_iff_not] at hsc); (repeat' (with_reducible apply And.intro)) <;> (first | assumption | trivial | exact (fun hq => by rw [hq]; rfl) | exact i64_of (by omega) (by omega) | omega | (simp; done) | (simp; omega) | (intro hse; simp [hse, hs0]; done) | (intro hse; simp only [hse, hs0, Bool.true_and, Bool.and_true, Bool.not_false, Bool.not_true, Bool.and_self]; done))))))
      generalize hLL : Zat (Zat _ (Key.l 34) _) (Key.l 3) _ = LL
      have hst1 : ([[PV.str s]] : List (List PV)) = strE [s] := rfl
      obtain ⟨L2, r2, h2⟩ := hnx1 true (mapO (r1 34 1000) LL) (by
        unfold ParI
        rw [if_pos rfl]
        refine ⟨T, [s], rfl, ?_, ?_⟩
        · rw [← hLL, look_ren1, if_neg (by simp), if_neg (by simp), look_putO, if_pos rfl]
          simp only [Option.map_some, AO.ren]
          exact congrArg (fun c => some (AO.rowv c tStrsR 1)) (tbA_ren T)
        · rw [← hLL, look_ren1, if_pos rfl, look_putO, if_neg (by simp), look_putO, if_pos rfl]
          rfl)
      refine cut_re _ _ ReOk.refl ?_
      simp only [ZZ, YY, Ze, ite_true, ite_false, forall_const, reduceCtorEq, Nat.reduceAdd, Nat.reduceMul, Nat.reduceLeDiff, Nat.reduceLT, Nat.reduceEqDiff]
      ((repeat' (with_reducible apply And.intro)) <;> try ((first | first | assumption | trivial | exact (fun hq => by rw [hq]; rfl) | exact i64_of (by omega) (by omega) | omega | (simp; done) | (simp; omega) | (intro hsc; have hs0 := hsc; (try have hsd := of_decide_eq_true hsc); (try simp only [Bool.not_eq_true', Bool.or_eq_false_iff, Bool.and_eq_true, Bool.or_eq_true, decide_eq_true_eq, decide_eq_false_iff_not] at hsc); (repeat' (with_reducible apply And.intro)) <;> (first | assumption | trivial | exact (fun hq => by rw [hq]; rfl) | exact i64_of (by omega) (by omega) | omega | (simp; done) | (simp; omega) | (intro hse; simp [hse, hs0]; done) | (intro hse; simp only [hse, hs0, Bool.true_and, Bool.and_true, Bool.not_false, Bool.not_true, Bool.and_self]; done))))))
      refine end_re (l.length - (k + 1)) [.p (.str t), .any, .any, .row (.l 3), .p (.bool true), .any, .any, .any, .p (.sl 1 (strE l)), .p (int (l.length : Nat)), .p (int (k + 1 : Nat)), .any, .any, .any, .any, .any, .any, .any, .any, .any, .any, .any, .any, .any, .any, .any, .any, .any, .any, .any, .any, .any, .any, .any, .any, .any, .any, .any] L2 (by omega) (ReOk.trans (re_ren 34 1000) (ReOk.trans (re_le (by simp only [AV.ren, r1, ZZ, YY, Ze, ite_true, ite_false, forall_const, reduceCtorEq, Nat.reduceAdd, Nat.reduceMul, Nat.reduceLeDiff, Nat.reduceLT, Nat.reduceEqDiff]; try trivial)) r2)) ⟨k + 1, by omega, rfl, hiv true (by rw [hn]), h2⟩
    · have hn : paK l (k + 1) = (T.dropLast ++ [T.getLastD [] ++ [s]], true) := by rw [hst, paS, if_neg (by rw [hb]; simp)]; rfl
      rw [hn] at hnx1
      unfold ParI at hj
      rw [if_pos rfl] at hj
      obtain ⟨I, cur, rfl, h1, h2⟩ := hj
      have hIl : I.length ≤ 1000001 := by have := hpl.1; simp at this; omega
      have hlI : ((tbE I).map (·.map AV.p) ++ [[AV.row (Key.l 1000)]]).length = I.length + 1 := by rw [List.length_append, tbA_len]; rfl
      have hix : (((I.length + 1 : Nat) : Int) - 1) = (I.length : Nat) := by omega
      simp only [ZZ, YY, Ze, ite_true, ite_false, forall_const, reduceCtorEq, Nat.reduceAdd, Nat.reduceMul, Nat.reduceLeDiff, Nat.reduceLT, Nat.reduceEqDiff]
      refine cut_re _ _ ReOk.refl ?_
      have hlA : ((tbE I).map (·.map AV.p) ++ [[AV.any]]).length = I.length + 1 := by rw [List.length_append, tbA_len]; rfl
      have hcl : cur.length ≤ 10000000 := by
        have := hcb cur (by simp)
        omega
      simp only [ZZ, YY, Ze, ite_true, ite_false, forall_const, reduceCtorEq, Nat.reduceAdd, Nat.reduceMul, Nat.reduceLeDiff, Nat.reduceLT, Nat.reduceEqDiff, look_updL, look_putO, look_killO, h1, h2, hlI, hlA, hix, tbA_last, tbA_setl, tbA_kill, tbA_killR, strE_len]
      ((repeat' (with_reducible apply And.intro)) <;> try ((first | first | assumption | trivial | exact (fun hq => by rw [hq]; rfl) | exact i64_of (by omega) (by omega) | omega | (simp; done) | (simp; omega) | (intro hsc; have hs0 := hsc; (try have hsd := of_decide_eq_true hsc); (try simp only [Bool.not_eq_true', Bool.or_eq_false_iff, Bool.and_eq_true, Bool.or_eq_true, decide_eq_true_eq, decide_eq_false_iff_not] at hsc); (repeat' (with_reducible apply And.intro)) <;> (first | assumption | trivial | exact (fun hq => by rw [hq]; rfl) | exact i64_of (by omega) (by omega) | omega | (simp; done) | (simp; omega) | (intro hse; simp [hse, hs0]; done) | (intro hse; simp only [hse, hs0, Bool.true_and, Bool.and_true, Bool.not_false, Bool.not_true, Bool.and_self]; done))))))
      generalize hLL : Zat (Zat _ (Key.l 1000) _) (Key.l 3) _ = LL
      obtain ⟨L2, r2, h2'⟩ := hnx1 true LL (by
        unfold ParI
        rw [if_pos rfl]
        refine ⟨I, cur ++ [s], by simp, ?_, ?_⟩
        · rw [← hLL, look_putO, if_pos rfl]
        · rw [← hLL, look_putO, if_neg (by simp), look_putO, if_pos rfl, strE_app]
          rfl)
      refine cut_re _ _ ReOk.refl ?_
      simp only [ZZ, YY, Ze, ite_true, ite_false, forall_const, reduceCtorEq, Nat.reduceAdd, Nat.reduceMul, Nat.reduceLeDiff, Nat.reduceLT, Nat.reduceEqDiff]
      ((repeat' (with_reducible apply And.intro)) <;> try ((first | first | assumption | trivial | exact (fun hq => by rw [hq]; rfl) | exact i64_of (by omega) (by omega) | omega | (simp; done) | (simp; omega) | (intro hsc; have hs0 := hsc; (try have hsd := of_decide_eq_true hsc); (try simp only [Bool.not_eq_true', Bool.or_eq_false_iff, Bool.and_eq_true, Bool.or_eq_true, decide_eq_true_eq, decide_eq_false_iff_not] at hsc); (repeat' (with_reducible apply And.intro)) <;> (first | assumption | trivial | exact (fun hq => by rw [hq]; rfl) | exact i64_of (by omega) (by omega) | omega | (simp; done) | (simp; omega) | (intro hse; simp [hse, hs0]; done) | (intro hse; simp only [hse, hs0, Bool.true_and, Bool.and_true, Bool.not_false, Bool.not_true, Bool.and_self]; done))))))
      refine end_re (l.length - (k + 1)) [.p (.str t), .any, .any, .row (.l 3), .p (.bool true), .any, .any, .any, .p (.sl 1 (strE l)), .p (int (l.length : Nat)), .p (int (k + 1 : Nat)), .any, .any, .any, .any, .any, .any, .any, .any, .any, .any, .any, .any, .any, .any, .any, .any, .any, .any, .any, .any, .any, .any, .any, .any, .any, .any, .any] L2 (by omega) (ReOk.trans (re_le (by simp only [ZZ, YY, Ze, ite_true, ite_false, forall_const, reduceCtorEq, Nat.reduceAdd, Nat.reduceMul, Nat.reduceLeDiff, Nat.reduceLT, Nat.reduceEqDiff]; try trivial)) r2) ⟨k + 1, by omega, rfl, hiv true (by rw [hn]), h2'⟩
  · intro h
    have hge : k = l.length := by have := of_decide_eq_false h; omega
    rcases hj with ⟨e, _⟩ | ⟨_, hO⟩
    · omega
    subst hge
    simp only [ZZ, YY, Ze, ite_true, ite_false, forall_const, reduceCtorEq, Nat.reduceAdd, Nat.reduceMul, Nat.reduceLeDiff, Nat.reduceLT, Nat.reduceEqDiff]
    exact fin_F 3 _ rfl hO rfl
end Go.Proofs.YthfpehmbellmcaaGreatDoor

/- The keys of a map, sorted: slices.Sorted of maps.Keys, out of the library's contracts. -/
namespace Go.Proofs.YthfpehmbellmcaaGreatDoor
open Go.Shelf Go.RowKit Go.Lib Go.Sort Go.Maps Go.MapKept
open Go.WideElems (Fit rd rg pl rd_val)
set_option linter.unusedVariables false
set_option linter.unusedSimpArgs false
set_option linter.defProp false

/-- How a value reads, when nobody asks. -/
def Rz : Value → Option (DataW Unit × List MemPlace) := fun _ => some (.nil, [])
theorem ins_perm (x : Lit × DataW Unit) : ∀ l, (DataW.insert x l).Perm (x :: l)
  | [] => List.Perm.refl _
  | y :: r => by
    rw [DataW.insert]
    split
    · exact List.Perm.refl _
    · exact ((ins_perm x r).cons y).trans (List.Perm.swap x y r)
theorem fold_perm : ∀ l : List (Lit × DataW Unit), (l.foldr DataW.insert []).Perm l
  | [] => List.Perm.refl _
  | x :: r => (ins_perm x _).trans ((fold_perm r).cons x)
theorem keys_own {w : World} {b : Nat} {ks : List (List UInt8)} {ents : Array MapEntry} {clock : Nat} (hb : w.heap[b]? = some (.map ents clock)) (hm : MapOk ks ents clock) (hk : ∀ k ∈ ks, k.length ≤ maxLen) (hn : ks.length ≤ maxLen) :
    ∃ D : DataW Unit, w.ownsMap Tryz.prog 9 Rz b ks.length D ∧ (strKeys D).Perm ks ∧ Maps.size D = ks.length := by
  obtain ⟨h1, h2⟩ := hm
  have hsz : ents.size = ks.length := by
    have := congrArg List.length h1
    simpa using this
  have hkey : ∀ x ∈ ents.toList, ∃ s ∈ ks, x.key = .string ⟨s.toArray⟩ := by
    intro x hx
    have : x.key ∈ ents.toList.map (·.key) := List.mem_map_of_mem hx
    rw [h1] at this
    obtain ⟨s, hs, e⟩ := List.mem_map.1 this
    exact ⟨s, hs, e.symm⟩
  have hrd : ∀ x ∈ ents.toList, ∀ s ∈ ks, x.key = .string ⟨s.toArray⟩ → WideElems.rd (H := Unit) Tryz.prog 9 Rz x = some (Lit.string s, DataW.nil) := by
    intro x hx s hs e
    have := WideMaps.keyOf_string_mk (P := Tryz.prog) (k := 9) (s := ⟨s.toArray⟩) Tryz.underlying9 (by have := hk s hs; simpa [ByteArray.size] using this)
    simp only [WideElems.rd, e, this, Rz, Option.bind_some, Option.map_some]
  refine ⟨_, ⟨ents, clock, hb, ⟨by omega, h2, fun x hx => ?_⟩, by omega, rfl⟩, ?_, ?_⟩
  · obtain ⟨s, hs, e⟩ := hkey x hx
    exact ⟨_, hrd x hx s hs e⟩
  · simp only [strKeys]
    refine ((fold_perm _).map _).trans ?_
    rw [List.map_map]
    have : ∀ (es : List MapEntry) (ks' : List (List UInt8)), (∀ x ∈ es, x ∈ ents.toList) → (∀ k ∈ ks', k ∈ ks) → es.map (·.key) = ks'.map (fun s => Value.string ⟨s.toArray⟩) → es.map ((fun p : Lit × DataW Unit => strOf p.1) ∘ rg Tryz.prog 9 Rz) = ks' := by
      intro es
      induction es with
      | nil => intro ks' _ _ h; cases ks' with | nil => rfl | cons k r => simp at h
      | cons x r ih =>
        intro ks' h1 h2 h
        cases ks' with
        | nil => simp at h
        | cons k r' =>
          simp only [List.map_cons, List.cons.injEq] at h
          have e := hrd x (h1 x (by simp)) k (h2 k (by simp)) h.1
          rw [List.map_cons, ih r' (fun y hy => h1 y (by simp [hy])) (fun y hy => h2 y (by simp [hy])) h.2]
          simp only [Function.comp_apply, rg, e, Option.getD_some, strOf]
    exact List.Perm.of_eq (this ents.toList ks (fun _ h => h) (fun _ h => h) h1)
  · rw [Maps.size_eq, (fold_perm _).length_eq, List.length_map]
    simpa using hsz
set_option maxRecDepth 100000 in
theorem Sorted_keys {E : Envt} (ks : List (List UInt8)) (vs0 : List PV) (hn : ks.length ≤ 100000000) (hk : ∀ k ∈ ks, k.length ≤ 1000000000) :
    PCall Tryz.prog E 61 [.clo 114 [.ptr [.mpv ks vs0]]] (· = .sl 1 (strE (ks.mergeSort fun x y => decide (x ≤ y)))) := by
  intro w U vs hU hE hEb hA
  simp only [PRepL, PRep, PRepC] at hA
  obtain ⟨v, r, rfl, ⟨cs, rfl, vp, rp, rfl, ⟨Bm, rfl, hBm, hUm, ⟨vm, hcm, _, b, rfl, hbl, hUb, ents, clock, hb, hm, hv⟩, _⟩, rfl⟩, rfl⟩ := hA
  obtain ⟨D, hown, hperm, hsize⟩ := keys_own hb hm (fun k h => by have := hk k h; unfold maxLen; omega) (by unfold maxLen; omega)
  have hfk : fnB Tryz.prog 114 = true := by kernel_rfl
  have hfs : fnB Tryz.prog 113 = true := by kernel_rfl
  have hseq := AnyZ.keys_gives Tryz.layKeysIt Fence.wide (6 - 1 - 1 - 1) trivial rfl (by decide) Bm b ks.length D w hBm hcm hown
  have hsort : AnyZ.SortsIn Tryz.prog Tryz.laySorted_ren Fence.wide (6 - 1) := ⟨fun blk off cap ss W hH hblk hsz => callsIn_wide.2 (AnyM.slices_Sort_string Tryz.laySort blk off cap ss W hH hblk hsz), fun p cap W => callsIn_wide.2 (AnyM.slices_Sort_string_none Tryz.laySort p cap W)⟩
  have hc := callsIn_wide.1 (AnyZ.sorted_in Tryz.laySorted Fence.wide 6 trivial trivial trivial trivial rfl (by decide) hsort (fun args w => run_enter hfs args w) 114 #[.pointer (some ⟨Bm, 0, none⟩)] trivial (fun args w => run_enter hfk args w) _ (Maps.size D) (by rw [hsize]; unfold maxLen; omega) (by rw [hsize]; omega) w hseq)
  refine hc.mono ?_
  rintro e w' ⟨v, ss, rfl, hS, hrow, hnil, hbw⟩
  have hms : (ss.mergeSort fun x y => decide (x ≤ y)) = ks.mergeSort fun x y => decide (x ≤ y) := mergeSort_of_perm (hS.trans hperm)
  have hsl : ss.length = ks.length := (hS.trans hperm).length_eq
  rw [hms] at hrow
  refine ⟨v, _, rfl, rfl, ?_, grow_below hbw⟩
  have hml : (ks.mergeSort fun x y => decide (x ≤ y)).length = ss.length := by rw [List.length_mergeSort, hsl]
  generalize (ks.mergeSort fun x y => decide (x ≤ y)) = m at *
  rcases hrow.2 with ⟨rfl, hz⟩ | ⟨g, cap, cur, rfl, hbase, hg, hn1, hc1, hcs, htk⟩
  · have : m = [] := List.eq_nil_of_length_eq_zero (by omega)
    subst this
    exact ⟨none, 0, rfl, by simp [strE], fun h => absurd rfl h⟩
  · refine ⟨some ⟨g, 0, none⟩, cap, by rw [strE_len, hml], by rw [strE_len, hml]; exact hn1, fun _ => ⟨g, 0, rfl, (Array.getElem?_eq_some_iff.1 hg).1, fun h => by have := hU g h; omega, ?_⟩⟩
    refine repE_sE m 0 fun i u hu => ?_
    have := hrow.cells (g := g) rfl i u hu
    rw [Nat.zero_add]
    rwa [show ({ block := g, off := 0, spot := none } : Addr).add i = ⟨g, i, none⟩ from by cases i <;> simp [Addr.add]] at this
theorem Keys_ok {E : Envt} (ks : List (List UInt8)) (vs0 : List PV) : PCall Tryz.prog E 62 [.mpv ks vs0] (· = .clo 114 [.ptr [.mpv ks vs0]]) := by
  intro w U vs hU hE hEb hA
  simp only [PRepL, PRep] at hA
  obtain ⟨v, r, rfl, ⟨b, rfl, hbl, hUb, ents, clock, hb, hm, hv⟩, rfl⟩ := hA
  have hc := callsIn_wide.1 (AnyZ.keys_in Tryz.layKeys Fence.wide 6 trivial rfl (some b) w)
  refine hc.mono ?_
  rintro e w' ⟨rfl, rfl⟩
  have hk : Keeps w (w.alloc (.cells #[.map (some b)] (Tryz.layKeys_ren.t 23))) U U := keeps_alloc w U _
  refine ⟨_, _, rfl, rfl, ?_, grow_alloc w _ _⟩
  refine ⟨[.pointer (some ⟨w.heap.size, 0, none⟩)], rfl, _, _, rfl, ⟨w.heap.size, rfl, by simp, fun h => by have := hU _ h; omega, ⟨.map (some b), ?_, rfl, ?_⟩, trivial⟩, rfl⟩
  · rw [Lib.cell_of_heap (heap_alloc_new w _)]
    rfl
  · exact PRep.mono hk (.mpv ks vs0) _ ⟨b, rfl, hbl, hUb, ents, clock, hb, hm, hv⟩
end Go.Proofs.YthfpehmbellmcaaGreatDoor

/- Keys of tables, and whether strings differ. -/
namespace Go.Proofs.YthfpehmbellmcaaGreatDoor
open Go.RowKit
set_option linter.unusedVariables false
set_option linter.unusedSimpArgs false
set_option linter.defProp false

/- paperchase/chaseref1.sorted -/
def ir_chaseref1_sorted : IC :=
  (.seq (.reg [⟨some 2, .mov (.c (.nl 1)), none⟩])
    (.seq (.reg [⟨some 4, .mov (.t 0), none⟩,
      ⟨some 5, .call 37 [.t 4], none⟩,
      ⟨some 3, .mov (.t 5), none⟩])
    (.seq (.reg [⟨some 6, .mov (.t 3), none⟩,
      ⟨some 7, .call 113 [.t 6], none⟩])
    (.seq (.reg [⟨some 8, .mov (.t 3), none⟩,
      ⟨some 9, .call 119 [.t 8], none⟩,
      ⟨some 2, .mov (.t 9), none⟩])
    .ret))))
def rs_chaseref1_sorted : List IRes := [.t 2]
theorem ck_chaseref1_sorted : chkF Tryz.prog Tryz.f66 ir_chaseref1_sorted rs_chaseref1_sorted 10 = true := by kernel_rfl

def sortF (l : SRow) : SRow := Lib.compact (l.mergeSort fun x y => decide (x ≤ y))
theorem sorted_ok {E : Envt} (l : SRow) (hl : l.length ≤ 1000000) : PCall Tryz.prog E 66 [.sl 1 (strE l)] (· = .sl 1 (strE (sortF l))) := by
  refine pcallF mixed Tryz.func66 ck_chaseref1_sorted ?_
  simp only [a0, l0, OS.ao, List.map_cons, List.map_nil, List.length_cons, List.length_nil, List.cons_append, List.nil_append, Nat.reduceSub, Nat.reduceAdd, List.replicate_succ, List.replicate_zero, ir_chaseref1_sorted, rs_chaseref1_sorted, ZZ, YY, Ze, ite_true, ite_false, forall_const, reduceCtorEq, Nat.reduceAdd, Nat.reduceMul, Nat.reduceLeDiff, Nat.reduceLT, Nat.reduceEqDiff]
  refine useF (CloneS_ok (strE l) (by rw [strE_len]; omega)) rfl rfl ?_
  rintro es rfl
  simp only [ZZ, YY, Ze, ite_true, ite_false, forall_const, reduceCtorEq, Nat.reduceAdd, Nat.reduceMul, Nat.reduceLeDiff, Nat.reduceLT, Nat.reduceEqDiff]
  refine useR (sortS_row tStr l (by omega)) rfl rfl rfl (by simp only [ZZ, YY, Ze, ite_true, ite_false, forall_const, reduceCtorEq, Nat.reduceAdd, Nat.reduceMul, Nat.reduceLeDiff, Nat.reduceLT, Nat.reduceEqDiff]) ?_
  rintro x es ⟨rfl, rfl⟩
  simp only [ZZ, YY, Ze, ite_true, ite_false, forall_const, reduceCtorEq, Nat.reduceAdd, Nat.reduceMul, Nat.reduceLeDiff, Nat.reduceLT, Nat.reduceEqDiff]
  refine useComp 1000 (l.mergeSort fun x y => decide (x ≤ y)) (by rw [List.length_mergeSort]; omega) rfl ?_
  simp only [ZZ, YY, Ze, ite_true, ite_false, forall_const, reduceCtorEq, Nat.reduceAdd, Nat.reduceMul, Nat.reduceLeDiff, Nat.reduceLT, Nat.reduceEqDiff]
  rfl
theorem le_trS {a b c : List UInt8} (h1 : a ≤ b) (h2 : b ≤ c) : a ≤ c := List.le_trans h1 h2
theorem le_asS {a b : List UInt8} (h1 : a ≤ b) (h2 : b ≤ a) : a = b := List.le_antisymm h1 h2
theorem srt_pw (l : SRow) : (l.mergeSort fun x y => decide (x ≤ y)).Pairwise (fun x y => x ≤ y) := by
  have := List.pairwise_mergeSort (le := fun x y : List UInt8 => decide (x ≤ y)) (fun a b c h1 h2 => by simp only [decide_eq_true_eq] at *; exact le_trS h1 h2) (fun a b => by simp only [Bool.or_eq_true, decide_eq_true_eq]; exact List.le_total a b) l
  exact this.imp fun h => of_decide_eq_true h
end Go.Proofs.YthfpehmbellmcaaGreatDoor

/- Distances and changes, on both sides. -/
namespace Go.Proofs.YthfpehmbellmcaaGreatDoor
open Go.RowKit
set_option linter.unusedVariables false
set_option linter.unusedSimpArgs false
set_option linter.defProp false

end Go.Proofs.YthfpehmbellmcaaGreatDoor

/- The changes on the paper's side, and the marked texts on both sides. -/
namespace Go.Proofs.YthfpehmbellmcaaGreatDoor
open Go.RowKit
set_option linter.unusedVariables false
set_option linter.unusedSimpArgs false
set_option linter.defProp false


end Go.Proofs.YthfpehmbellmcaaGreatDoor

/- The same changes: told of equal lists. -/
namespace Go.Proofs.YthfpehmbellmcaaGreatDoor
open Go.RowKit
set_option linter.unusedVariables false
set_option linter.unusedSimpArgs false
set_option linter.defProp false

end Go.Proofs.YthfpehmbellmcaaGreatDoor

/- Shingles. -/
namespace Go.Proofs.YthfpehmbellmcaaGreatDoor
open Go.RowKit
set_option linter.unusedVariables false
set_option linter.unusedSimpArgs false
set_option linter.defProp false

/- paperchase/near.shingles -/
def ir_near_shingles_L0 : IC :=
  (.seq (.reg [⟨some 23, .bin .lss (.t 22) (.t 21), none⟩])
    (.seq (.cond (.t 23) .skip (.exit 0))
    (.seq (.block 1 (.seq (.reg [⟨some 24, .mov (.t 22), none⟩,
      ⟨some 7, .mov (.t 24), none⟩])
    (.reg [⟨some 25, .mov (.t 6), none⟩,
      ⟨some 26, .mov (.t 5), none⟩,
      ⟨some 27, .mov (.t 7), none⟩,
      ⟨some 28, .mov (.t 7), none⟩,
      ⟨some 29, .mov (.t 1), none⟩,
      ⟨some 30, .bin .add (.t 28) (.t 29), none⟩,
      ⟨some 31, .vsl 1 (.t 26) (some (.t 27)) (some (.t 30)), none⟩,
      ⟨some 32, .call 69 [.t 31, .c (.str [32])], none⟩,
      ⟨some 33, .bsl 1 [.t 32], none⟩,
      ⟨some 34, .app 9 1 16 (.t 25) (.t 33), none⟩,
      ⟨some 6, .mov (.t 34), none⟩])))
    (.reg [⟨some 35, .bin .add (.t 22) (.c (.int .i64 1)), none⟩,
      ⟨some 22, .mov (.t 35), none⟩]))))
def ir_near_shingles : IC :=
  (.seq (.reg [⟨some 4, .mov (.c (.nl 1)), none⟩])
    (.seq (.reg [⟨some 8, .mov (.t 0), none⟩,
      ⟨some 9, .call 111 [.t 8], none⟩,
      ⟨some 5, .mov (.t 9), none⟩])
    (.seq (.seq (.reg [⟨some 10, .mov (.t 5), none⟩,
      ⟨some 11, .len (.t 10), none⟩,
      ⟨some 12, .bin .eql (.t 11) (.c (.int .i64 0)), none⟩])
    (.cond (.t 12) (.seq (.reg [⟨some 4, .mov (.c (.nl 1)), none⟩])
    .ret) .skip))
    (.seq (.reg [⟨some 13, .mov (.t 1), none⟩,
      ⟨some 14, .mov (.t 5), none⟩,
      ⟨some 15, .len (.t 14), none⟩,
      ⟨some 16, .mn (.t 13) (.t 15), none⟩,
      ⟨some 1, .mov (.t 16), none⟩])
    (.seq (.reg [⟨some 6, .nilr 9 1, none⟩])
    (.seq (.seq (.reg [⟨some 17, .mov (.t 5), none⟩,
      ⟨some 18, .len (.t 17), none⟩,
      ⟨some 19, .mov (.t 1), none⟩,
      ⟨some 20, .bin .sub (.t 18) (.t 19), none⟩,
      ⟨some 21, .bin .add (.t 20) (.c (.int .i64 1)), none⟩,
      ⟨some 22, .mov (.c (.int .i64 0)), none⟩])
    (.block 0 (.loop ir_near_shingles_L0)))
    (.seq (.reg [⟨some 36, .mov (.t 6), none⟩,
      ⟨some 37, .call 113 [.t 36], none⟩])
    (.seq (.reg [⟨some 38, .mov (.t 6), none⟩,
      ⟨some 39, .call 119 [.t 38], none⟩,
      ⟨some 4, .mov (.t 39), none⟩])
    .ret))))))))
def rs_near_shingles : List IRes := [.t 4]
theorem ck_near_shingles : chkF Tryz.prog Tryz.f109 ir_near_shingles rs_near_shingles 40 = true := by kernel_rfl
/- paperchase/near.kError -/
def ir_near_kError : IC :=
  (.seq (.reg [⟨some 2, .mov (.c (.int .i64 0)), none⟩])
    (.seq (.reg [⟨some 3, .mov (.t 0), none⟩,
      ⟨some 4, .call 58 [.t 3, .c (.int .i64 1), .c (.int .i64 10)], none⟩,
      ⟨some 5, .not (.t 4), none⟩,
      ⟨some 6, .call 57 [.t 5, .c (.int .i64 1)], none⟩,
      ⟨some 2, .mov (.t 6), none⟩])
    .ret))
def rs_near_kError : List IRes := [.t 2]
theorem ck_near_kError : chkF Tryz.prog Tryz.f108 ir_near_kError rs_near_kError 7 = true := by kernel_rfl
/- paperchase/near.Shingles -/
def ir_near_Shingles : IC :=
  (.seq (.reg [⟨some 4, .mov (.c (.nl 1)), none⟩,
      ⟨some 5, .mov (.c (.int .i64 0)), none⟩])
    (.seq (.seq (.reg [⟨some 7, .mov (.t 0), none⟩,
      ⟨some 8, .call 67 [.t 7], none⟩,
      ⟨some 9, .mov (.t 1), none⟩,
      ⟨some 10, .call 108 [.t 9], none⟩,
      ⟨some 11, .bsl 1 [.t 8, .t 10], none⟩,
      ⟨some 12, .call 55 [.t 11], none⟩,
      ⟨some 6, .mov (.t 12), none⟩])
    (.seq (.reg [⟨some 13, .mov (.t 6), none⟩,
      ⟨some 14, .bin .neq (.t 13) (.c (.int .i64 0)), none⟩])
    (.cond (.t 14) (.seq (.reg [⟨some 15, .mov (.t 6), none⟩,
      ⟨some 4, .mov (.c (.nl 1)), none⟩,
      ⟨some 5, .mov (.t 15), none⟩])
    .ret) .skip)))
    (.seq (.reg [⟨some 16, .mov (.t 0), none⟩,
      ⟨some 17, .mov (.t 1), none⟩,
      ⟨some 18, .call 109 [.t 16, .t 17], none⟩,
      ⟨some 4, .mov (.t 18), none⟩,
      ⟨some 5, .mov (.c (.int .i64 0)), none⟩])
    .ret)))
def rs_near_Shingles : List IRes := [.t 4, .t 5]
theorem ck_near_Shingles : chkF Tryz.prog Tryz.f52 ir_near_Shingles rs_near_Shingles 19 = true := by kernel_rfl
/- paperchase/chaselaw1.nears -/
def ir_chaselaw1_nears : IC :=
  (.seq (.reg [⟨some 0, .mov (.c (.bool false)), none⟩])
    (.seq (.reg [⟨some 4, .call 52 [.c (.str [97, 32, 98, 32, 99]), .c (.int .i64 2)], none⟩,
      ⟨some 3, .mov (.t 4), none⟩,
      ⟨some 5, .ext 0 (.t 3), none⟩,
      ⟨some 6, .ext 1 (.t 3), none⟩,
      ⟨some 1, .mov (.t 5), none⟩,
      ⟨some 2, .mov (.t 6), none⟩])
    (.seq (.reg [⟨some 7, .mov (.t 2), none⟩,
      ⟨some 8, .bin .eql (.t 7) (.c (.int .i64 0)), none⟩,
      ⟨some 9, .mov (.t 8), none⟩,
      ⟨some 10, .mov (.t 1), (some (9, true))⟩,
      ⟨some 11, .bsl 1 [.c (.str [97, 32, 98]), .c (.str [98, 32, 99])], (some (9, true))⟩,
      ⟨some 12, .call 11 [.t 10, .t 11], (some (9, true))⟩,
      ⟨some 13, .pick (.t 9) (.t 12) (.c (.bool false)), none⟩,
      ⟨some 0, .mov (.t 13), none⟩])
    .ret)))
def rs_chaselaw1_nears : List IRes := [.t 0]
theorem ck_chaselaw1_nears : chkF Tryz.prog Tryz.f21 ir_chaselaw1_nears rs_chaselaw1_nears 14 = true := by kernel_rfl

def jS (l : List (List UInt8)) : List UInt8 := Lib.join l [32]
theorem jS_ok {E : Envt} (l : List (List UInt8)) (hl : l.length ≤ 1000000000) (hlen : (jS l).length ≤ 1000000000) : PCall Tryz.prog E 69 [.sl 1 (strE l), .str [32]] (· = .str (jS l)) := Join_ok l [32] hl hlen
theorem lensS_bd (m : Nat) : ∀ l : List (List UInt8), (∀ x ∈ l, x.length ≤ m) → Lib.lens l ≤ l.length * m
  | [], _ => by simp [Lib.lens]
  | x :: r, h => by
    have := lensS_bd m r (fun y hy => h y (by simp [hy]))
    have := h x (by simp)
    simp only [Lib.lens, List.map_cons, List.sum_cons, List.length_cons, Nat.succ_mul] at *
    omega
theorem jS_bd (l : List (List UInt8)) (m : Nat) (h : ∀ x ∈ l, x.length ≤ m) : (jS l).length ≤ l.length * (m + 1) := by
  cases l with
  | nil => simp [jS, Lib.join_nil]
  | cons x r =>
    have := lensS_bd m (x :: r) h
    rw [jS, Lib.join_length, Nat.mul_add]
    simp only [List.length_cons, List.length_nil] at *
    omega
theorem wordsS_bd (t : List UInt8) : ∀ x ∈ wordsF t, x.length ≤ t.length := by
  intro x hx
  simp only [wordsF, List.mem_map, wordF] at hx
  obtain ⟨p, _, rfl⟩ := hx
  rw [lowF_len]
  exact Sp.part_len t p.1 p.2
theorem wordsS_len (t : List UInt8) : (wordsF t).length ≤ t.length + 1 := by
  have := Sp.spans_len t
  simpa [wordsF] using this
/-- The shingles of m words, as they lie in the text. -/
def shL (w : List (List UInt8)) (m : Nat) : List (List UInt8) := (List.range (w.length + 1 - m)).map fun i => jS ((w.take (i + m)).drop i)
def shF (t : List UInt8) (k : Nat) : List (List UInt8) := if wordsF t = [] then [] else Lib.compact ((shL (wordsF t) (min k (wordsF t).length)).mergeSort fun x y => decide (x ≤ y))
set_option maxHeartbeats 4000000 in
theorem shingles_ok {E : Envt} (t : List UInt8) (k : Nat) (ht : t.length ≤ 20000) (hk1 : 1 ≤ k) (hk2 : k ≤ 10) : PCall Tryz.prog E 109 [.str t, int (k : Nat)] (· = .sl 1 (strE (shF t k))) := by
  refine pcallF mixed Tryz.func109 ck_near_shingles ?_
  simp only [a0, l0, OS.ao, List.map_cons, List.map_nil, List.length_cons, List.length_nil, List.cons_append, List.nil_append, Nat.reduceSub, Nat.reduceAdd, List.replicate_succ, List.replicate_zero, ir_near_shingles, rs_near_shingles, ZZ, YY, Ze, ite_true, ite_false, forall_const, reduceCtorEq, Nat.reduceAdd, Nat.reduceMul, Nat.reduceLeDiff, Nat.reduceLT, Nat.reduceEqDiff]
  refine use1 (Words_ok t (by omega)) rfl (.inl rfl) ?_
  rw [show strs (wordsF t) = .sl 1 (strE (wordsF t)) from rfl]
  have hwl := wordsS_len t
  have hwb := wordsS_bd t
  unfold shF
  generalize wordsF t = w at *
  simp only [ZZ, YY, Ze, ite_true, ite_false, forall_const, reduceCtorEq, Nat.reduceAdd, Nat.reduceMul, Nat.reduceLeDiff, Nat.reduceLT, Nat.reduceEqDiff, strE_len]
  refine br ?_ ?_
  · intro h
    have h0 : w = [] := List.eq_nil_of_length_eq_zero (by have := of_decide_eq_true h; omega)
    simp only [ZZ, YY, Ze, ite_true, ite_false, forall_const, reduceCtorEq, Nat.reduceAdd, Nat.reduceMul, Nat.reduceLeDiff, Nat.reduceLT, Nat.reduceEqDiff]
    rw [if_pos h0]
    rfl
  intro h
  have h0 : w ≠ [] := by rintro rfl; simp at h
  have h1 : 0 < w.length := List.length_pos_iff.2 h0
  rw [if_neg h0]
  obtain ⟨m, hm⟩ : ∃ m, m = min k w.length := ⟨_, rfl⟩
  have hm1 : min (k : Int) (w.length : Nat) = (m : Nat) := by omega
  obtain ⟨cnt, hn⟩ : ∃ cnt, cnt = w.length + 1 - m := ⟨_, rfl⟩
  have hn1 : ((w.length : Nat) : Int) - (m : Nat) + 1 = (cnt : Nat) := by omega
  rw [← hm]
  simp only [ZZ, YY, Ze, ite_true, ite_false, forall_const, reduceCtorEq, Nat.reduceAdd, Nat.reduceMul, Nat.reduceLeDiff, Nat.reduceLT, Nat.reduceEqDiff, strE_len, hm1]
  ((repeat' (with_reducible apply And.intro)) <;> try ((first | first | assumption | trivial | exact (fun hq => by rw [hq]; rfl) | exact i64_of (by omega) (by omega) | omega | (simp; done) | (simp; omega) | (intro hsc; have hs0 := hsc; (try have hsd := of_decide_eq_true hsc); (try simp only [Bool.not_eq_true', Bool.or_eq_false_iff, Bool.and_eq_true, Bool.or_eq_true, decide_eq_true_eq, decide_eq_false_iff_not] at hsc); (repeat' (with_reducible apply And.intro)) <;> (first | assumption | trivial | exact (fun hq => by rw [hq]; rfl) | exact i64_of (by omega) (by omega) | omega | (simp; done) | (simp; omega) | (intro hse; simp [hse, hs0]; done) | (intro hse; simp only [hse, hs0, Bool.true_and, Bool.and_true, Bool.not_false, Bool.not_true, Bool.and_self]; done))))))
  simp only [ZZ, YY, Ze, ite_true, ite_false, forall_const, reduceCtorEq, Nat.reduceAdd, Nat.reduceMul, Nat.reduceLeDiff, Nat.reduceLT, Nat.reduceEqDiff, hn1]
  have hsl : (shL w m).length = cnt := by simp [shL, hn]
  have hsg : ∀ i, i < cnt → (shL w m)[i]? = some (jS ((w.take (i + m)).drop i)) := by
    intro i hi
    rw [shL, ← hn, List.getElem?_map, List.getElem?_range hi]
    rfl
  generalize shL w m = q at *
  refine loop_intro (fun n fr L => ∃ (i : Nat), i ≤ cnt ∧ n = cnt - i ∧ fr = [.p (.str t), .p (int (m : Nat)), .any, .any, .any, .p (.sl 1 (strE w)), .row (.l 6), .any, .any, .any, .any, .any, .any, .any, .any, .any, .any, .any, .any, .any, .any, .p (int (cnt : Nat)), .p (int (i : Nat)), .any, .any, .any, .any, .any, .any, .any, .any, .any, .any, .any, .any, .any, .any, .any, .any, .any] ∧ L = [(.l 6, .row (strE (q.take i)) tStr 1 true)]) (cnt) [.p (.str t), .p (int (m : Nat)), .any, .any, .any, .p (.sl 1 (strE w)), .row (.l 6), .any, .any, .any, .any, .any, .any, .any, .any, .any, .any, .any, .any, .any, .any, .p (int (cnt : Nat)), .p (int (0 : Nat)), .any, .any, .any, .any, .any, .any, .any, .any, .any, .any, .any, .any, .any, .any, .any, .any, .any] [(.l 6, .row (strE (q.take 0)) tStr 1 true)] (by simp only [ZZ, YY, Ze, ite_true, ite_false, forall_const, reduceCtorEq, Nat.reduceAdd, Nat.reduceMul, Nat.reduceLeDiff, Nat.reduceLT, Nat.reduceEqDiff, strE_len]; try trivial) (by (simp only [ZZ, YY, Ze, ite_true, ite_false, forall_const, reduceCtorEq, Nat.reduceAdd, Nat.reduceMul, Nat.reduceLeDiff, Nat.reduceLT, Nat.reduceEqDiff]; try trivial)) ⟨0, by omega, by omega, rfl, rfl⟩ ?_
  rintro n fr L ⟨i, hi, rfl, rfl, rfl⟩
  simp only [ir_near_shingles_L0, ZZ, YY, Ze, ite_true, ite_false, forall_const, reduceCtorEq, Nat.reduceAdd, Nat.reduceMul, Nat.reduceLeDiff, Nat.reduceLT, Nat.reduceEqDiff]
  refine br ?_ ?_
  · intro h
    have hlt : i < cnt := by have := of_decide_eq_true h; omega
    have e1 : ((strE w).take (i + m)).drop i = strE ((w.take (i + m)).drop i) := by rw [strE, strE, ← List.map_take, ← List.map_drop]
    have hq : q.take (i + 1) = q.take i ++ [jS ((w.take (i + m)).drop i)] := by rw [List.take_add_one, hsg i hlt]; rfl
    have hql : (q.take i).length = i := by rw [List.length_take]; omega
    have e3 : ∀ (l : List (List UInt8)) (s : List UInt8), strE l ++ [[PV.str s]] = strE (l ++ [s]) := by intro l s; simp [strE]
    have hpl : ((w.take (i + m)).drop i).length ≤ 10 := by simp; omega
    have hpb := jS_bd ((w.take (i + m)).drop i) t.length (fun x hx => hwb x (List.mem_of_mem_take (List.mem_of_mem_drop hx)))
    have hpm : ((w.take (i + m)).drop i).length * (t.length + 1) ≤ 10 * 20001 := Nat.mul_le_mul hpl (by omega)
    simp only [ZZ, YY, Ze, ite_true, ite_false, forall_const, reduceCtorEq, Nat.reduceAdd, Nat.reduceMul, Nat.reduceLeDiff, Nat.reduceLT, Nat.reduceEqDiff, strE_len]
    ((repeat' (with_reducible apply And.intro)) <;> try ((first | first | assumption | trivial | exact (fun hq => by rw [hq]; rfl) | exact i64_of (by omega) (by omega) | omega | (simp; done) | (simp; omega) | (intro hsc; have hs0 := hsc; (try have hsd := of_decide_eq_true hsc); (try simp only [Bool.not_eq_true', Bool.or_eq_false_iff, Bool.and_eq_true, Bool.or_eq_true, decide_eq_true_eq, decide_eq_false_iff_not] at hsc); (repeat' (with_reducible apply And.intro)) <;> (first | assumption | trivial | exact (fun hq => by rw [hq]; rfl) | exact i64_of (by omega) (by omega) | omega | (simp; done) | (simp; omega) | (intro hse; simp [hse, hs0]; done) | (intro hse; simp only [hse, hs0, Bool.true_and, Bool.and_true, Bool.not_false, Bool.not_true, Bool.and_self]; done))))))
    have e0 : (((i : Nat) : Int) + (m : Nat)).toNat = i + m := by omega
    rw [e0, e1]
    refine use1 (jS_ok _ (by omega) (by omega)) rfl (.inl rfl) ?_
    simp only [ZZ, YY, Ze, ite_true, ite_false, forall_const, reduceCtorEq, Nat.reduceAdd, Nat.reduceMul, Nat.reduceLeDiff, Nat.reduceLT, Nat.reduceEqDiff, strE_len, e3, hql, ← hq]
    ((repeat' (with_reducible apply And.intro)) <;> try ((first | first | assumption | trivial | exact (fun hq => by rw [hq]; rfl) | exact i64_of (by omega) (by omega) | omega | (simp; done) | (simp; omega) | (intro hsc; have hs0 := hsc; (try have hsd := of_decide_eq_true hsc); (try simp only [Bool.not_eq_true', Bool.or_eq_false_iff, Bool.and_eq_true, Bool.or_eq_true, decide_eq_true_eq, decide_eq_false_iff_not] at hsc); (repeat' (with_reducible apply And.intro)) <;> (first | assumption | trivial | exact (fun hq => by rw [hq]; rfl) | exact i64_of (by omega) (by omega) | omega | (simp; done) | (simp; omega) | (intro hse; simp [hse, hs0]; done) | (intro hse; simp only [hse, hs0, Bool.true_and, Bool.and_true, Bool.not_false, Bool.not_true, Bool.and_self]; done))))))
    refine end_round (cnt - (i + 1)) [.p (.str t), .p (int (m : Nat)), .any, .any, .any, .p (.sl 1 (strE w)), .row (.l 6), .any, .any, .any, .any, .any, .any, .any, .any, .any, .any, .any, .any, .any, .any, .p (int (cnt : Nat)), .p (int ((i + 1) : Nat)), .any, .any, .any, .any, .any, .any, .any, .any, .any, .any, .any, .any, .any, .any, .any, .any, .any] [(.l 6, .row (strE (q.take (i + 1))) tStr 1 true)] (by omega) (by (simp only [ZZ, YY, Ze, ite_true, ite_false, forall_const, reduceCtorEq, Nat.reduceAdd, Nat.reduceMul, Nat.reduceLeDiff, Nat.reduceLT, Nat.reduceEqDiff]; try trivial)) (by (simp only [ZZ, YY, Ze, ite_true, ite_false, forall_const, reduceCtorEq, Nat.reduceAdd, Nat.reduceMul, Nat.reduceLeDiff, Nat.reduceLT, Nat.reduceEqDiff]; try trivial)) ⟨i + 1, by omega, rfl, rfl, rfl⟩
  · intro h
    have hge : i = cnt := by have := of_decide_eq_false h; omega
    subst hge
    have hqt : q.take i = q := by rw [← hsl, List.take_length]
    simp only [ZZ, YY, Ze, ite_true, ite_false, forall_const, reduceCtorEq, Nat.reduceAdd, Nat.reduceMul, Nat.reduceLeDiff, Nat.reduceLT, Nat.reduceEqDiff]
    rw [hqt]
    refine useR (sortS_row tStr q (by omega)) rfl rfl rfl (by simp only [ZZ, YY, Ze, ite_true, ite_false, forall_const, reduceCtorEq, Nat.reduceAdd, Nat.reduceMul, Nat.reduceLeDiff, Nat.reduceLT, Nat.reduceEqDiff]) ?_
    rintro x es ⟨rfl, rfl⟩
    simp only [ZZ, YY, Ze, ite_true, ite_false, forall_const, reduceCtorEq, Nat.reduceAdd, Nat.reduceMul, Nat.reduceLeDiff, Nat.reduceLT, Nat.reduceEqDiff]
    refine useComp 1000 (q.mergeSort fun x y => decide (x ≤ y)) (by rw [List.length_mergeSort]; omega) rfl ?_
    simp only [ZZ, YY, Ze, ite_true, ite_false, forall_const, reduceCtorEq, Nat.reduceAdd, Nat.reduceMul, Nat.reduceLeDiff, Nat.reduceLT, Nat.reduceEqDiff]
theorem kError_ok {E : Envt} (k : Int) : PCall Tryz.prog E 108 [int k] (· = int (whenE (!inE k 1 10) 1)) := by
  refine pcallF mixed Tryz.func108 ck_near_kError ?_
  simp only [a0, l0, OS.ao, List.map_cons, List.map_nil, List.length_cons, List.length_nil, List.cons_append, List.nil_append, Nat.reduceSub, Nat.reduceAdd, List.replicate_succ, List.replicate_zero, ir_near_kError, rs_near_kError, ZZ, YY, Ze, ite_true, ite_false, forall_const, reduceCtorEq, Nat.reduceAdd, Nat.reduceMul, Nat.reduceLeDiff, Nat.reduceLT, Nat.reduceEqDiff]
  refine use1 (In_ok k 1 10) rfl (.inl rfl) ?_
  simp only [ZZ, YY, Ze, ite_true, ite_false, forall_const, reduceCtorEq, Nat.reduceAdd, Nat.reduceMul, Nat.reduceLeDiff, Nat.reduceLT, Nat.reduceEqDiff]
  refine use1 (When_ok _ 1) rfl (.inl rfl) ?_
  simp only [ZZ, YY, Ze, ite_true, ite_false, forall_const, reduceCtorEq, Nat.reduceAdd, Nat.reduceMul, Nat.reduceLeDiff, Nat.reduceLT, Nat.reduceEqDiff]
def shE (t : List UInt8) (k : Int) : Int := firstE [if 20000 < t.length then 2 else 0, whenE (!inE k 1 10) 1]
theorem shE_zero {t : List UInt8} {k : Int} (h : shE t k = 0) : t.length ≤ 20000 ∧ 1 ≤ k ∧ k ≤ 10 := by
  unfold shE at h
  by_cases h1 : 20000 < t.length
  · rw [if_pos h1] at h
    exact absurd h (by simp [firstE])
  · rw [if_neg h1] at h
    refine ⟨by omega, ?_⟩
    have h2 : inE k 1 10 = true := by
      cases h2 : inE k 1 10
      · rw [h2] at h
        exact absurd h (by decide)
      · rfl
    simpa only [inE, Bool.and_eq_true, decide_eq_true_eq] using h2
theorem Shingles_ok {E : Envt} (t : List UInt8) (k : Int) (ht : t.length ≤ 1000000000) : PCall Tryz.prog E 52 [.str t, int k] (· = .tup [.sl 1 (strE (if shE t k = 0 then shF t k.toNat else [])), int (shE t k)]) := by
  refine pcallF mixed Tryz.func52 ck_near_Shingles ?_
  simp only [a0, l0, OS.ao, List.map_cons, List.map_nil, List.length_cons, List.length_nil, List.cons_append, List.nil_append, Nat.reduceSub, Nat.reduceAdd, List.replicate_succ, List.replicate_zero, ir_near_Shingles, rs_near_Shingles, ZZ, YY, Ze, ite_true, ite_false, forall_const, reduceCtorEq, Nat.reduceAdd, Nat.reduceMul, Nat.reduceLeDiff, Nat.reduceLT, Nat.reduceEqDiff]
  refine use1 (nlarge_ok t ht) rfl (.inl rfl) ?_
  simp only [ZZ, YY, Ze, ite_true, ite_false, forall_const, reduceCtorEq, Nat.reduceAdd, Nat.reduceMul, Nat.reduceLeDiff, Nat.reduceLT, Nat.reduceEqDiff]
  refine use1 (kError_ok k) rfl (.inl rfl) ?_
  simp only [ZZ, YY, Ze, ite_true, ite_false, forall_const, reduceCtorEq, Nat.reduceAdd, Nat.reduceMul, Nat.reduceLeDiff, Nat.reduceLT, Nat.reduceEqDiff]
  refine use1 (First_ok [if 20000 < t.length then 2 else 0, whenE (!inE k 1 10) 1] (by simp)) rfl (.inl rfl) ?_
  rw [show firstE [if 20000 < t.length then 2 else 0, whenE (!inE k 1 10) 1] = shE t k from rfl]
  by_cases h0 : shE t k = 0
  · have hd : decide (shE t k = 0) = true := decide_eq_true h0
    obtain ⟨h1, h2, h3⟩ := shE_zero h0
    obtain ⟨m, rfl⟩ : ∃ m : Nat, k = m := ⟨k.toNat, by omega⟩
    simp only [ZZ, YY, Ze, ite_true, ite_false, forall_const, reduceCtorEq, Nat.reduceAdd, Nat.reduceMul, Nat.reduceLeDiff, Nat.reduceLT, Nat.reduceEqDiff, hd]
    refine use1 (shingles_ok t m h1 (by omega) (by omega)) rfl (.inl rfl) ?_
    simp only [ZZ, YY, Ze, ite_true, ite_false, forall_const, reduceCtorEq, Nat.reduceAdd, Nat.reduceMul, Nat.reduceLeDiff, Nat.reduceLT, Nat.reduceEqDiff]
    rw [if_pos h0, h0]
    try rfl
  · have hd : decide (shE t k = 0) = false := decide_eq_false h0
    simp only [ZZ, YY, Ze, ite_true, ite_false, forall_const, reduceCtorEq, Nat.reduceAdd, Nat.reduceMul, Nat.reduceLeDiff, Nat.reduceLT, Nat.reduceEqDiff, hd]
    rw [if_neg h0]
    rfl
theorem nears_sh : shF [97, 32, 98, 32, 99] 2 = [[97, 32, 98], [98, 32, 99]] := by
  have h1 : wordsF [97, 32, 98, 32, 99] = [[97], [98], [99]] := by decide +kernel
  have h2 : shL [[97], [98], [99]] 2 = [[97, 32, 98], [98, 32, 99]] := by decide +kernel
  rw [shF, h1, if_neg (by simp), show min 2 ([[97], [98], [99]] : List (List UInt8)).length = 2 from rfl, h2, List.mergeSort_of_pairwise (by decide +kernel)]
  decide +kernel
theorem nears_ok {E : Envt} : PCall Tryz.prog E 21 [] (· = .bool true) := by
  refine pcallF mixed Tryz.func21 ck_chaselaw1_nears ?_
  simp only [a0, l0, OS.ao, List.map_cons, List.map_nil, List.length_cons, List.length_nil, List.cons_append, List.nil_append, Nat.reduceSub, Nat.reduceAdd, List.replicate_succ, List.replicate_zero, ir_chaselaw1_nears, rs_chaselaw1_nears, ZZ, YY, Ze, ite_true, ite_false, forall_const, reduceCtorEq, Nat.reduceAdd, Nat.reduceMul, Nat.reduceLeDiff, Nat.reduceLT, Nat.reduceEqDiff]
  refine use1 (Shingles_ok [97, 32, 98, 32, 99] 2 (by simp)) rfl (.inl rfl) ?_
  rw [show shE [97, 32, 98, 32, 99] 2 = 0 from by decide +kernel, if_pos rfl, show (2 : Int).toNat = 2 from rfl, nears_sh]
  simp only [ZZ, YY, Ze, ite_true, ite_false, forall_const, reduceCtorEq, Nat.reduceAdd, Nat.reduceMul, Nat.reduceLeDiff, Nat.reduceLT, Nat.reduceEqDiff]
  refine useG (fun _ => EqualT_ok [[97, 32, 98], [98, 32, 99]] [[97, 32, 98], [98, 32, 99]] (by simp)) rfl (.inl rfl) ?_
  simp only [ZZ, YY, Ze, ite_true, ite_false, forall_const, reduceCtorEq, Nat.reduceAdd, Nat.reduceMul, Nat.reduceLeDiff, Nat.reduceLT, Nat.reduceEqDiff]
  simp
end Go.Proofs.YthfpehmbellmcaaGreatDoor

/- The form of a paragraph, on both sides; how large it is. -/
namespace Go.Proofs.YthfpehmbellmcaaGreatDoor
open Go.RowKit
set_option linter.unusedVariables false
set_option linter.unusedSimpArgs false
set_option linter.defProp false

/- paperchase/near.form -/
def ir_near_form : IC :=
  (.seq (.reg [⟨some 2, .mov (.c (.str [])), none⟩])
    (.seq (.reg [⟨some 3, .mov (.t 0), none⟩,
      ⟨some 4, .call 69 [.t 3, .c (.str [10])], none⟩,
      ⟨some 5, .call 111 [.t 4], none⟩,
      ⟨some 6, .call 69 [.t 5, .c (.str [32])], none⟩,
      ⟨some 2, .mov (.t 6), none⟩])
    .ret))
def rs_near_form : List IRes := [.t 2]
theorem ck_near_form : chkF Tryz.prog Tryz.f60 ir_near_form rs_near_form 7 = true := by kernel_rfl
/- paperchase/chaseref1.formOf -/
def ir_chaseref1_formOf : IC :=
  (.seq (.reg [⟨some 2, .mov (.c (.str [])), none⟩])
    (.seq (.reg [⟨some 3, .mov (.t 0), none⟩,
      ⟨some 4, .call 69 [.t 3, .c (.str [10])], none⟩,
      ⟨some 5, .call 70 [.t 4], none⟩,
      ⟨some 6, .call 69 [.t 5, .c (.str [32])], none⟩,
      ⟨some 2, .mov (.t 6), none⟩])
    .ret))
def rs_chaseref1_formOf : List IRes := [.t 2]
theorem ck_chaseref1_formOf : chkF Tryz.prog Tryz.f65 ir_chaseref1_formOf rs_chaseref1_formOf 7 = true := by kernel_rfl

theorem wsp_sum (t : List UInt8) : ∀ (i : Nat) (f : Option Nat), (∀ a, f = some a → a ≤ i) → ((Sp.wsp i f t).map fun p => p.2 - p.1 + 1).sum ≤ (i - f.getD i) + t.length + 1 := by
  induction t with
  | nil => intro i f hf; cases f <;> simp [Sp.wsp]
  | cons c r ih =>
    intro i f hf
    unfold Sp.wsp
    split
    · have h1 := ih (i + 1) (some (f.getD i)) (by
        intro a ha
        cases ha
        cases f with
        | none => simp
        | some a => have := hf a rfl; simp; omega)
      simp only [Option.getD_some] at h1
      have h2 : f.getD i ≤ i := by
        cases f with
        | none => simp
        | some a => exact hf a rfl
      simp only [List.length_cons]
      omega
    · cases f with
      | none =>
        have h1 := ih (i + 1) none (by intro a ha; cases ha)
        simp only [Option.getD_none, List.length_cons] at h1 ⊢
        omega
      | some a =>
        have h1 := ih (i + 1) none (by intro a ha; cases ha)
        have h2 := hf a rfl
        simp only [Option.getD_none, Option.getD_some, List.length_cons, List.map_cons, List.sum_cons] at h1 ⊢
        omega
theorem words_wgt (t : List UInt8) : wgt (wordsF t) ≤ t.length + 1 := by
  have h1 := wsp_sum t 0 none (by intro a ha; cases ha)
  simp only [Option.getD_none, Nat.sub_self, Nat.zero_add] at h1
  refine Nat.le_trans ?_ h1
  unfold wordsF Sp.spans
  generalize Sp.wsp 0 none t = l
  induction l with
  | nil => simp [wgt]
  | cons p r ih =>
    simp only [List.map_cons, wgt, List.sum_cons]
    have : (wordF t p).length ≤ p.2 - p.1 := by
      rw [wordF, lowF_len]
      simp only [Sp.part, List.length_drop, List.length_take]
      omega
    omega
theorem join1_wgt (l : List (List UInt8)) (c : UInt8) : (Lib.join l [c]).length ≤ wgt l := by
  cases l with
  | nil => simp [Lib.join]
  | cons x r =>
    rw [Lib.join_length]
    have : ∀ l : List (List UInt8), Lib.lens l + l.length = wgt l := by
      intro l
      induction l with
      | nil => rfl
      | cons x r ih => simp only [Lib.lens, List.map_cons, List.sum_cons, List.length_cons, wgt] at ih ⊢; omega
    have := this (x :: r)
    simp only [List.length_cons, List.length_nil] at *
    omega
/-- The form of a paragraph. -/
def formF (p : SRow) : List UInt8 := jS (wordsF (Lib.join p [10]))
theorem formF_len (p : SRow) : (formF p).length ≤ wgt p + 1 := by
  have h1 := join1_wgt p 10
  have h2 := words_wgt (Lib.join p [10])
  have h3 := join1_wgt (wordsF (Lib.join p [10])) 32
  unfold formF jS
  omega
section
variable {E : Envt}
theorem form_ok (p : SRow) (hw : wgt p ≤ 400000000) : PCall Tryz.prog E 60 [.sl 1 (strE p)] (· = .str (formF p)) := by
  have h0 := wgt_len p
  have h1 := join1_wgt p 10
  have h2 := words_wgt (Lib.join p [10])
  have h3 := join1_wgt (wordsF (Lib.join p [10])) 32
  have h4 := wgt_len (wordsF (Lib.join p [10]))
  refine pcallF mixed Tryz.func60 ck_near_form ?_
  simp only [a0, l0, OS.ao, List.map_cons, List.map_nil, List.length_cons, List.length_nil, List.cons_append, List.nil_append, Nat.reduceSub, Nat.reduceAdd, List.replicate_succ, List.replicate_zero, ir_near_form, rs_near_form, ZZ, YY, Ze, ite_true, ite_false, forall_const, reduceCtorEq, Nat.reduceAdd, Nat.reduceMul, Nat.reduceLeDiff, Nat.reduceLT, Nat.reduceEqDiff]
  refine use1 (Join_ok p [10] (by omega) (by omega)) rfl (.inl rfl) ?_
  simp only [ZZ, YY, Ze, ite_true, ite_false, forall_const, reduceCtorEq, Nat.reduceAdd, Nat.reduceMul, Nat.reduceLeDiff, Nat.reduceLT, Nat.reduceEqDiff]
  refine use1 (Words_ok _ (by omega)) rfl (.inl rfl) ?_
  simp only [ZZ, YY, Ze, ite_true, ite_false, forall_const, reduceCtorEq, Nat.reduceAdd, Nat.reduceMul, Nat.reduceLeDiff, Nat.reduceLT, Nat.reduceEqDiff]
  refine use1 (jS_ok (wordsF (Lib.join p [10])) (by omega) (by unfold jS; omega)) rfl (.inl rfl) ?_
  simp only [ZZ, YY, Ze, ite_true, ite_false, forall_const, reduceCtorEq, Nat.reduceAdd, Nat.reduceMul, Nat.reduceLeDiff, Nat.reduceLT, Nat.reduceEqDiff]
  rfl
theorem formOf_ok (p : SRow) (hw : wgt p ≤ 400000000) : PCall Tryz.prog E 65 [.sl 1 (strE p)] (· = .str (formF p)) := by
  have h0 := wgt_len p
  have h1 := join1_wgt p 10
  have h2 := words_wgt (Lib.join p [10])
  have h3 := join1_wgt (wordsF (Lib.join p [10])) 32
  have h4 := wgt_len (wordsF (Lib.join p [10]))
  refine pcallF mixed Tryz.func65 ck_chaseref1_formOf ?_
  simp only [a0, l0, OS.ao, List.map_cons, List.map_nil, List.length_cons, List.length_nil, List.cons_append, List.nil_append, Nat.reduceSub, Nat.reduceAdd, List.replicate_succ, List.replicate_zero, ir_chaseref1_formOf, rs_chaseref1_formOf, ZZ, YY, Ze, ite_true, ite_false, forall_const, reduceCtorEq, Nat.reduceAdd, Nat.reduceMul, Nat.reduceLeDiff, Nat.reduceLT, Nat.reduceEqDiff]
  refine use1 (Join_ok p [10] (by omega) (by omega)) rfl (.inl rfl) ?_
  simp only [ZZ, YY, Ze, ite_true, ite_false, forall_const, reduceCtorEq, Nat.reduceAdd, Nat.reduceMul, Nat.reduceLeDiff, Nat.reduceLT, Nat.reduceEqDiff]
  refine use1 (WordsOf_ok _ (by omega)) rfl (.inl rfl) ?_
  simp only [ZZ, YY, Ze, ite_true, ite_false, forall_const, reduceCtorEq, Nat.reduceAdd, Nat.reduceMul, Nat.reduceLeDiff, Nat.reduceLT, Nat.reduceEqDiff]
  refine use1 (jS_ok (wordsF (Lib.join p [10])) (by omega) (by unfold jS; omega)) rfl (.inl rfl) ?_
  simp only [ZZ, YY, Ze, ite_true, ite_false, forall_const, reduceCtorEq, Nat.reduceAdd, Nat.reduceMul, Nat.reduceLeDiff, Nat.reduceLT, Nat.reduceEqDiff]
  rfl
end
/-- Paragraphs weigh no more than their text. -/
def wgtT (T : Tab) : Nat := (T.map wgt).sum
theorem wgtT_app (a b : Tab) : wgtT (a ++ b) = wgtT a + wgtT b := by simp [wgtT]
theorem wgtT_last (T : Tab) (x : List UInt8) (h : T ≠ []) : wgtT (T.dropLast ++ [T.getLastD [] ++ [x]]) = wgtT T + (x.length + 1) := by
  have hT : T = T.dropLast ++ [T.getLastD []] := by
    rw [List.getLastD_eq_getLast?, List.getLast?_eq_some_getLast h, Option.getD_some, List.dropLast_concat_getLast h]
  conv => rhs; rw [hT]
  rw [wgtT_app, wgtT_app]
  simp [wgtT, wgt_app, wgt]
  omega
theorem paK_wgt (ls : SRow) : ∀ k, k ≤ ls.length → wgtT (paK ls k).1 ≤ wgt (ls.take k)
  | 0, _ => by simp [paK, wgtT]
  | k + 1, hk => by
    have ih := paK_wgt ls k (by omega)
    have hs := wgt_stepS ls k (by omega)
    have hn := (paK_len ls k).2
    rw [paK, paS]
    split
    · simp only; omega
    · split
      · rename_i h
        simp only
        rw [wgtT_last _ _ (hn h)]
        omega
      · simp only
        rw [wgtT_app]
        simp only [wgtT, List.map_cons, List.map_nil, List.sum_cons, List.sum_nil, wgt] at *
        omega
theorem parF_wgt (t : List UInt8) : wgtT (parF t) ≤ t.length + 1 := by
  have h := paK_wgt (splF t 10) (splF t 10).length (Nat.le_refl _)
  rw [List.take_length, splF_wgt] at h
  exact h
theorem parF_mem (t : List UInt8) : ∀ p ∈ parF t, wgt p ≤ t.length + 1 := by
  have h := parF_wgt t
  generalize parF t = T at *
  induction T with
  | nil => intro p hp; cases hp
  | cons q r ih =>
    intro p hp
    simp only [wgtT, List.map_cons, List.sum_cons] at h
    rcases List.mem_cons.1 hp with rfl | hp
    · omega
    · exact ih (by simp only [wgtT]; omega) p hp
end Go.Proofs.YthfpehmbellmcaaGreatDoor

/- What documents have in common: counts, sorted sets (plain). -/
namespace Go.Proofs.YthfpehmbellmcaaGreatDoor
open Go.RowKit
set_option linter.unusedVariables false
set_option linter.unusedSimpArgs false
set_option linter.defProp false

theorem sorted_uniq {a b : SRow} (ha : a.Pairwise (fun x y => x ≤ y)) (hb : b.Pairwise (fun x y => x ≤ y)) (na : a.Nodup) (nb : b.Nodup) (hm : ∀ x, x ∈ a ↔ x ∈ b) : a = b :=
  List.Perm.eq_of_pairwise (le := fun x y : List UInt8 => x ≤ y) (fun x y _ _ h1 h2 => le_asS h1 h2) ha hb ((List.perm_ext_iff_of_nodup na nb).2 hm)
theorem ixO_lt' {x : List UInt8} : ∀ {l : SRow}, x ∈ l → ixO x l < l.length
  | [], h => by cases h
  | y :: r, h => by
    rw [ixO]
    split
    · simp
    · rename_i hxy
      have := ixO_lt' ((List.mem_cons.1 h).resolve_left hxy)
      simp only [List.length_cons]; omega
theorem ixO_get'' {x : List UInt8} : ∀ {l : SRow}, x ∈ l → l[ixO x l]? = some x
  | [], h => by cases h
  | y :: r, h => by
    rw [ixO]
    split
    · rename_i e; simp [e]
    · rename_i e
      simpa using ixO_get'' ((List.mem_cons.1 h).resolve_left e)
theorem ixO_min {x : List UInt8} : ∀ {l : SRow} {i : Nat}, i < ixO x l → l[i]? ≠ some x
  | [], i, h => by simp
  | y :: r, i, h => by
    rw [ixO] at h
    split at h
    · cases h
    · rename_i e
      cases i with
      | zero => simp; exact fun e2 => e e2.symm
      | succ i => simpa using ixO_min (l := r) (by omega)
theorem cmp_keeps (m : SRow) (j : Nat) (hj : j < m.length) : Lib.keeps m.toArray j = true ↔ j = 0 ∨ m[j] ≠ m[j - 1]'(by omega) := by
  unfold Lib.keeps
  rw [decide_eq_true_iff, getElem!_pos m.toArray j (by simpa using hj), getElem!_pos m.toArray (j - 1) (by simp; omega)]
  simp
theorem cmp_mem (m : SRow) (x : List UInt8) : x ∈ Lib.compact m ↔ x ∈ m := by
  unfold Lib.compact Lib.compactUpTo
  simp only [List.mem_map, List.mem_filter, List.mem_range]
  constructor
  · rintro ⟨j, ⟨hj, _⟩, rfl⟩
    rw [getElem!_pos m.toArray j (by simpa using hj)]
    simp
  · intro hx
    have hlt := ixO_lt' hx
    have hg := ixO_get'' hx
    refine ⟨ixO x m, ⟨hlt, ?_⟩, ?_⟩
    · rw [cmp_keeps m _ hlt]
      rcases Nat.eq_zero_or_pos (ixO x m) with h0 | h0
      · exact .inl h0
      · refine .inr fun e => ?_
        have h1 := ixO_min (x := x) (l := m) (i := ixO x m - 1) (by omega)
        apply h1
        rw [List.getElem?_eq_getElem (by omega), ← e]
        rw [List.getElem?_eq_getElem hlt] at hg
        exact hg
    · rw [getElem!_pos m.toArray _ (by simpa using hlt)]
      rw [List.getElem?_eq_getElem hlt] at hg
      simpa using Option.some.inj hg
theorem cmp_lt {m : SRow} (hp : m.Pairwise (fun x y => x ≤ y)) : (Lib.compact m).Pairwise (fun x y => x ≤ y ∧ x ≠ y) := by
  unfold Lib.compact Lib.compactUpTo
  rw [List.pairwise_map]
  have hr : ((List.range m.length).filter (Lib.keeps m.toArray)).Pairwise (fun i j => i < j) := List.pairwise_lt_range.sublist List.filter_sublist
  refine hr.imp_of_mem ?_
  intro i j hi hj hij
  simp only [List.mem_filter, List.mem_range] at hi hj
  rw [getElem!_pos m.toArray i (by simpa using hi.1), getElem!_pos m.toArray j (by simpa using hj.1)]
  simp only [List.getElem_toArray]
  rw [List.pairwise_iff_getElem] at hp
  have h1 := hp i j hi.1 hj.1 hij
  refine ⟨h1, fun e => ?_⟩
  have h2 := ((cmp_keeps m j hj.1).1 hj.2).resolve_left (by omega)
  rcases Nat.lt_or_ge i (j - 1) with h3 | h3
  · have a1 := hp i (j - 1) hi.1 (by omega) h3
    have a2 := hp (j - 1) j (by omega) hj.1 (by omega)
    rw [← e] at a2
    exact h2 (e ▸ le_asS a1 a2)
  · have : i = j - 1 := by omega
    subst this
    exact h2 e.symm
theorem sortF_mem (l : SRow) (x : List UInt8) : x ∈ sortF l ↔ x ∈ l := by
  rw [sortF, cmp_mem]
  exact (List.mergeSort_perm l _).mem_iff
theorem sortF_pw (l : SRow) : (sortF l).Pairwise (fun x y => x ≤ y) := (cmp_lt (srt_pw l)).imp fun h => h.1
theorem sortF_nd (l : SRow) : (sortF l).Nodup := by
  rw [List.nodup_iff_pairwise_ne]
  exact (cmp_lt (srt_pw l)).imp fun h => h.2
/-- The forms of a document's paragraphs. -/
def fmsF (b : Bod) : SRow := (parF b.2).map formF
def cntF (l : List Bod) (x : List UInt8) : Nat := (l.filter fun b => decide (x ∈ fmsF b)).length
theorem cnt_take {l : List Bod} {k : Nat} {b : Bod} (h : l[k]? = some b) (x : List UInt8) : cntF (l.take (k + 1)) x = cntF (l.take k) x + if x ∈ fmsF b then 1 else 0 := by
  rw [List.take_add_one, h, cntF, cntF, List.filter_append, List.length_append]
  congr 1
  by_cases hx : x ∈ fmsF b <;> simp [hx]
theorem cnt_pos (l : List Bod) (x : List UInt8) : 0 < cntF l x ↔ x ∈ l.flatMap fmsF := by
  unfold cntF
  rw [List.length_pos_iff_exists_mem]
  simp only [List.mem_filter, decide_eq_true_eq, List.mem_flatMap]
theorem cnt_le (l : List Bod) (x : List UInt8) : cntF l x ≤ l.length := List.length_filter_le _ _
def comQ (l : List Bod) (least : Int) (f : List UInt8) : Bool := !decide (f = []) && decide (least ≤ (cntF l f : Nat))
/-- The forms that several documents have. -/
def comF (l : List Bod) (least : Int) : SRow := (sortF (l.flatMap fmsF)).filter (comQ l least)
theorem com_keys (l : List Bod) (least : Int) (K : SRow) (hK : K.Nodup) (hm : ∀ x, x ∈ K ↔ 0 < cntF l x) : (K.mergeSort fun x y => decide (x ≤ y)).filter (comQ l least) = comF l least := by
  refine sorted_uniq ((srt_pw K).sublist List.filter_sublist) ((sortF_pw _).sublist List.filter_sublist) (((List.mergeSort_perm K _).nodup_iff.2 hK).sublist List.filter_sublist) ((sortF_nd _).sublist List.filter_sublist) fun x => ?_
  rw [comF, List.mem_filter, List.mem_filter, (List.mergeSort_perm K _).mem_iff, hm, sortF_mem, cnt_pos]
theorem com_sort (l : List Bod) (least : Int) (O : SRow) (hO : O.Nodup) (hm : ∀ x, x ∈ O ↔ 0 < cntF l x ∧ comQ l least x = true) : sortF O = comF l least := by
  refine sorted_uniq (sortF_pw _) ((sortF_pw _).sublist List.filter_sublist) (sortF_nd _) ((sortF_nd _).sublist List.filter_sublist) fun x => ?_
  rw [sortF_mem, hm, comF, List.mem_filter, sortF_mem, cnt_pos]
/-- The keys of a map. -/
def kysF (kv : List (List UInt8 × PV)) : SRow := kv.map (·.1)
theorem kys_put : ∀ (kv : List (List UInt8 × PV)) (s : List UInt8) (v : PV), kysF (mpS kv s v) = if s ∈ kysF kv then kysF kv else kysF kv ++ [s]
  | [], s, v => by simp [mpS, kysF]
  | p :: r, s, v => by
    simp only [mpS]
    by_cases h : p.1 = s
    · rw [if_pos h]
      simp [kysF, h]
    · rw [if_neg h]
      have ih := kys_put r s v
      have h2 : ¬ s = p.1 := fun e => h e.symm
      simp only [kysF, List.map_cons, List.mem_cons, h2, false_or] at ih ⊢
      rw [ih]
      by_cases hs : s ∈ List.map (fun x : List UInt8 × PV => x.1) r <;> simp [hs]
theorem mpF_mem : ∀ {kv : List (List UInt8 × PV)} {p : List UInt8 × PV}, (kysF kv).Nodup → p ∈ kv → mpF kv p.1 = some p.2
  | [], p, _, h => by cases h
  | q :: r, p, hn, h => by
    simp only [kysF, List.map_cons, List.nodup_cons] at hn
    simp only [mpF]
    rcases List.mem_cons.1 h with rfl | h
    · simp
    · have : ¬ q.1 = p.1 := fun e => hn.1 (e ▸ List.mem_map_of_mem h)
      rw [if_neg this]
      exact mpF_mem hn.2 h
/-- A map of counts. -/
def CntI (kv : List (List UInt8 × PV)) (c : List UInt8 → Nat) : Prop := (∀ x, mpD kv x (int 0) = int (c x : Nat)) ∧ (kysF kv).Nodup ∧ ∀ x, x ∈ kysF kv ↔ 0 < c x
theorem CntI.nil : CntI [] (fun _ => 0) := ⟨fun x => by simp [mpD, mpF], by simp [kysF], fun x => by simp [kysF]⟩
theorem CntI.put {kv : List (List UInt8 × PV)} {c c' : List UInt8 → Nat} (h : CntI kv c) (s : List UInt8) (hc : ∀ x, c' x = c x + if x = s then 1 else 0) : CntI (mpS kv s (int ((c s : Nat) + 1))) c' := by
  obtain ⟨h1, h2, h3⟩ := h
  refine ⟨fun x => ?_, ?_, fun x => ?_⟩
  · have := h1 x
    unfold mpD at this ⊢
    rw [mpF_mpS]
    by_cases e : s = x
    · subst e
      rw [if_pos rfl, hc, if_pos rfl]
      rfl
    · rw [if_neg e, this, hc, if_neg (fun h => e h.symm)]
      rfl
  · rw [kys_put]
    split
    · exact h2
    · rename_i hs
      rw [List.nodup_append]
      exact ⟨h2, by simp, by intro a ha b hb; simp at hb; subst hb; rintro rfl; exact hs ha⟩
  · rw [kys_put, hc]
    split
    · rename_i hs
      rw [h3]
      by_cases e : x = s
      · subst e; rw [if_pos rfl]; have := (h3 x).1 hs; omega
      · rw [if_neg e]; rfl
    · rw [List.mem_append, h3, List.mem_singleton]
      by_cases e : x = s
      · subst e; simp
      · simp [e]
theorem CntI.ext {kv : List (List UInt8 × PV)} {c c' : List UInt8 → Nat} (h : CntI kv c) (he : ∀ x, c x = c' x) : CntI kv c' := by
  have : c = c' := funext he
  subst this
  exact h
theorem zip_kv : ∀ kv : List (List UInt8 × PV), (kv.map (·.1)).zip (kv.map (·.2)) = kv
  | [] => rfl
  | p :: r => by simp [zip_kv r]
/-- An entry is taken out. -/
theorem erase_perm {α : Type} {l : List α} {i : Nat} {x : α} (h : l[i]? = some x) : l.Perm (x :: l.eraseIdx i) := by
  induction l generalizing i with
  | nil => simp at h
  | cons y r ih =>
    cases i with
    | zero => simp at h; subst h; simp
    | succ i =>
      simp only [List.getElem?_cons_succ] at h
      exact ((ih h).cons y).trans (List.Perm.swap x y _)
end Go.Proofs.YthfpehmbellmcaaGreatDoor
