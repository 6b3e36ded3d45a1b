
/- Own texts, put together: B5 B6 B7 B8 B9 B10 A24 B11 A25. -/
import Derived.Test.YtpddiepfolfnoaaDoorM3
import Derived.Test.YtpddiepfolfnoaaDoorM2
import Derived.Shelf.SlSortCmp.NoneTotal
import Derived.Test.YtpddiepfolfnoaaDoorLaySpanSort
/- Spans: the document's answer to Union and Without. -/
namespace Go.Proofs.YtpddiepfolfnoaaDoor
set_option linter.unusedVariables false
set_option linter.unusedSimpArgs false
set_option linter.defProp false

/- paperchase/chaseref1.painted -/
def ir_chaseref1_painted_L1 : IC :=
  (.seq (.seq (.reg [⟨some 19, .mov (.t 8), none⟩,
      ⟨some 20, .fla 1 (.t 7), none⟩,
      ⟨some 21, .ld 1 false (.t 20), none⟩,
      ⟨some 22, .bin .lss (.t 19) (.t 21), none⟩])
    (.cond (.t 22) .skip (.exit 2)))
    (.seq (.block 3 (.reg [⟨some 25, .mov (.t 5), none⟩,
      ⟨some 26, .mov (.t 8), none⟩,
      ⟨some 27, .ixa 1 (.t 25) (.t 26), none⟩,
      ⟨none, .st 1 (.t 27) (.c (.bool true)), none⟩]))
    (.reg [⟨some 23, .mov (.t 8), none⟩,
      ⟨some 24, .bin .add (.t 23) (.c (.int .i64 1)), none⟩,
      ⟨some 8, .mov (.t 24), none⟩])))
def ir_chaseref1_painted_L0 : IC :=
  (.seq (.reg [⟨some 14, .bin .lss (.t 13) (.t 12), none⟩])
    (.seq (.cond (.t 14) .skip (.exit 0))
    (.seq (.block 1 (.seq (.reg [⟨some 15, .ixa 2 (.t 11) (.t 13), none⟩,
      ⟨some 16, .ld 2 true (.t 15), none⟩,
      ⟨some 7, .alc 46 [.int .i64 0, .int .i64 0], none⟩,
      ⟨none, .st 2 (.t 7) (.t 16), none⟩])
    (.seq (.reg [⟨some 17, .fla 0 (.t 7), none⟩,
      ⟨some 18, .ld 1 false (.t 17), none⟩,
      ⟨some 8, .mov (.t 18), none⟩])
    (.block 2 (.loop ir_chaseref1_painted_L1)))))
    (.reg [⟨some 28, .bin .add (.t 13) (.c (.int .i64 1)), none⟩,
      ⟨some 13, .mov (.t 28), none⟩]))))
def ir_chaseref1_painted : IC :=
  (.seq (.reg [⟨some 4, .mov (.c (.nl 1)), none⟩])
    (.seq (.reg [⟨some 9, .mov (.t 1), none⟩,
      ⟨some 10, .mks 4 1 1 [.bool false] (.t 9) (.t 9), none⟩,
      ⟨some 5, .mov (.t 10), none⟩])
    (.seq (.seq (.reg [⟨some 11, .mov (.t 0), none⟩,
      ⟨some 12, .len (.t 11), none⟩,
      ⟨some 13, .mov (.c (.int .i64 0)), none⟩])
    (.block 0 (.loop ir_chaseref1_painted_L0)))
    (.seq (.reg [⟨some 29, .mov (.t 5), none⟩,
      ⟨some 4, .mov (.t 29), none⟩])
    .ret))))
def rs_chaseref1_painted : List IRes := [.t 4]
theorem ck_chaseref1_painted : chkF Tryd.prog Tryd.f94 ir_chaseref1_painted rs_chaseref1_painted 30 = true := by kernel_rfl
/- paperchase/chaseref1.spansFrom -/
def ir_chaseref1_spansFrom_L0 : IC :=
  (.seq (.reg [⟨some 9, .bin .lss (.t 8) (.t 7), none⟩])
    (.seq (.cond (.t 9) .skip (.exit 0))
    (.seq (.block 1 (.seq (.reg [⟨some 10, .mov (.t 8), none⟩,
      ⟨some 11, .ixa 1 (.t 6) (.t 8), none⟩,
      ⟨some 12, .ld 1 false (.t 11), none⟩,
      ⟨some 4, .mov (.t 10), none⟩,
      ⟨some 5, .mov (.t 12), none⟩])
    (.seq (.seq (.reg [⟨some 13, .mov (.t 5), none⟩,
      ⟨some 14, .mov (.t 13), none⟩,
      ⟨some 15, .mov (.t 4), (some (14, true))⟩,
      ⟨some 16, .bin .eql (.t 15) (.c (.int .i64 0)), (some (14, true))⟩,
      ⟨some 17, .mov (.t 16), (some (14, true))⟩,
      ⟨some 18, .mov (.t 0), (some (17, false))⟩,
      ⟨some 19, .mov (.t 4), (some (17, false))⟩,
      ⟨some 20, .bin .sub (.t 19) (.c (.int .i64 1)), (some (17, false))⟩,
      ⟨some 21, .ixa 1 (.t 18) (.t 20), (some (17, false))⟩,
      ⟨some 22, .ld 1 false (.t 21), (some (17, false))⟩,
      ⟨some 23, .not (.t 22), (some (17, false))⟩,
      ⟨some 24, .pick (.t 17) (.c (.bool true)) (.t 23), (some (14, true))⟩,
      ⟨some 25, .pick (.t 14) (.t 24) (.c (.bool false)), none⟩])
    (.cond (.t 25) (.reg [⟨some 26, .mov (.t 3), none⟩,
      ⟨some 27, .mov (.t 4), none⟩,
      ⟨some 28, .bld [.int .i64 0, .int .i64 0] [(0, 1, .t 27)], none⟩,
      ⟨some 29, .bsl 2 [.t 28], none⟩,
      ⟨some 30, .app 46 2 16 (.t 26) (.t 29), none⟩,
      ⟨some 3, .mov (.t 30), none⟩]) .skip))
    (.cut (.seq (.reg [⟨some 31, .mov (.t 5), none⟩])
    (.cond (.t 31) (.reg [⟨some 32, .mov (.t 3), none⟩,
      ⟨some 33, .mov (.t 3), none⟩,
      ⟨some 34, .len (.t 33), none⟩,
      ⟨some 35, .bin .sub (.t 34) (.c (.int .i64 1)), none⟩,
      ⟨some 36, .mov (.t 4), none⟩,
      ⟨some 37, .bin .add (.t 36) (.c (.int .i64 1)), none⟩,
      ⟨some 38, .ixa 2 (.t 32) (.t 35), none⟩,
      ⟨some 39, .fla 1 (.t 38), none⟩,
      ⟨none, .st 1 (.t 39) (.t 37), none⟩]) .skip))))))
    (.cut (.reg [⟨some 40, .bin .add (.t 8) (.c (.int .i64 1)), none⟩,
      ⟨some 8, .mov (.t 40), none⟩])))))
def ir_chaseref1_spansFrom : IC :=
  (.seq (.reg [⟨some 2, .mov (.c (.nl 2)), none⟩])
    (.seq (.reg [⟨some 3, .nilr 46 2, none⟩])
    (.seq (.seq (.reg [⟨some 6, .mov (.t 0), none⟩,
      ⟨some 7, .len (.t 6), none⟩,
      ⟨some 8, .mov (.c (.int .i64 0)), none⟩])
    (.block 0 (.loop ir_chaseref1_spansFrom_L0)))
    (.seq (.reg [⟨some 41, .mov (.t 3), none⟩,
      ⟨some 2, .mov (.t 41), none⟩])
    .ret))))
def rs_chaseref1_spansFrom : List IRes := [.t 2]
theorem ck_chaseref1_spansFrom : chkF Tryd.prog Tryd.f96 ir_chaseref1_spansFrom rs_chaseref1_spansFrom 42 = true := by kernel_rfl
def cov (l : List (Int × Int)) (j : Nat) : Bool := l.any fun s => decide (s.1 ≤ j) && decide ((j : Int) < s.2)
def bl (p : List Bool) : List (List PV) := p.map fun b => [.bool b]
def tab (n : Nat) (f : Nat → Bool) : List Bool := (List.range n).map f
theorem tab_len (n : Nat) (f : Nat → Bool) : (tab n f).length = n := by simp [tab]
theorem bl_len (p : List Bool) : (bl p).length = p.length := by simp [bl]
theorem tab_get {n : Nat} {f : Nat → Bool} {i : Nat} (h : i < n) : (tab n f)[i]? = some (f i) := by
  unfold tab
  rw [List.getElem?_map, List.getElem?_range h]; rfl
theorem bl_tab {n : Nat} {f : Nat → Bool} {i : Nat} (h : i < n) : (bl (tab n f)).getD i [] = [.bool (f i)] := getD_map (tab_get h)
theorem bl_set {n : Nat} {f : Nat → Bool} {i : Nat} {b : Bool} : (bl (tab n f)).set i [.bool b] = bl (tab n fun j => if j = i then b else f j) := by
  refine List.ext_getElem? fun j => ?_
  rw [List.getElem?_set]
  by_cases hj : i = j
  · subst hj
    simp only [if_true, bl_len, tab_len]
    by_cases hi : i < n
    · rw [if_pos hi, show bl (tab n fun j => if j = i then b else f j) = (tab n fun j => if j = i then b else f j).map (fun b => [.bool b]) from rfl, List.getElem?_map, tab_get hi]
      simp
    · rw [if_neg hi, List.getElem?_eq_none (by rw [bl_len, tab_len]; omega)]
  · rw [if_neg hj]
    unfold bl tab
    rw [List.getElem?_map, List.getElem?_map, List.getElem?_map, List.getElem?_map]
    by_cases hn : j < n
    · rw [List.getElem?_range hn]
      simp [Ne.symm hj]
    · rw [List.getElem?_eq_none (by simpa using hn)]
      rfl
theorem tab_congr {n : Nat} {f g : Nat → Bool} (h : ∀ j, j < n → f j = g j) : tab n f = tab n g := List.map_congr_left fun j hj => h j (by simpa using hj)
theorem cov_take {l : List (Int × Int)} {k : Nat} {x : Int × Int} (h : l[k]? = some x) (j : Nat) : cov (l.take (k + 1)) j = (cov (l.take k) j || (decide (x.1 ≤ j) && decide ((j : Int) < x.2))) := by
  unfold cov
  rw [List.take_add_one, h]
  simp

section
variable {E : Envt}
theorem painted_ok (l : List (Int × Int)) (n : Nat) (hl : l.length ≤ 1000000) (hn : n ≤ 1000000) (hs : ∀ s ∈ l, 0 ≤ s.1 ∧ s.2 ≤ n) :
    FCall Tryd.prog E 94 [sps l, int n] 4 1 (· = bl (tab n (cov l))) := by
  unfold FCall
  refine gcallR mixed Tryd.func94 ck_chaseref1_painted ?_
  simp only [a0, l0, OS.ao, List.map_cons, List.map_nil, List.length_cons, List.length_nil, List.cons_append, List.nil_append, Nat.reduceSub, Nat.reduceAdd, List.replicate_succ, List.replicate_zero, ir_chaseref1_painted, rs_chaseref1_painted, ZZ, Za, Zb, Zc, Zd, Ze, Zf, Zg, Zh, rd, AV.un, AV.unA, AV.ad, Zi, Zj, Zk, Zl, Zm, Zn, Zo, Zp, Zq, Zr, Zs, Zt, Zu, Zv, Zw, Zx, Zy, Zz, Zaa, Zab, Zac, Zad, wk1, wk, Zae, Zaf, Zag, Zah, Zai, Zaj, Zak, Zal, AV.kill, AO.kill, AV.thaw, AO.thaw, Zam, Zan, Zao, Zap, Zaq, Zar, Zas, Zat, Zau, ite_true, ite_false, reduceCtorEq, Nat.reduceAdd, Nat.reduceMul, Nat.reduceLeDiff, Nat.reduceLT, Nat.reduceEqDiff, forall_const]
  simp only [sps, ZZ, Za, Zb, Zc, Zd, Ze, Zf, Zg, Zh, rd, AV.un, AV.unA, AV.ad, Zi, Zj, Zk, Zl, Zm, Zn, Zo, Zp, Zq, Zr, Zs, Zt, Zu, Zv, Zw, Zx, Zy, Zz, Zaa, Zab, Zac, Zad, wk1, wk, Zae, Zaf, Zag, Zah, Zai, Zaj, Zak, Zal, AV.kill, AO.kill, AV.thaw, AO.thaw, Zam, Zan, Zao, Zap, Zaq, Zar, Zas, Zat, Zau, ite_true, ite_false, reduceCtorEq, Nat.reduceAdd, Nat.reduceMul, Nat.reduceLeDiff, Nat.reduceLT, Nat.reduceEqDiff, forall_const]
  ((repeat' (with_reducible apply And.intro)) <;> try ((first | first | assumption | trivial | exact (fun hq => by rw [hq]; rfl) | exact i64_of (by omega) (by omega) | omega | (simp; done) | (simp; omega) | (intro hsc; have hs0 := hsc; (try have hsd := of_decide_eq_true hsc); (try simp only [Bool.not_eq_true', Bool.or_eq_false_iff, Bool.and_eq_true, Bool.or_eq_true, decide_eq_true_eq, decide_eq_false_iff_not] at hsc); (repeat' (with_reducible apply And.intro)) <;> (first | assumption | trivial | exact (fun hq => by rw [hq]; rfl) | exact i64_of (by omega) (by omega) | omega | (simp; done) | (simp; omega) | (intro hse; simp [hse, hs0]; done))))))
  generalize hes : l.map spn = es
  have hln : es.length = l.length := by rw [← hes]; simp
  have h0 : List.replicate n [PV.bool false] = bl (tab n (cov (l.take 0))) := by
    unfold bl tab
    rw [List.map_map]
    refine List.ext_getElem? fun j => ?_
    by_cases hj : j < n
    · simp [hj, cov]
    · rw [List.getElem?_eq_none (by simpa using hj), List.getElem?_eq_none (by simpa using hj)]
  rw [h0]
  refine loop_intro (fun m fr L => ∃ k : Nat, k ≤ l.length ∧ m = l.length - k ∧ fr = [.any, .any, .any, .any, .any, .row (.l 10), .any, .any, .any, .any, .any, .p (.sl 2 es), .p (int (es.length : Nat)), .p (int (k : Nat)), .any, .any, .any, .any, .any, .any, .any, .any, .any, .any, .any, .any, .any, .any, .any, .any] ∧ L = [(.l 10, .row (bl (tab n (cov (l.take k)))) 4 1 true)]) l.length [.any, .any, .any, .any, .any, .row (.l 10), .any, .any, .any, .any, .any, .p (.sl 2 es), .p (int (es.length : Nat)), .p (int (0 : Nat)), .any, .any, .any, .any, .any, .any, .any, .any, .any, .any, .any, .any, .any, .any, .any, .any] [(.l 10, .row (bl (tab n (cov (l.take 0)))) 4 1 true)] (by (simp only [ZZ, Za, Zb, Zc, Zd, Ze, Zf, Zg, Zh, rd, AV.un, AV.unA, AV.ad, Zi, Zj, Zk, Zl, Zm, Zn, Zo, Zp, Zq, Zr, Zs, Zt, Zu, Zv, Zw, Zx, Zy, Zz, Zaa, Zab, Zac, Zad, wk1, wk, Zae, Zaf, Zag, Zah, Zai, Zaj, Zak, Zal, AV.kill, AO.kill, AV.thaw, AO.thaw, Zam, Zan, Zao, Zap, Zaq, Zar, Zas, Zat, Zau, ite_true, ite_false, reduceCtorEq, Nat.reduceAdd, Nat.reduceMul, Nat.reduceLeDiff, Nat.reduceLT, Nat.reduceEqDiff, forall_const]; try trivial)) (by simp only [ZZ, Za, Zb, Zc, Zd, Ze, Zf, Zg, Zh, rd, AV.un, AV.unA, AV.ad, Zi, Zj, Zk, Zl, Zm, Zn, Zo, Zp, Zq, Zr, Zs, Zt, Zu, Zv, Zw, Zx, Zy, Zz, Zaa, Zab, Zac, Zad, wk1, wk, Zae, Zaf, Zag, Zah, Zai, Zaj, Zak, Zal, AV.kill, AO.kill, AV.thaw, AO.thaw, Zam, Zan, Zao, Zap, Zaq, Zar, Zas, Zat, Zau, ite_true, ite_false, reduceCtorEq, Nat.reduceAdd, Nat.reduceMul, Nat.reduceLeDiff, Nat.reduceLT, Nat.reduceEqDiff, forall_const]) ⟨0, by omega, by omega, rfl, rfl⟩ ?_
  rintro m fr L ⟨k, hk, rfl, rfl, rfl⟩
  simp only [ir_chaseref1_painted_L0, ZZ, Za, Zb, Zc, Zd, Ze, Zf, Zg, Zh, rd, AV.un, AV.unA, AV.ad, Zi, Zj, Zk, Zl, Zm, Zn, Zo, Zp, Zq, Zr, Zs, Zt, Zu, Zv, Zw, Zx, Zy, Zz, Zaa, Zab, Zac, Zad, wk1, wk, Zae, Zaf, Zag, Zah, Zai, Zaj, Zak, Zal, AV.kill, AO.kill, AV.thaw, AO.thaw, Zam, Zan, Zao, Zap, Zaq, Zar, Zas, Zat, Zau, ite_true, ite_false, reduceCtorEq, Nat.reduceAdd, Nat.reduceMul, Nat.reduceLeDiff, Nat.reduceLT, Nat.reduceEqDiff, forall_const]
  refine br ?_ ?_
  · intro h
    have hlt : k < l.length := by have := of_decide_eq_true h; omega
    obtain ⟨s, hx⟩ : ∃ x, l[k]? = some x := ⟨_, List.getElem?_eq_getElem hlt⟩
    have hg : es.getD k [] = spn s := by rw [← hes]; exact getD_map hx
    have hsb := hs s (List.mem_of_getElem? hx)
    simp only [ZZ, Za, Zb, Zc, Zd, Ze, Zf, Zg, Zh, rd, AV.un, AV.unA, AV.ad, Zi, Zj, Zk, Zl, Zm, Zn, Zo, Zp, Zq, Zr, Zs, Zt, Zu, Zv, Zw, Zx, Zy, Zz, Zaa, Zab, Zac, Zad, wk1, wk, Zae, Zaf, Zag, Zah, Zai, Zaj, Zak, Zal, AV.kill, AO.kill, AV.thaw, AO.thaw, Zam, Zan, Zao, Zap, Zaq, Zar, Zas, Zat, Zau, ite_true, ite_false, reduceCtorEq, Nat.reduceAdd, Nat.reduceMul, Nat.reduceLeDiff, Nat.reduceLT, Nat.reduceEqDiff, forall_const, hg, spn]
    ((repeat' (with_reducible apply And.intro)) <;> try ((first | first | assumption | trivial | exact (fun hq => by rw [hq]; rfl) | exact i64_of (by omega) (by omega) | omega | (simp; done) | (simp; omega) | (intro hsc; have hs0 := hsc; (try have hsd := of_decide_eq_true hsc); (try simp only [Bool.not_eq_true', Bool.or_eq_false_iff, Bool.and_eq_true, Bool.or_eq_true, decide_eq_true_eq, decide_eq_false_iff_not] at hsc); (repeat' (with_reducible apply And.intro)) <;> (first | assumption | trivial | exact (fun hq => by rw [hq]; rfl) | exact i64_of (by omega) (by omega) | omega | (simp; done) | (simp; omega) | (intro hse; simp [hse, hs0]; done))))))
    refine loop_intro (fun m fr L => ∃ i : Int, s.1 ≤ i ∧ (i ≤ s.2 ∨ i = s.1) ∧ m = (s.2 - i).toNat ∧ fr = [.any, .any, .any, .any, .any, .row (.l 10), .any, .adr (.l 7) 0, .p (int i), .any, .any, .p (.sl 2 es), .p (int (es.length : Nat)), .p (int (k : Nat)), .any, .any, .any, .any, .any, .any, .any, .any, .any, .any, .any, .any, .any, .any, .any, .any] ∧ L = [(.l 10, .row (bl (tab n (fun j => cov (l.take k) j || (decide (s.1 ≤ j) && decide ((j : Int) < i))))) 4 1 true), (.l 7, .box [.p (int s.1), .p (int s.2)] tSpan)]) (s.2 - s.1).toNat [.any, .any, .any, .any, .any, .row (.l 10), .any, .adr (.l 7) 0, .p (int s.1), .any, .any, .p (.sl 2 es), .p (int (es.length : Nat)), .p (int (k : Nat)), .any, .any, .any, .any, .any, .any, .any, .any, .any, .any, .any, .any, .any, .any, .any, .any] [(.l 10, .row (bl (tab n (cov (l.take k)))) 4 1 true), (.l 7, .box [.p (int s.1), .p (int s.2)] tSpan)] (by (simp only [ZZ, Za, Zb, Zc, Zd, Ze, Zf, Zg, Zh, rd, AV.un, AV.unA, AV.ad, Zi, Zj, Zk, Zl, Zm, Zn, Zo, Zp, Zq, Zr, Zs, Zt, Zu, Zv, Zw, Zx, Zy, Zz, Zaa, Zab, Zac, Zad, wk1, wk, Zae, Zaf, Zag, Zah, Zai, Zaj, Zak, Zal, AV.kill, AO.kill, AV.thaw, AO.thaw, Zam, Zan, Zao, Zap, Zaq, Zar, Zas, Zat, Zau, ite_true, ite_false, reduceCtorEq, Nat.reduceAdd, Nat.reduceMul, Nat.reduceLeDiff, Nat.reduceLT, Nat.reduceEqDiff, forall_const]; try trivial)) (by simp only [ZZ, Za, Zb, Zc, Zd, Ze, Zf, Zg, Zh, rd, AV.un, AV.unA, AV.ad, Zi, Zj, Zk, Zl, Zm, Zn, Zo, Zp, Zq, Zr, Zs, Zt, Zu, Zv, Zw, Zx, Zy, Zz, Zaa, Zab, Zac, Zad, wk1, wk, Zae, Zaf, Zag, Zah, Zai, Zaj, Zak, Zal, AV.kill, AO.kill, AV.thaw, AO.thaw, Zam, Zan, Zao, Zap, Zaq, Zar, Zas, Zat, Zau, ite_true, ite_false, reduceCtorEq, Nat.reduceAdd, Nat.reduceMul, Nat.reduceLeDiff, Nat.reduceLT, Nat.reduceEqDiff, forall_const]) ⟨s.1, by omega, .inr rfl, rfl, rfl, ?_⟩ ?_
    · have : tab n (cov (l.take k)) = tab n (fun j => cov (l.take k) j || (decide (s.1 ≤ j) && decide ((j : Int) < s.1))) := tab_congr fun j _ => by
        have : (decide (s.1 ≤ j) && decide ((j : Int) < s.1)) = false := by simp
        rw [this, Bool.or_false]
      rw [← this]
    rintro m fr L ⟨i, hi1, hi2, rfl, rfl, rfl⟩
    simp only [ir_chaseref1_painted_L1, ZZ, Za, Zb, Zc, Zd, Ze, Zf, Zg, Zh, rd, AV.un, AV.unA, AV.ad, Zi, Zj, Zk, Zl, Zm, Zn, Zo, Zp, Zq, Zr, Zs, Zt, Zu, Zv, Zw, Zx, Zy, Zz, Zaa, Zab, Zac, Zad, wk1, wk, Zae, Zaf, Zag, Zah, Zai, Zaj, Zak, Zal, AV.kill, AO.kill, AV.thaw, AO.thaw, Zam, Zan, Zao, Zap, Zaq, Zar, Zas, Zat, Zau, ite_true, ite_false, reduceCtorEq, Nat.reduceAdd, Nat.reduceMul, Nat.reduceLeDiff, Nat.reduceLT, Nat.reduceEqDiff, forall_const]
    refine br ?_ ?_
    · intro h2
      have hlt2 := of_decide_eq_true h2
      have hin : i.toNat < n := by omega
      have hii : ((i.toNat : Nat) : Int) = i := by omega
      simp only [ZZ, Za, Zb, Zc, Zd, Ze, Zf, Zg, Zh, rd, AV.un, AV.unA, AV.ad, Zi, Zj, Zk, Zl, Zm, Zn, Zo, Zp, Zq, Zr, Zs, Zt, Zu, Zv, Zw, Zx, Zy, Zz, Zaa, Zab, Zac, Zad, wk1, wk, Zae, Zaf, Zag, Zah, Zai, Zaj, Zak, Zal, AV.kill, AO.kill, AV.thaw, AO.thaw, Zam, Zan, Zao, Zap, Zaq, Zar, Zas, Zat, Zau, ite_true, ite_false, reduceCtorEq, Nat.reduceAdd, Nat.reduceMul, Nat.reduceLeDiff, Nat.reduceLT, Nat.reduceEqDiff, forall_const, bl_len, tab_len, bl_tab hin]
      simp only [Zaa, List.set_cons_zero, bl_set]
      ((repeat' (with_reducible apply And.intro)) <;> try ((first | first | assumption | trivial | exact (fun hq => by rw [hq]; rfl) | exact i64_of (by omega) (by omega) | omega | (simp; done) | (simp; omega) | (intro hsc; have hs0 := hsc; (try have hsd := of_decide_eq_true hsc); (try simp only [Bool.not_eq_true', Bool.or_eq_false_iff, Bool.and_eq_true, Bool.or_eq_true, decide_eq_true_eq, decide_eq_false_iff_not] at hsc); (repeat' (with_reducible apply And.intro)) <;> (first | assumption | trivial | exact (fun hq => by rw [hq]; rfl) | exact i64_of (by omega) (by omega) | omega | (simp; done) | (simp; omega) | (intro hse; simp [hse, hs0]; done))))))
      refine end_round (s.2 - (i + 1)).toNat [.any, .any, .any, .any, .any, .row (.l 10), .any, .adr (.l 7) 0, .p (int (i + 1)), .any, .any, .p (.sl 2 es), .p (int (es.length : Nat)), .p (int (k : Nat)), .any, .any, .any, .any, .any, .any, .any, .any, .any, .any, .any, .any, .any, .any, .any, .any] [(.l 10, .row (bl (tab n (fun j => cov (l.take k) j || (decide (s.1 ≤ j) && decide ((j : Int) < i + 1))))) 4 1 true), (.l 7, .box [.p (int s.1), .p (int s.2)] tSpan)] (by omega) (by (simp only [ZZ, Za, Zb, Zc, Zd, Ze, Zf, Zg, Zh, rd, AV.un, AV.unA, AV.ad, Zi, Zj, Zk, Zl, Zm, Zn, Zo, Zp, Zq, Zr, Zs, Zt, Zu, Zv, Zw, Zx, Zy, Zz, Zaa, Zab, Zac, Zad, wk1, wk, Zae, Zaf, Zag, Zah, Zai, Zaj, Zak, Zal, AV.kill, AO.kill, AV.thaw, AO.thaw, Zam, Zan, Zao, Zap, Zaq, Zar, Zas, Zat, Zau, ite_true, ite_false, reduceCtorEq, Nat.reduceAdd, Nat.reduceMul, Nat.reduceLeDiff, Nat.reduceLT, Nat.reduceEqDiff, forall_const]; try trivial)) ?_ ⟨i + 1, by omega, .inl (by omega), rfl, rfl, rfl⟩
      simp only [ZZ, Za, Zb, Zc, Zd, Ze, Zf, Zg, Zh, rd, AV.un, AV.unA, AV.ad, Zi, Zj, Zk, Zl, Zm, Zn, Zo, Zp, Zq, Zr, Zs, Zt, Zu, Zv, Zw, Zx, Zy, Zz, Zaa, Zab, Zac, Zad, wk1, wk, Zae, Zaf, Zag, Zah, Zai, Zaj, Zak, Zal, AV.kill, AO.kill, AV.thaw, AO.thaw, Zam, Zan, Zao, Zap, Zaq, Zar, Zas, Zat, Zau, ite_true, ite_false, reduceCtorEq, Nat.reduceAdd, Nat.reduceMul, Nat.reduceLeDiff, Nat.reduceLT, Nat.reduceEqDiff, forall_const]
      congr 2
      refine congrArg bl (tab_congr fun j hj => ?_)
      by_cases hji : j = i.toNat
      · subst hji
        simp; omega
      · have : ((j : Int) < i + 1) ↔ ((j : Int) < i) := by omega
        simp [hji, this]
    · intro h2
      have hge2 := of_decide_eq_false h2
      simp only [ZZ, Za, Zb, Zc, Zd, Ze, Zf, Zg, Zh, rd, AV.un, AV.unA, AV.ad, Zi, Zj, Zk, Zl, Zm, Zn, Zo, Zp, Zq, Zr, Zs, Zt, Zu, Zv, Zw, Zx, Zy, Zz, Zaa, Zab, Zac, Zad, wk1, wk, Zae, Zaf, Zag, Zah, Zai, Zaj, Zak, Zal, AV.kill, AO.kill, AV.thaw, AO.thaw, Zam, Zan, Zao, Zap, Zaq, Zar, Zas, Zat, Zau, ite_true, ite_false, reduceCtorEq, Nat.reduceAdd, Nat.reduceMul, Nat.reduceLeDiff, Nat.reduceLT, Nat.reduceEqDiff, forall_const]
      ((repeat' (with_reducible apply And.intro)) <;> try ((first | first | assumption | trivial | exact (fun hq => by rw [hq]; rfl) | exact i64_of (by omega) (by omega) | omega | (simp; done) | (simp; omega) | (intro hsc; have hs0 := hsc; (try have hsd := of_decide_eq_true hsc); (try simp only [Bool.not_eq_true', Bool.or_eq_false_iff, Bool.and_eq_true, Bool.or_eq_true, decide_eq_true_eq, decide_eq_false_iff_not] at hsc); (repeat' (with_reducible apply And.intro)) <;> (first | assumption | trivial | exact (fun hq => by rw [hq]; rfl) | exact i64_of (by omega) (by omega) | omega | (simp; done) | (simp; omega) | (intro hse; simp [hse, hs0]; done))))))
      refine end_round (l.length - (k + 1)) [.any, .any, .any, .any, .any, .row (.l 10), .any, .any, .any, .any, .any, .p (.sl 2 es), .p (int (es.length : Nat)), .p (int ((k + 1 : Nat))), .any, .any, .any, .any, .any, .any, .any, .any, .any, .any, .any, .any, .any, .any, .any, .any] [(.l 10, .row (bl (tab n (cov (l.take (k + 1))))) 4 1 true)] (by omega) (by (simp only [ZZ, Za, Zb, Zc, Zd, Ze, Zf, Zg, Zh, rd, AV.un, AV.unA, AV.ad, Zi, Zj, Zk, Zl, Zm, Zn, Zo, Zp, Zq, Zr, Zs, Zt, Zu, Zv, Zw, Zx, Zy, Zz, Zaa, Zab, Zac, Zad, wk1, wk, Zae, Zaf, Zag, Zah, Zai, Zaj, Zak, Zal, AV.kill, AO.kill, AV.thaw, AO.thaw, Zam, Zan, Zao, Zap, Zaq, Zar, Zas, Zat, Zau, ite_true, ite_false, reduceCtorEq, Nat.reduceAdd, Nat.reduceMul, Nat.reduceLeDiff, Nat.reduceLT, Nat.reduceEqDiff, forall_const]; try trivial)) ?_ ⟨k + 1, by omega, rfl, rfl, rfl⟩
      simp only [ZZ, Za, Zb, Zc, Zd, Ze, Zf, Zg, Zh, rd, AV.un, AV.unA, AV.ad, Zi, Zj, Zk, Zl, Zm, Zn, Zo, Zp, Zq, Zr, Zs, Zt, Zu, Zv, Zw, Zx, Zy, Zz, Zaa, Zab, Zac, Zad, wk1, wk, Zae, Zaf, Zag, Zah, Zai, Zaj, Zak, Zal, AV.kill, AO.kill, AV.thaw, AO.thaw, Zam, Zan, Zao, Zap, Zaq, Zar, Zas, Zat, Zau, ite_true, ite_false, reduceCtorEq, Nat.reduceAdd, Nat.reduceMul, Nat.reduceLeDiff, Nat.reduceLT, Nat.reduceEqDiff, forall_const]
      congr 2
      refine congrArg bl (tab_congr fun j hj => ?_)
      rw [cov_take hx]
      congr 1
      by_cases h1 : s.1 ≤ j
      · have : ((j : Int) < i) ↔ ((j : Int) < s.2) := by omega
        simp [h1, this]
      · simp [h1]
  · intro h
    have hge : l.length ≤ k := by have := of_decide_eq_false h; omega
    rw [List.take_of_length_le hge]
    simp only [ZZ, Za, Zb, Zc, Zd, Ze, Zf, Zg, Zh, rd, AV.un, AV.unA, AV.ad, Zi, Zj, Zk, Zl, Zm, Zn, Zo, Zp, Zq, Zr, Zs, Zt, Zu, Zv, Zw, Zx, Zy, Zz, Zaa, Zab, Zac, Zad, wk1, wk, Zae, Zaf, Zag, Zah, Zai, Zaj, Zak, Zal, AV.kill, AO.kill, AV.thaw, AO.thaw, Zam, Zan, Zao, Zap, Zaq, Zar, Zas, Zat, Zau, ite_true, ite_false, reduceCtorEq, Nat.reduceAdd, Nat.reduceMul, Nat.reduceLeDiff, Nat.reduceLT, Nat.reduceEqDiff, forall_const]
    exact fin_F 10 _ rfl rfl rfl

def onAt (p : List Bool) (i : Nat) : Bool := p.getD i false
def setTo (out : List (Int × Int)) (v : Int) : List (Int × Int) := out.set (out.length - 1) ((out.getD (out.length - 1) (0, 0)).1, v)
def begS (p : List Bool) (out : List (Int × Int)) (i : Nat) : List (Int × Int) := if (onAt p i && (decide (i = 0) || !onAt p (i - 1))) = true then out ++ [((i : Int), 0)] else out
def stepS (p : List Bool) (out : List (Int × Int)) (i : Nat) : List (Int × Int) := if onAt p i = true then setTo (begS p out i) (i + 1) else begS p out i
def spansFromF (p : List Bool) : List (Int × Int) := (List.range p.length).foldl (stepS p) []
theorem range_foldl {β : Type} {f : β → Nat → β} {z : β} {k : Nat} : (List.range (k + 1)).foldl f z = f ((List.range k).foldl f z) k := by
  rw [List.range_succ]; simp
theorem begS_len (p : List Bool) (out : List (Int × Int)) (i : Nat) : (begS p out i).length ≤ out.length + 1 := by
  unfold begS; split <;> simp
theorem stepS_len (p : List Bool) (out : List (Int × Int)) (i : Nat) : (stepS p out i).length = (begS p out i).length := by
  unfold stepS setTo; split <;> simp

theorem spansFrom_ok (p : List Bool) (hp : p.length ≤ 1000000) : PCall Tryd.prog E 96 [.sl 1 (bl p)] (· = sps (spansFromF p)) := by
  refine pcallF mixed Tryd.func96 ck_chaseref1_spansFrom ?_
  simp only [a0, l0, OS.ao, List.map_cons, List.map_nil, List.length_cons, List.length_nil, List.cons_append, List.nil_append, Nat.reduceSub, Nat.reduceAdd, List.replicate_succ, List.replicate_zero, ir_chaseref1_spansFrom, rs_chaseref1_spansFrom, ZZ, Za, Zb, Zc, Zd, Ze, Zf, Zg, Zh, rd, AV.un, AV.unA, AV.ad, Zi, Zj, Zk, Zl, Zm, Zn, Zo, Zp, Zq, Zr, Zs, Zt, Zu, Zv, Zw, Zx, Zy, Zz, Zaa, Zab, Zac, Zad, wk1, wk, Zae, Zaf, Zag, Zah, Zai, Zaj, Zak, Zal, AV.kill, AO.kill, AV.thaw, AO.thaw, Zam, Zan, Zao, Zap, Zaq, Zar, Zas, Zat, Zau, ite_true, ite_false, reduceCtorEq, Nat.reduceAdd, Nat.reduceMul, Nat.reduceLeDiff, Nat.reduceLT, Nat.reduceEqDiff, forall_const]
  generalize hes : bl p = es
  have hln : es.length = p.length := by rw [← hes]; simp [bl]
  refine loop_intro (fun n fr L => ∃ (k : Nat) (out : List (Int × Int)), k ≤ p.length ∧ n = p.length - k ∧ out = (List.range k).foldl (stepS p) [] ∧ out.length ≤ k ∧ (onAt p (k - 1) = true → 0 < k → 0 < out.length) ∧ fr = [.p (.sl 1 es), .any, .any, .row (.l 3), .any, .any, .p (.sl 1 es), .p (int (es.length : Nat)), .p (int (k : Nat)), .any, .any, .any, .any, .any, .any, .any, .any, .any, .any, .any, .any, .any, .any, .any, .any, .any, .any, .any, .any, .any, .any, .any, .any, .any, .any, .any, .any, .any, .any, .any, .any, .any] ∧ L = [(.l 3, .row (out.map spn) tSpan 2 true)]) p.length [.p (.sl 1 es), .any, .any, .row (.l 3), .any, .any, .p (.sl 1 es), .p (int (es.length : Nat)), .p (int (0 : Nat)), .any, .any, .any, .any, .any, .any, .any, .any, .any, .any, .any, .any, .any, .any, .any, .any, .any, .any, .any, .any, .any, .any, .any, .any, .any, .any, .any, .any, .any, .any, .any, .any, .any] [(.l 3, .row [] tSpan 2 true)] (by (simp only [ZZ, Za, Zb, Zc, Zd, Ze, Zf, Zg, Zh, rd, AV.un, AV.unA, AV.ad, Zi, Zj, Zk, Zl, Zm, Zn, Zo, Zp, Zq, Zr, Zs, Zt, Zu, Zv, Zw, Zx, Zy, Zz, Zaa, Zab, Zac, Zad, wk1, wk, Zae, Zaf, Zag, Zah, Zai, Zaj, Zak, Zal, AV.kill, AO.kill, AV.thaw, AO.thaw, Zam, Zan, Zao, Zap, Zaq, Zar, Zas, Zat, Zau, ite_true, ite_false, reduceCtorEq, Nat.reduceAdd, Nat.reduceMul, Nat.reduceLeDiff, Nat.reduceLT, Nat.reduceEqDiff, forall_const]; try trivial)) (by simp only [ZZ, Za, Zb, Zc, Zd, Ze, Zf, Zg, Zh, rd, AV.un, AV.unA, AV.ad, Zi, Zj, Zk, Zl, Zm, Zn, Zo, Zp, Zq, Zr, Zs, Zt, Zu, Zv, Zw, Zx, Zy, Zz, Zaa, Zab, Zac, Zad, wk1, wk, Zae, Zaf, Zag, Zah, Zai, Zaj, Zak, Zal, AV.kill, AO.kill, AV.thaw, AO.thaw, Zam, Zan, Zao, Zap, Zaq, Zar, Zas, Zat, Zau, ite_true, ite_false, reduceCtorEq, Nat.reduceAdd, Nat.reduceMul, Nat.reduceLeDiff, Nat.reduceLT, Nat.reduceEqDiff, forall_const]) ⟨0, [], by omega, by omega, rfl, by simp, by omega, rfl, rfl⟩ ?_
  rintro n fr L ⟨k, out, hk, rfl, hout, hol, hon, rfl, rfl⟩
  simp only [ir_chaseref1_spansFrom_L0, ZZ, Za, Zb, Zc, Zd, Ze, Zf, Zg, Zh, rd, AV.un, AV.unA, AV.ad, Zi, Zj, Zk, Zl, Zm, Zn, Zo, Zp, Zq, Zr, Zs, Zt, Zu, Zv, Zw, Zx, Zy, Zz, Zaa, Zab, Zac, Zad, wk1, wk, Zae, Zaf, Zag, Zah, Zai, Zaj, Zak, Zal, AV.kill, AO.kill, AV.thaw, AO.thaw, Zam, Zan, Zao, Zap, Zaq, Zar, Zas, Zat, Zau, ite_true, ite_false, reduceCtorEq, Nat.reduceAdd, Nat.reduceMul, Nat.reduceLeDiff, Nat.reduceLT, Nat.reduceEqDiff, forall_const]
  refine br ?_ ?_
  · intro h
    have hlt : k < p.length := by have := of_decide_eq_true h; omega
    have hg : ∀ j, j < p.length → es.getD j [] = [.bool (onAt p j)] := by
      intro j hj
      rw [← hes, show bl p = p.map (fun b => [PV.bool b]) from rfl]
      obtain ⟨b, hb⟩ : ∃ b, p[j]? = some b := ⟨_, List.getElem?_eq_getElem hj⟩
      rw [getD_map hb, onAt, List.getD_eq_getElem?_getD, hb]
      rfl
    have hg1 := hg k hlt
    have hg2 := hg (k - 1) (by omega)
    have hn1 : ((k : Int) - 1).toNat = k - 1 := by omega
    have hk0 : decide ((k : Int) = 0) = decide (k = 0) := by simp
    have hnx : (List.range (k + 1)).foldl (stepS p) [] = stepS p out k := by rw [range_foldl, ← hout]
    simp only [ZZ, Za, Zb, Zc, Zd, Ze, Zf, Zg, Zh, rd, AV.un, AV.unA, AV.ad, Zi, Zj, Zk, Zl, Zm, Zn, Zo, Zp, Zq, Zr, Zs, Zt, Zu, Zv, Zw, Zx, Zy, Zz, Zaa, Zab, Zac, Zad, wk1, wk, Zae, Zaf, Zag, Zah, Zai, Zaj, Zak, Zal, AV.kill, AO.kill, AV.thaw, AO.thaw, Zam, Zan, Zao, Zap, Zaq, Zar, Zas, Zat, Zau, ite_true, ite_false, reduceCtorEq, Nat.reduceAdd, Nat.reduceMul, Nat.reduceLeDiff, Nat.reduceLT, Nat.reduceEqDiff, forall_const, hg1, hg2, hn1, hk0]
    ((repeat' (with_reducible apply And.intro)) <;> try ((first | first | assumption | trivial | exact (fun hq => by rw [hq]; rfl) | exact i64_of (by omega) (by omega) | omega | (simp; done) | (simp; omega) | (intro hsc; have hs0 := hsc; (try have hsd := of_decide_eq_true hsc); (try simp only [Bool.not_eq_true', Bool.or_eq_false_iff, Bool.and_eq_true, Bool.or_eq_true, decide_eq_true_eq, decide_eq_false_iff_not] at hsc); (repeat' (with_reducible apply And.intro)) <;> (first | assumption | trivial | exact (fun hq => by rw [hq]; rfl) | exact i64_of (by omega) (by omega) | omega | (simp; done) | (simp; omega) | (intro hse; simp [hse, hs0]; done))))))
    refine br_join (fun fr L => ∃ o1, o1 = begS p out k ∧ fr = [.p (.sl 1 es), .any, .any, .row (.l 3), .p (int (k : Nat)), .p (.bool (onAt p k)), .p (.sl 1 es), .p (int (es.length : Nat)), .p (int (k : Nat)), .any, .any, .any, .any, .any, .any, .any, .any, .any, .any, .any, .any, .any, .any, .any, .any, .any, .any, .any, .any, .any, .any, .any, .any, .any, .any, .any, .any, .any, .any, .any, .any, .any] ∧ L = [(.l 3, .row (o1.map spn) tSpan 2 true)]) ?_ ?_ ?_
    · intro hb
      simp only [ZZ, Za, Zb, Zc, Zd, Ze, Zf, Zg, Zh, rd, AV.un, AV.unA, AV.ad, Zi, Zj, Zk, Zl, Zm, Zn, Zo, Zp, Zq, Zr, Zs, Zt, Zu, Zv, Zw, Zx, Zy, Zz, Zaa, Zab, Zac, Zad, wk1, wk, Zae, Zaf, Zag, Zah, Zai, Zaj, Zak, Zal, AV.kill, AO.kill, AV.thaw, AO.thaw, Zam, Zan, Zao, Zap, Zaq, Zar, Zas, Zat, Zau, ite_true, ite_false, reduceCtorEq, Nat.reduceAdd, Nat.reduceMul, Nat.reduceLeDiff, Nat.reduceLT, Nat.reduceEqDiff, forall_const]
      refine ⟨by simp; omega, ?_⟩
      refine to_mid [.p (.sl 1 es), .any, .any, .row (.l 3), .p (int (k : Nat)), .p (.bool (onAt p k)), .p (.sl 1 es), .p (int (es.length : Nat)), .p (int (k : Nat)), .any, .any, .any, .any, .any, .any, .any, .any, .any, .any, .any, .any, .any, .any, .any, .any, .any, .any, .any, .any, .any, .any, .any, .any, .any, .any, .any, .any, .any, .any, .any, .any, .any] [(.l 3, .row ((out ++ [((k : Int), 0)]).map spn) tSpan 2 true)] (by (simp only [ZZ, Za, Zb, Zc, Zd, Ze, Zf, Zg, Zh, rd, AV.un, AV.unA, AV.ad, Zi, Zj, Zk, Zl, Zm, Zn, Zo, Zp, Zq, Zr, Zs, Zt, Zu, Zv, Zw, Zx, Zy, Zz, Zaa, Zab, Zac, Zad, wk1, wk, Zae, Zaf, Zag, Zah, Zai, Zaj, Zak, Zal, AV.kill, AO.kill, AV.thaw, AO.thaw, Zam, Zan, Zao, Zap, Zaq, Zar, Zas, Zat, Zau, ite_true, ite_false, reduceCtorEq, Nat.reduceAdd, Nat.reduceMul, Nat.reduceLeDiff, Nat.reduceLT, Nat.reduceEqDiff, forall_const]; try trivial)) (by simp only [List.map_append, spn, ZZ, Za, Zb, Zc, Zd, Ze, Zf, Zg, Zh, rd, AV.un, AV.unA, AV.ad, Zi, Zj, Zk, Zl, Zm, Zn, Zo, Zp, Zq, Zr, Zs, Zt, Zu, Zv, Zw, Zx, Zy, Zz, Zaa, Zab, Zac, Zad, wk1, wk, Zae, Zaf, Zag, Zah, Zai, Zaj, Zak, Zal, AV.kill, AO.kill, AV.thaw, AO.thaw, Zam, Zan, Zao, Zap, Zaq, Zar, Zas, Zat, Zau, ite_true, ite_false, reduceCtorEq, Nat.reduceAdd, Nat.reduceMul, Nat.reduceLeDiff, Nat.reduceLT, Nat.reduceEqDiff, forall_const]) ⟨out ++ [((k : Int), 0)], by rw [begS, if_pos (by simpa using hb)], rfl, rfl⟩
    · intro hb
      simp only [ZZ, Za, Zb, Zc, Zd, Ze, Zf, Zg, Zh, rd, AV.un, AV.unA, AV.ad, Zi, Zj, Zk, Zl, Zm, Zn, Zo, Zp, Zq, Zr, Zs, Zt, Zu, Zv, Zw, Zx, Zy, Zz, Zaa, Zab, Zac, Zad, wk1, wk, Zae, Zaf, Zag, Zah, Zai, Zaj, Zak, Zal, AV.kill, AO.kill, AV.thaw, AO.thaw, Zam, Zan, Zao, Zap, Zaq, Zar, Zas, Zat, Zau, ite_true, ite_false, reduceCtorEq, Nat.reduceAdd, Nat.reduceMul, Nat.reduceLeDiff, Nat.reduceLT, Nat.reduceEqDiff, forall_const]
      refine to_mid [.p (.sl 1 es), .any, .any, .row (.l 3), .p (int (k : Nat)), .p (.bool (onAt p k)), .p (.sl 1 es), .p (int (es.length : Nat)), .p (int (k : Nat)), .any, .any, .any, .any, .any, .any, .any, .any, .any, .any, .any, .any, .any, .any, .any, .any, .any, .any, .any, .any, .any, .any, .any, .any, .any, .any, .any, .any, .any, .any, .any, .any, .any] [(.l 3, .row (out.map spn) tSpan 2 true)] (by (simp only [ZZ, Za, Zb, Zc, Zd, Ze, Zf, Zg, Zh, rd, AV.un, AV.unA, AV.ad, Zi, Zj, Zk, Zl, Zm, Zn, Zo, Zp, Zq, Zr, Zs, Zt, Zu, Zv, Zw, Zx, Zy, Zz, Zaa, Zab, Zac, Zad, wk1, wk, Zae, Zaf, Zag, Zah, Zai, Zaj, Zak, Zal, AV.kill, AO.kill, AV.thaw, AO.thaw, Zam, Zan, Zao, Zap, Zaq, Zar, Zas, Zat, Zau, ite_true, ite_false, reduceCtorEq, Nat.reduceAdd, Nat.reduceMul, Nat.reduceLeDiff, Nat.reduceLT, Nat.reduceEqDiff, forall_const]; try trivial)) (by simp only [ZZ, Za, Zb, Zc, Zd, Ze, Zf, Zg, Zh, rd, AV.un, AV.unA, AV.ad, Zi, Zj, Zk, Zl, Zm, Zn, Zo, Zp, Zq, Zr, Zs, Zt, Zu, Zv, Zw, Zx, Zy, Zz, Zaa, Zab, Zac, Zad, wk1, wk, Zae, Zaf, Zag, Zah, Zai, Zaj, Zak, Zal, AV.kill, AO.kill, AV.thaw, AO.thaw, Zam, Zan, Zao, Zap, Zaq, Zar, Zas, Zat, Zau, ite_true, ite_false, reduceCtorEq, Nat.reduceAdd, Nat.reduceMul, Nat.reduceLeDiff, Nat.reduceLT, Nat.reduceEqDiff, forall_const]) ⟨out, by rw [begS, if_neg (by simpa using hb)], rfl, rfl⟩
    rintro fr L ⟨o1, ho1, rfl, rfl⟩
    have hl1 := begS_len p out k
    rw [← ho1] at hl1
    simp only [ZZ, Za, Zb, Zc, Zd, Ze, Zf, Zg, Zh, rd, AV.un, AV.unA, AV.ad, Zi, Zj, Zk, Zl, Zm, Zn, Zo, Zp, Zq, Zr, Zs, Zt, Zu, Zv, Zw, Zx, Zy, Zz, Zaa, Zab, Zac, Zad, wk1, wk, Zae, Zaf, Zag, Zah, Zai, Zaj, Zak, Zal, AV.kill, AO.kill, AV.thaw, AO.thaw, Zam, Zan, Zao, Zap, Zaq, Zar, Zas, Zat, Zau, ite_true, ite_false, reduceCtorEq, Nat.reduceAdd, Nat.reduceMul, Nat.reduceLeDiff, Nat.reduceLT, Nat.reduceEqDiff, forall_const]
    refine br ?_ ?_
    · intro hb
      have hne : 0 < o1.length := by
        rw [ho1, begS, hb]
        by_cases hk0 : k = 0
        · simp [hk0]
        · by_cases hb1 : onAt p (k - 1) = true
          · have := hon hb1 (by omega)
            simp [hk0, hb1, this]
          · simp [hk0, hb1]
      obtain ⟨y, hy⟩ : ∃ y, o1[o1.length - 1]? = some y := ⟨_, List.getElem?_eq_getElem (by omega)⟩
      have hgy : (o1.map spn).getD (o1.length - 1) [] = spn y := getD_map hy
      have hnl : (((o1.map spn).length : Int) - 1).toNat = o1.length - 1 := by rw [List.length_map]; omega
      have hml : (o1.map spn).length = o1.length := by simp
      have hst : (o1.map spn).set (o1.length - 1) [int y.1, int ((k : Int) + 1)] = (setTo o1 (k + 1)).map spn := by
        rw [setTo, List.map_set, show o1.getD (o1.length - 1) (0, 0) = y from by simp [List.getD, hy]]
        rfl
      simp only [ZZ, Za, Zb, Zc, Zd, Ze, Zf, Zg, Zh, rd, AV.un, AV.unA, AV.ad, Zi, Zj, Zk, Zl, Zm, Zn, Zo, Zp, Zq, Zr, Zs, Zt, Zu, Zv, Zw, Zx, Zy, Zz, Zaa, Zab, Zac, Zad, wk1, wk, Zae, Zaf, Zag, Zah, Zai, Zaj, Zak, Zal, AV.kill, AO.kill, AV.thaw, AO.thaw, Zam, Zan, Zao, Zap, Zaq, Zar, Zas, Zat, Zau, ite_true, ite_false, reduceCtorEq, Nat.reduceAdd, Nat.reduceMul, Nat.reduceLeDiff, Nat.reduceLT, Nat.reduceEqDiff, forall_const, hnl, hgy, spn]
      simp only [List.set_cons_succ, List.set_cons_zero, hst]
      ((repeat' (with_reducible apply And.intro)) <;> try ((first | first | assumption | trivial | exact (fun hq => by rw [hq]; rfl) | exact i64_of (by omega) (by omega) | omega | (simp; done) | (simp; omega) | (intro hsc; have hs0 := hsc; (try have hsd := of_decide_eq_true hsc); (try simp only [Bool.not_eq_true', Bool.or_eq_false_iff, Bool.and_eq_true, Bool.or_eq_true, decide_eq_true_eq, decide_eq_false_iff_not] at hsc); (repeat' (with_reducible apply And.intro)) <;> (first | assumption | trivial | exact (fun hq => by rw [hq]; rfl) | exact i64_of (by omega) (by omega) | omega | (simp; done) | (simp; omega) | (intro hse; simp [hse, hs0]; done))))))
      refine cut_same (by simp only [ZZ, Za, Zb, Zc, Zd, Ze, Zf, Zg, Zh, rd, AV.un, AV.unA, AV.ad, Zi, Zj, Zk, Zl, Zm, Zn, Zo, Zp, Zq, Zr, Zs, Zt, Zu, Zv, Zw, Zx, Zy, Zz, Zaa, Zab, Zac, Zad, wk1, wk, Zae, Zaf, Zag, Zah, Zai, Zaj, Zak, Zal, AV.kill, AO.kill, AV.thaw, AO.thaw, Zam, Zan, Zao, Zap, Zaq, Zar, Zas, Zat, Zau, ite_true, ite_false, reduceCtorEq, Nat.reduceAdd, Nat.reduceMul, Nat.reduceLeDiff, Nat.reduceLT, Nat.reduceEqDiff, forall_const]) ?_
      simp only [ZZ, Za, Zb, Zc, Zd, Ze, Zf, Zg, Zh, rd, AV.un, AV.unA, AV.ad, Zi, Zj, Zk, Zl, Zm, Zn, Zo, Zp, Zq, Zr, Zs, Zt, Zu, Zv, Zw, Zx, Zy, Zz, Zaa, Zab, Zac, Zad, wk1, wk, Zae, Zaf, Zag, Zah, Zai, Zaj, Zak, Zal, AV.kill, AO.kill, AV.thaw, AO.thaw, Zam, Zan, Zao, Zap, Zaq, Zar, Zas, Zat, Zau, ite_true, ite_false, reduceCtorEq, Nat.reduceAdd, Nat.reduceMul, Nat.reduceLeDiff, Nat.reduceLT, Nat.reduceEqDiff, forall_const]
      ((repeat' (with_reducible apply And.intro)) <;> try ((first | first | assumption | trivial | exact (fun hq => by rw [hq]; rfl) | exact i64_of (by omega) (by omega) | omega | (simp; done) | (simp; omega) | (intro hsc; have hs0 := hsc; (try have hsd := of_decide_eq_true hsc); (try simp only [Bool.not_eq_true', Bool.or_eq_false_iff, Bool.and_eq_true, Bool.or_eq_true, decide_eq_true_eq, decide_eq_false_iff_not] at hsc); (repeat' (with_reducible apply And.intro)) <;> (first | assumption | trivial | exact (fun hq => by rw [hq]; rfl) | exact i64_of (by omega) (by omega) | omega | (simp; done) | (simp; omega) | (intro hse; simp [hse, hs0]; done))))))
      refine end_round (p.length - (k + 1)) [.p (.sl 1 es), .any, .any, .row (.l 3), .any, .any, .p (.sl 1 es), .p (int (es.length : Nat)), .p (int ((k + 1 : Nat))), .any, .any, .any, .any, .any, .any, .any, .any, .any, .any, .any, .any, .any, .any, .any, .any, .any, .any, .any, .any, .any, .any, .any, .any, .any, .any, .any, .any, .any, .any, .any, .any, .any] [(.l 3, .row ((setTo o1 (k + 1)).map spn) tSpan 2 true)] (by omega) (by (simp only [ZZ, Za, Zb, Zc, Zd, Ze, Zf, Zg, Zh, rd, AV.un, AV.unA, AV.ad, Zi, Zj, Zk, Zl, Zm, Zn, Zo, Zp, Zq, Zr, Zs, Zt, Zu, Zv, Zw, Zx, Zy, Zz, Zaa, Zab, Zac, Zad, wk1, wk, Zae, Zaf, Zag, Zah, Zai, Zaj, Zak, Zal, AV.kill, AO.kill, AV.thaw, AO.thaw, Zam, Zan, Zao, Zap, Zaq, Zar, Zas, Zat, Zau, ite_true, ite_false, reduceCtorEq, Nat.reduceAdd, Nat.reduceMul, Nat.reduceLeDiff, Nat.reduceLT, Nat.reduceEqDiff, forall_const]; try trivial)) (by simp only [ZZ, Za, Zb, Zc, Zd, Ze, Zf, Zg, Zh, rd, AV.un, AV.unA, AV.ad, Zi, Zj, Zk, Zl, Zm, Zn, Zo, Zp, Zq, Zr, Zs, Zt, Zu, Zv, Zw, Zx, Zy, Zz, Zaa, Zab, Zac, Zad, wk1, wk, Zae, Zaf, Zag, Zah, Zai, Zaj, Zak, Zal, AV.kill, AO.kill, AV.thaw, AO.thaw, Zam, Zan, Zao, Zap, Zaq, Zar, Zas, Zat, Zau, ite_true, ite_false, reduceCtorEq, Nat.reduceAdd, Nat.reduceMul, Nat.reduceLeDiff, Nat.reduceLT, Nat.reduceEqDiff, forall_const]) ⟨k + 1, setTo o1 (k + 1), by omega, rfl, by rw [hnx, stepS, if_pos hb, ho1], by simp [setTo]; omega, by simp [setTo]; omega, rfl, rfl⟩
    · intro hb
      simp only [ZZ, Za, Zb, Zc, Zd, Ze, Zf, Zg, Zh, rd, AV.un, AV.unA, AV.ad, Zi, Zj, Zk, Zl, Zm, Zn, Zo, Zp, Zq, Zr, Zs, Zt, Zu, Zv, Zw, Zx, Zy, Zz, Zaa, Zab, Zac, Zad, wk1, wk, Zae, Zaf, Zag, Zah, Zai, Zaj, Zak, Zal, AV.kill, AO.kill, AV.thaw, AO.thaw, Zam, Zan, Zao, Zap, Zaq, Zar, Zas, Zat, Zau, ite_true, ite_false, reduceCtorEq, Nat.reduceAdd, Nat.reduceMul, Nat.reduceLeDiff, Nat.reduceLT, Nat.reduceEqDiff, forall_const]
      refine cut_same (by simp only [ZZ, Za, Zb, Zc, Zd, Ze, Zf, Zg, Zh, rd, AV.un, AV.unA, AV.ad, Zi, Zj, Zk, Zl, Zm, Zn, Zo, Zp, Zq, Zr, Zs, Zt, Zu, Zv, Zw, Zx, Zy, Zz, Zaa, Zab, Zac, Zad, wk1, wk, Zae, Zaf, Zag, Zah, Zai, Zaj, Zak, Zal, AV.kill, AO.kill, AV.thaw, AO.thaw, Zam, Zan, Zao, Zap, Zaq, Zar, Zas, Zat, Zau, ite_true, ite_false, reduceCtorEq, Nat.reduceAdd, Nat.reduceMul, Nat.reduceLeDiff, Nat.reduceLT, Nat.reduceEqDiff, forall_const]) ?_
      simp only [ZZ, Za, Zb, Zc, Zd, Ze, Zf, Zg, Zh, rd, AV.un, AV.unA, AV.ad, Zi, Zj, Zk, Zl, Zm, Zn, Zo, Zp, Zq, Zr, Zs, Zt, Zu, Zv, Zw, Zx, Zy, Zz, Zaa, Zab, Zac, Zad, wk1, wk, Zae, Zaf, Zag, Zah, Zai, Zaj, Zak, Zal, AV.kill, AO.kill, AV.thaw, AO.thaw, Zam, Zan, Zao, Zap, Zaq, Zar, Zas, Zat, Zau, ite_true, ite_false, reduceCtorEq, Nat.reduceAdd, Nat.reduceMul, Nat.reduceLeDiff, Nat.reduceLT, Nat.reduceEqDiff, forall_const]
      ((repeat' (with_reducible apply And.intro)) <;> try ((first | first | assumption | trivial | exact (fun hq => by rw [hq]; rfl) | exact i64_of (by omega) (by omega) | omega | (simp; done) | (simp; omega) | (intro hsc; have hs0 := hsc; (try have hsd := of_decide_eq_true hsc); (try simp only [Bool.not_eq_true', Bool.or_eq_false_iff, Bool.and_eq_true, Bool.or_eq_true, decide_eq_true_eq, decide_eq_false_iff_not] at hsc); (repeat' (with_reducible apply And.intro)) <;> (first | assumption | trivial | exact (fun hq => by rw [hq]; rfl) | exact i64_of (by omega) (by omega) | omega | (simp; done) | (simp; omega) | (intro hse; simp [hse, hs0]; done))))))
      refine end_round (p.length - (k + 1)) [.p (.sl 1 es), .any, .any, .row (.l 3), .any, .any, .p (.sl 1 es), .p (int (es.length : Nat)), .p (int ((k + 1 : Nat))), .any, .any, .any, .any, .any, .any, .any, .any, .any, .any, .any, .any, .any, .any, .any, .any, .any, .any, .any, .any, .any, .any, .any, .any, .any, .any, .any, .any, .any, .any, .any, .any, .any] [(.l 3, .row (o1.map spn) tSpan 2 true)] (by omega) (by (simp only [ZZ, Za, Zb, Zc, Zd, Ze, Zf, Zg, Zh, rd, AV.un, AV.unA, AV.ad, Zi, Zj, Zk, Zl, Zm, Zn, Zo, Zp, Zq, Zr, Zs, Zt, Zu, Zv, Zw, Zx, Zy, Zz, Zaa, Zab, Zac, Zad, wk1, wk, Zae, Zaf, Zag, Zah, Zai, Zaj, Zak, Zal, AV.kill, AO.kill, AV.thaw, AO.thaw, Zam, Zan, Zao, Zap, Zaq, Zar, Zas, Zat, Zau, ite_true, ite_false, reduceCtorEq, Nat.reduceAdd, Nat.reduceMul, Nat.reduceLeDiff, Nat.reduceLT, Nat.reduceEqDiff, forall_const]; try trivial)) (by simp only [ZZ, Za, Zb, Zc, Zd, Ze, Zf, Zg, Zh, rd, AV.un, AV.unA, AV.ad, Zi, Zj, Zk, Zl, Zm, Zn, Zo, Zp, Zq, Zr, Zs, Zt, Zu, Zv, Zw, Zx, Zy, Zz, Zaa, Zab, Zac, Zad, wk1, wk, Zae, Zaf, Zag, Zah, Zai, Zaj, Zak, Zal, AV.kill, AO.kill, AV.thaw, AO.thaw, Zam, Zan, Zao, Zap, Zaq, Zar, Zas, Zat, Zau, ite_true, ite_false, reduceCtorEq, Nat.reduceAdd, Nat.reduceMul, Nat.reduceLeDiff, Nat.reduceLT, Nat.reduceEqDiff, forall_const]) ⟨k + 1, o1, by omega, rfl, by rw [hnx, stepS, if_neg (by simp [hb]), ho1], by omega, by simp [hb], rfl, rfl⟩
  · intro h
    have hge : p.length ≤ k := by have := of_decide_eq_false h; omega
    have : k = p.length := by omega
    subst this
    simp only [ZZ, Za, Zb, Zc, Zd, Ze, Zf, Zg, Zh, rd, AV.un, AV.unA, AV.ad, Zi, Zj, Zk, Zl, Zm, Zn, Zo, Zp, Zq, Zr, Zs, Zt, Zu, Zv, Zw, Zx, Zy, Zz, Zaa, Zab, Zac, Zad, wk1, wk, Zae, Zaf, Zag, Zah, Zai, Zaj, Zak, Zal, AV.kill, AO.kill, AV.thaw, AO.thaw, Zam, Zan, Zao, Zap, Zaq, Zar, Zas, Zat, Zau, ite_true, ite_false, reduceCtorEq, Nat.reduceAdd, Nat.reduceMul, Nat.reduceLeDiff, Nat.reduceLT, Nat.reduceEqDiff, forall_const]
    rw [hout]
    rfl

theorem firstE_mem {l : List Int} (h : firstE l = 0) : ∀ x ∈ l, x = 0 := by
  induction l with
  | nil => intro x hx; cases hx
  | cons a l ih =>
    intro x hx
    simp only [firstE] at h
    split at h
    · rename_i ha
      rcases List.mem_cons.1 hx with rfl | hx
      · exact ha
      · exact ih h x hx
    · rename_i ha; exact absurd h ha
theorem spansF_at {l : List (Int × Int)} {size : Int} (h : spansF l size = 0) {k : Nat} {x : Int × Int} (hx : l[k]? = some x) : 0 ≤ x.1 ∧ x.1 < x.2 ∧ x.2 ≤ size := by
  unfold spansF at h
  split at h
  · cases h
  · split at h
    · cases h
    · have hk := (List.getElem?_eq_some_iff.1 hx).1
      have := firstE_mem h (errAt size l k) (List.mem_of_getElem? (errAt_get size l hk))
      unfold errAt badS at this
      rw [show l.getD k (0, 0) = x from by simp [List.getD, hx]] at this
      split at this
      · cases this
      · rename_i hb
        simp at hb
        omega

end
end Go.Proofs.YtpddiepfolfnoaaDoor

/- Spans: a right list is told by what it covers (plain). -/
namespace Go.Proofs.YtpddiepfolfnoaaDoor
set_option linter.unusedVariables false
set_option linter.unusedSimpArgs false
set_option linter.defProp false

def cv (l : List (Int × Int)) (j : Int) : Prop := ∃ s ∈ l, s.1 ≤ j ∧ j < s.2
structure Right (l : List (Int × Int)) : Prop where
  ok : ∀ s ∈ l, s.1 < s.2
  ord : l.Pairwise (fun s t => s.2 < t.1)
theorem Right.tail {s : Int × Int} {l : List (Int × Int)} (h : Right (s :: l)) : Right l := ⟨fun t ht => h.ok t (by simp [ht]), (List.pairwise_cons.1 h.ord).2⟩
theorem Right.head {s : Int × Int} {l : List (Int × Int)} (h : Right (s :: l)) : s.1 < s.2 ∧ ∀ t ∈ l, s.2 < t.1 := ⟨h.ok s (by simp), (List.pairwise_cons.1 h.ord).1⟩

theorem right_uniq : ∀ {l m : List (Int × Int)}, Right l → Right m → (∀ j, cv l j ↔ cv m j) → l = m := by
  have head : ∀ {s t : Int × Int} {l m : List (Int × Int)}, Right (s :: l) → Right (t :: m) → (∀ j, cv (s :: l) j ↔ cv (t :: m) j) → t.1 ≤ s.1 := by
    intro s t l m hl hm h
    obtain ⟨u, hu, h1, h2⟩ := (h s.1).1 ⟨s, by simp, by have := hl.head.1; omega⟩
    rcases List.mem_cons.1 hu with rfl | hu
    · exact h1
    · have := hm.head.2 u hu
      have := hm.head.1
      omega
  have tl : ∀ {s t : Int × Int} {l m : List (Int × Int)}, Right (s :: l) → Right (t :: m) → s.1 = t.1 → (∀ j, cv (s :: l) j ↔ cv (t :: m) j) → t.2 ≤ s.2 := by
    intro s t l m hl hm e h
    refine Int.not_lt.1 fun hlt => ?_
    have h0 := hl.head.1
    obtain ⟨u, hu, h1, h2⟩ := (h s.2).2 ⟨t, by simp, by omega⟩
    rcases List.mem_cons.1 hu with rfl | hu
    · omega
    · have := hl.head.2 u hu
      omega
  intro l
  induction l with
  | nil =>
    intro m hl hm h
    cases m with
    | nil => rfl
    | cons t m =>
      obtain ⟨u, hu, _⟩ := (h t.1).2 ⟨t, by simp, by have := hm.head.1; omega⟩
      cases hu
  | cons s l ih =>
    intro m hl hm h
    cases m with
    | nil =>
      obtain ⟨u, hu, _⟩ := (h s.1).1 ⟨s, by simp, by have := hl.head.1; omega⟩
      cases hu
    | cons t m =>
      have e1 : s.1 = t.1 := Int.le_antisymm (head hm hl fun j => (h j).symm) (head hl hm h)
      have e2 : s.2 = t.2 := Int.le_antisymm (tl hm hl e1.symm fun j => (h j).symm) (tl hl hm e1 h)
      have e : s = t := Prod.ext e1 e2
      subst e
      rw [ih hl.tail hm.tail fun j => ?_]
      have key : ∀ {l m : List (Int × Int)}, Right (s :: l) → (∀ j, cv (s :: l) j → cv (s :: m) j) → cv l j → cv m j := by
        rintro l m hl h ⟨u, hu, h1, h2⟩
        obtain ⟨v, hv, g1, g2⟩ := h j ⟨u, by simp [hu], h1, h2⟩
        rcases List.mem_cons.1 hv with rfl | hv
        · have := hl.head.2 u hu
          omega
        · exact ⟨v, hv, g1, g2⟩
      exact ⟨key hl fun j => (h j).1, key hm fun j => (h j).2⟩

/-- What spansFrom gives. -/
structure FromInv (p : List Bool) (k : Nat) (out : List (Int × Int)) : Prop where
  right : Right out
  bd : ∀ s ∈ out, s.2 ≤ k
  last : onAt p (k - 1) = true → 0 < k → ∃ (i : List (Int × Int)) (y : Int × Int), out = i ++ [y] ∧ y.2 = (k : Int)
  gap : onAt p (k - 1) = false → 0 < k → ∀ s ∈ out, s.2 < k
  cov : ∀ j, cv out j ↔ ∃ i : Nat, j = i ∧ i < k ∧ onAt p i = true

theorem cv_app {l m : List (Int × Int)} {j : Int} : cv (l ++ m) j ↔ cv l j ∨ cv m j := by
  constructor
  · rintro ⟨s, hs, h⟩
    rcases List.mem_append.1 hs with hs | hs
    · exact .inl ⟨s, hs, h⟩
    · exact .inr ⟨s, hs, h⟩
  · rintro (⟨s, hs, h⟩ | ⟨s, hs, h⟩)
    · exact ⟨s, by simp [hs], h⟩
    · exact ⟨s, by simp [hs], h⟩
theorem cv_one {y : Int × Int} {j : Int} : cv [y] j ↔ y.1 ≤ j ∧ j < y.2 := by
  constructor
  · rintro ⟨s, hs, h⟩
    rw [List.mem_singleton] at hs
    subst hs
    exact h
  · intro h; exact ⟨y, by simp, h⟩
theorem right_app {l : List (Int × Int)} {y : Int × Int} : Right (l ++ [y]) ↔ Right l ∧ y.1 < y.2 ∧ ∀ s ∈ l, s.2 < y.1 := by
  constructor
  · intro h
    have := List.pairwise_append.1 h.ord
    exact ⟨⟨fun s hs => h.ok s (by simp [hs]), this.1⟩, h.ok y (by simp), fun s hs => this.2.2 s hs y (by simp)⟩
  · rintro ⟨h1, h2, h3⟩
    refine ⟨fun s hs => ?_, List.pairwise_append.2 ⟨h1.ord, by simp, fun s hs t ht => ?_⟩⟩
    · rcases List.mem_append.1 hs with hs | hs
      · exact h1.ok s hs
      · rw [List.mem_singleton] at hs; subst hs; exact h2
    · rw [List.mem_singleton] at ht; subst ht; exact h3 s hs
theorem setTo_app (i : List (Int × Int)) (y : Int × Int) (v : Int) : setTo (i ++ [y]) v = i ++ [(y.1, v)] := by
  unfold setTo
  simp

theorem from_step {p : List Bool} {k : Nat} {out : List (Int × Int)} (h : FromInv p k out) : FromInv p (k + 1) (stepS p out k) := by
  unfold stepS
  have hcov : ∀ (o : List (Int × Int)) (b : Prop), (∀ j, cv o j ↔ cv out j ∨ (j = k ∧ b)) → (b ↔ onAt p k = true) → ∀ j, cv o j ↔ ∃ i : Nat, j = i ∧ i < k + 1 ∧ onAt p i = true := by
    intro o b h1 h2 j
    rw [h1, h.cov, h2]
    constructor
    · rintro (⟨i, rfl, h3, h4⟩ | ⟨rfl, h4⟩)
      · exact ⟨i, rfl, by omega, h4⟩
      · exact ⟨k, rfl, by omega, h4⟩
    · rintro ⟨i, rfl, h3, h4⟩
      by_cases hi : i = k
      · subst hi; exact .inr ⟨rfl, h4⟩
      · exact .inl ⟨i, rfl, by omega, h4⟩
  by_cases hon : onAt p k = true
  · rw [if_pos hon]
    by_cases hprev : 0 < k ∧ onAt p (k - 1) = true
    · have hb : begS p out k = out := by
        unfold begS
        rw [if_neg (by simp [hon, hprev.2]; omega)]
      rw [hb]
      obtain ⟨i, y, rfl, hy⟩ := h.last hprev.2 hprev.1
      rw [setTo_app]
      obtain ⟨r1, r2, r3⟩ := right_app.1 h.right
      refine ⟨right_app.2 ⟨r1, by show y.1 < (k : Int) + 1; omega, r3⟩, ?_, fun _ _ => ⟨i, _, rfl, by simp⟩, ?_, ?_⟩
      · intro s hs
        rcases List.mem_append.1 hs with hs | hs
        · have := h.bd s (by simp [hs]); omega
        · rw [List.mem_singleton] at hs; subst hs; simp
      · intro hf; simp [hon] at hf
      · refine hcov _ True (fun j => ?_) (by simp [hon])
        rw [cv_app, cv_app, cv_one, cv_one]
        simp only [and_true]
        constructor
        · rintro (h1 | h1)
          · exact .inl (.inl h1)
          · by_cases hj : j = k
            · exact .inr hj
            · exact .inl (.inr (by omega))
        · rintro ((h1 | h1) | h1)
          · exact .inl h1
          · exact .inr (by omega)
          · exact .inr (by omega)
    · have hb : begS p out k = out ++ [((k : Int), 0)] := by
        unfold begS
        rw [if_pos ?_]
        simp only [hon, Bool.true_and, Bool.or_eq_true, decide_eq_true_eq, Bool.not_eq_true']
        by_cases hk : k = 0
        · exact .inl hk
        · right
          cases hq : onAt p (k - 1) with
          | false => rfl
          | true => exact absurd ⟨by omega, hq⟩ hprev
      rw [hb, setTo_app]
      have hlt : ∀ s ∈ out, s.2 < (k : Int) := by
        intro s hs
        by_cases hk : 0 < k
        · refine h.gap ?_ hk s hs
          cases hq : onAt p (k - 1) with
          | false => rfl
          | true => exact absurd ⟨hk, hq⟩ hprev
        · exfalso
          have h1 := h.right.ok s hs
          obtain ⟨i, _, hi, _⟩ := (h.cov s.1).1 ⟨s, hs, by omega⟩
          omega
      refine ⟨right_app.2 ⟨h.right, by show (k : Int) < (k : Int) + 1; omega, hlt⟩, ?_, fun _ _ => ⟨out, _, rfl, by simp⟩, ?_, ?_⟩
      · intro s hs
        rcases List.mem_append.1 hs with hs | hs
        · have := hlt s hs; omega
        · rw [List.mem_singleton] at hs; subst hs; simp
      · intro hf; simp [hon] at hf
      · refine hcov _ True (fun j => ?_) (by simp [hon])
        rw [cv_app, cv_one]
        simp only [and_true]
        constructor
        · rintro (h1 | h1)
          · exact .inl h1
          · exact .inr (by have h1 : (k : Int) ≤ j ∧ j < (k : Int) + 1 := h1; omega)
        · rintro (h1 | h1)
          · exact .inl h1
          · exact .inr (show (k : Int) ≤ j ∧ j < (k : Int) + 1 by omega)
  · rw [if_neg hon]
    have hb : begS p out k = out := by
      unfold begS
      rw [if_neg (by simp [hon])]
    rw [hb]
    refine ⟨h.right, fun s hs => by have := h.bd s hs; omega, ?_, ?_, ?_⟩
    · intro hf; simp [hon] at hf
    · intro _ _ s hs; have := h.bd s hs; omega
    · exact hcov _ False (fun j => by simp) (by simp [hon])
theorem from_all (p : List Bool) (k : Nat) : FromInv p k ((List.range k).foldl (stepS p) []) := by
  induction k with
  | zero =>
    refine ⟨⟨by simp, by simp⟩, by simp, by omega, by omega, fun j => ?_⟩
    constructor
    · rintro ⟨s, hs, _⟩; cases hs
    · rintro ⟨i, _, hi, _⟩; omega
  | succ k ih => rw [range_foldl]; exact from_step ih
theorem spansFrom_right (p : List Bool) : Right (spansFromF p) := (from_all p p.length).right
theorem spansFrom_cov (p : List Bool) (j : Int) : cv (spansFromF p) j ↔ ∃ i : Nat, j = i ∧ i < p.length ∧ onAt p i = true := (from_all p p.length).cov j
end Go.Proofs.YtpddiepfolfnoaaDoor

/- Spans: Without covers what a covers and b does not (plain). -/
namespace Go.Proofs.YtpddiepfolfnoaaDoor
set_option linter.unusedVariables false
set_option linter.unusedSimpArgs false
set_option linter.defProp false

theorem rev_ind {α : Type} {P : List α → Prop} (h0 : P []) (h1 : ∀ l x, P l → P (l ++ [x])) (l : List α) : P l := by
  rw [← List.reverse_reverse l]
  induction l.reverse with
  | nil => exact h0
  | cons x r ih => rw [List.reverse_cons]; exact h1 _ _ ih

structure InB (s : Int × Int) (o0 b : List (Int × Int)) (st : Int × List (Int × Int)) : Prop where
  lo : s.1 ≤ st.1
  src : st.1 = s.1 ∨ ∃ x ∈ b, st.1 = x.2
  right : Right st.2
  bd : ∀ t ∈ st.2, t.2 < st.1
  hi : ∀ t ∈ st.2, t ∈ o0 ∨ t.2 ≤ s.2
  fre : ∀ j, st.1 ≤ j → j < s.2 → ¬ cv b j
  cov : ∀ j, cv st.2 j ↔ cv o0 j ∨ (s.1 ≤ j ∧ j < st.1 ∧ j < s.2 ∧ ¬ cv b j)

structure InA (b a out : List (Int × Int)) : Prop where
  right : Right out
  bd : ∀ t ∈ out, ∃ s ∈ a, t.2 ≤ s.2
  cov : ∀ j, cv out j ↔ cv a j ∧ ¬ cv b j
theorem cov_cv (l : List (Int × Int)) (j : Nat) : cov l j = true ↔ cv l j := by
  unfold cov cv
  simp
theorem onAt_tab {n : Nat} {f : Nat → Bool} {i : Nat} (h : i < n) : onAt (tab n f) i = f i := by
  rw [onAt, List.getD_eq_getElem?_getD, tab_get h]; rfl

/-- A right list within a size is what spansFrom makes of the bytes that it covers. -/
theorem from_tab {out : List (Int × Int)} {n : Nat} {f : Nat → Bool} (hR : Right out) (h0 : ∀ s ∈ out, 0 ≤ s.1 ∧ s.2 ≤ n) (hf : ∀ j : Nat, j < n → (f j = true ↔ cv out j)) : out = spansFromF (tab n f) := by
  refine right_uniq hR (spansFrom_right _) fun j => ?_
  rw [spansFrom_cov, tab_len]
  constructor
  · rintro ⟨s, hs, h1, h2⟩
    have := h0 s hs
    obtain ⟨i, rfl⟩ : ∃ i : Nat, j = i := ⟨j.toNat, by omega⟩
    refine ⟨i, rfl, by omega, ?_⟩
    rw [onAt_tab (by omega)]
    exact (hf i (by omega)).2 ⟨s, hs, h1, h2⟩
  · rintro ⟨i, rfl, h1, h2⟩
    rw [onAt_tab h1] at h2
    exact (hf i h1).1 h2

theorem spansF_in {l : List (Int × Int)} {size : Int} (h : spansF l size = 0) : ∀ s ∈ l, 0 ≤ s.1 ∧ s.1 < s.2 ∧ s.2 ≤ size := by
  intro s hs
  obtain ⟨i, hi⟩ := List.getElem?_of_mem hs
  exact spansF_at h hi

end Go.Proofs.YtpddiepfolfnoaaDoor

/- Spans: put joins sorted spans to right ones (plain). -/
namespace Go.Proofs.YtpddiepfolfnoaaDoor
set_option linter.unusedVariables false
set_option linter.unusedSimpArgs false
set_option linter.defProp false

def lastTo (out : List (Int × Int)) : Int := (out.getD (out.length - 1) (0, 0)).2
def stepP (out : List (Int × Int)) (s : Int × Int) : List (Int × Int) :=
  if 0 < out.length ∧ s.1 ≤ lastTo out then setTo out (max (lastTo out) s.2) else out ++ [s]
def putF (l : List (Int × Int)) : List (Int × Int) := l.foldl stepP []
theorem lastTo_app (i : List (Int × Int)) (y : Int × Int) : lastTo (i ++ [y]) = y.2 := by
  unfold lastTo
  simp

structure InP (l out : List (Int × Int)) : Prop where
  right : Right out
  src : ∀ t ∈ out, (∃ u ∈ l, t.1 = u.1) ∧ ∃ u ∈ l, t.2 = u.2
  cov : ∀ j, cv out j ↔ cv l j
theorem inP_all : ∀ l : List (Int × Int), l.Pairwise (fun u v => u.1 ≤ v.1) → (∀ s ∈ l, s.1 < s.2) → InP l (putF l) := by
  intro l
  refine rev_ind (P := fun l => l.Pairwise (fun u v => u.1 ≤ v.1) → (∀ s ∈ l, s.1 < s.2) → InP l (putF l)) ?_ ?_ l
  · intro _ _
    exact ⟨⟨by simp [putF], by simp [putF]⟩, by simp [putF], fun j => Iff.rfl⟩
  · intro l s ih hS hV
    obtain ⟨p1, _, p3⟩ := List.pairwise_append.1 hS
    have hle : ∀ u ∈ l, u.1 ≤ s.1 := fun u hu => p3 u hu s (by simp)
    have hI := ih p1 (fun u hu => hV u (by simp [hu]))
    have hs := hV s (by simp)
    unfold putF at hI ⊢
    rw [List.foldl_append]
    simp only [List.foldl_cons, List.foldl_nil]
    generalize l.foldl stepP [] = out at *
    have hcl : ∀ j, cv (l ++ [s]) j ↔ cv l j ∨ (s.1 ≤ j ∧ j < s.2) := fun j => by rw [cv_app, cv_one]
    unfold stepP
    by_cases hc : 0 < out.length ∧ s.1 ≤ lastTo out
    · rw [if_pos hc]
      rcases List.eq_nil_or_concat out with rfl | ⟨i, y, rfl⟩
      · simp at hc
      simp only [List.concat_eq_append] at hc hI ⊢
      rw [lastTo_app] at hc ⊢
      rw [setTo_app]
      obtain ⟨r1, r2, r3⟩ := right_app.1 hI.right
      obtain ⟨⟨u, hu, e1⟩, ⟨v, hv, e2⟩⟩ := hI.src y (by simp)
      have h1 := hle u hu
      refine ⟨right_app.2 ⟨r1, by show y.1 < max y.2 s.2; omega, r3⟩, ?_, ?_⟩
      · intro t ht
        rcases List.mem_append.1 ht with ht | ht
        · obtain ⟨⟨u, hu, e1⟩, ⟨v, hv, e2⟩⟩ := hI.src t (by simp [ht])
          exact ⟨⟨u, by simp [hu], e1⟩, ⟨v, by simp [hv], e2⟩⟩
        · rw [List.mem_singleton] at ht
          subst ht
          refine ⟨⟨u, by simp [hu], e1⟩, ?_⟩
          by_cases hm : y.2 ≤ s.2
          · exact ⟨s, by simp, by show max y.2 s.2 = s.2; omega⟩
          · exact ⟨v, by simp [hv], by show max y.2 s.2 = v.2; omega⟩
      · intro j
        rw [cv_app, cv_one, hcl, ← hI.cov, cv_app, cv_one]
        show cv i j ∨ (y.1 ≤ j ∧ j < max y.2 s.2) ↔ _
        constructor
        · rintro (h2 | h2)
          · exact .inl (.inl h2)
          · by_cases hj : j < y.2
            · exact .inl (.inr ⟨h2.1, hj⟩)
            · exact .inr ⟨by omega, by omega⟩
        · rintro ((h2 | h2) | h2)
          · exact .inl h2
          · exact .inr ⟨h2.1, by omega⟩
          · exact .inr ⟨by omega, by omega⟩
    · rw [if_neg hc]
      have hlt : ∀ t ∈ out, t.2 < s.1 := by
        rcases List.eq_nil_or_concat out with rfl | ⟨i, y, rfl⟩
        · simp
        simp only [List.concat_eq_append] at hc hI ⊢
        rw [lastTo_app] at hc
        obtain ⟨r1, r2, r3⟩ := right_app.1 hI.right
        have hy : y.2 < s.1 := by
          refine Int.not_le.1 fun h => hc ⟨by simp, h⟩
        intro t ht
        rcases List.mem_append.1 ht with ht | ht
        · have := r3 t ht; omega
        · rw [List.mem_singleton] at ht; subst ht; exact hy
      refine ⟨right_app.2 ⟨hI.right, hs, hlt⟩, ?_, ?_⟩
      · intro t ht
        rcases List.mem_append.1 ht with ht | ht
        · obtain ⟨⟨u, hu, e1⟩, ⟨v, hv, e2⟩⟩ := hI.src t ht
          exact ⟨⟨u, by simp [hu], e1⟩, ⟨v, by simp [hv], e2⟩⟩
        · rw [List.mem_singleton] at ht
          subst ht
          exact ⟨⟨t, by simp, rfl⟩, ⟨t, by simp, rfl⟩⟩
      · intro j
        rw [cv_app, cv_one, hcl, hI.cov]

end Go.Proofs.YtpddiepfolfnoaaDoor

/- Spans: put, if the sort is as it should be. -/
namespace Go.Proofs.YtpddiepfolfnoaaDoor
set_option linter.unusedVariables false
set_option linter.unusedSimpArgs false
set_option linter.defProp false

/- paperchase/privilege.put -/
def ir_privilege_put_L0 : IC :=
  (.seq (.reg [⟨some 12, .bin .lss (.t 11) (.t 10), none⟩])
    (.seq (.cond (.t 12) .skip (.exit 0))
    (.seq (.block 1 (.seq (.reg [⟨some 13, .ixa 2 (.t 9) (.t 11), none⟩,
      ⟨some 14, .ld 2 true (.t 13), none⟩,
      ⟨some 5, .alc 46 [.int .i64 0, .int .i64 0], none⟩,
      ⟨none, .st 2 (.t 5) (.t 14), none⟩])
    (.seq (.seq (.reg [⟨some 15, .mov (.t 3), none⟩,
      ⟨some 16, .len (.t 15), none⟩,
      ⟨some 17, .bin .sub (.t 16) (.c (.int .i64 1)), none⟩,
      ⟨some 6, .mov (.t 17), none⟩])
    (.seq (.drg [⟨some 18, .mov (.t 6), none⟩,
      ⟨some 19, .bin .geq (.t 18) (.c (.int .i64 0)), none⟩,
      ⟨some 20, .mov (.t 19), none⟩,
      ⟨some 21, .fla 0 (.t 5), (some (20, true))⟩,
      ⟨some 22, .ld 1 false (.t 21), (some (20, true))⟩,
      ⟨some 23, .mov (.t 3), (some (20, true))⟩,
      ⟨some 24, .mov (.t 6), (some (20, true))⟩,
      ⟨some 25, .ixa 2 (.t 23) (.t 24), (some (20, true))⟩,
      ⟨some 26, .fla 1 (.t 25), (some (20, true))⟩,
      ⟨some 27, .ld 1 false (.t 26), (some (20, true))⟩,
      ⟨some 28, .bin .leq (.t 22) (.t 27), (some (20, true))⟩,
      ⟨some 29, .pick (.t 20) (.t 28) (.c (.bool false)), none⟩])
    (.cond (.t 29) (.seq (.drg [⟨some 30, .mov (.t 3), none⟩,
      ⟨some 31, .mov (.t 6), none⟩,
      ⟨some 32, .mov (.t 3), none⟩,
      ⟨some 33, .mov (.t 6), none⟩,
      ⟨some 34, .ixa 2 (.t 32) (.t 33), none⟩,
      ⟨some 35, .fla 1 (.t 34), none⟩,
      ⟨some 36, .ld 1 false (.t 35), none⟩,
      ⟨some 37, .fla 1 (.t 5), none⟩,
      ⟨some 38, .ld 1 false (.t 37), none⟩,
      ⟨some 39, .mx (.t 36) (.t 38), none⟩,
      ⟨some 40, .ixa 2 (.t 30) (.t 31), none⟩,
      ⟨some 41, .fla 1 (.t 40), none⟩,
      ⟨none, .st 1 (.t 41) (.t 39), none⟩])
    (.exit 1)) .skip)))
    (.reg [⟨some 42, .mov (.t 3), none⟩,
      ⟨some 43, .ld 2 true (.t 5), none⟩,
      ⟨some 44, .bsl 2 [.t 43], none⟩,
      ⟨some 45, .app 46 2 16 (.t 42) (.t 44), none⟩,
      ⟨some 3, .mov (.t 45), none⟩]))))
    (.cut (.reg [⟨some 46, .bin .add (.t 11) (.c (.int .i64 1)), none⟩,
      ⟨some 11, .mov (.t 46), none⟩])))))
def ir_privilege_put : IC :=
  (.seq (.reg [⟨some 2, .mov (.c (.nl 2)), none⟩])
    (.seq (.reg [⟨some 7, .mov (.t 0), none⟩,
      ⟨some 8, .call 160 [.t 7, .f 161], none⟩])
    (.seq (.reg [⟨some 3, .nilr 46 2, none⟩])
    (.seq (.seq (.reg [⟨some 9, .mov (.t 0), none⟩,
      ⟨some 10, .len (.t 9), none⟩,
      ⟨some 11, .mov (.c (.int .i64 0)), none⟩])
    (.block 0 (.loop ir_privilege_put_L0)))
    (.seq (.reg [⟨some 47, .mov (.t 3), none⟩,
      ⟨some 2, .mov (.t 47), none⟩])
    .ret)))))
def rs_privilege_put : List IRes := [.t 2]
theorem ck_privilege_put : chkF Tryd.prog Tryd.f91 ir_privilege_put rs_privilege_put 48 = true := by kernel_rfl


section
variable {E : Envt}
def SortOk (E : Envt) (l : List (Int × Int)) : Prop := RCall Tryd.prog E 160 tSpan 2 (l.map spn) [.clo 161 []] (fun x es' => x = .tup [] ∧ ∃ l' : List (Int × Int), es' = l'.map spn ∧ l'.length = l.length ∧ (∀ s, s ∈ l' ↔ s ∈ l) ∧ l'.Pairwise (fun u v => u.1 ≤ v.1))
theorem put_ok (l : List (Int × Int)) (hl : l.length ≤ 1000000) (hS : SortOk E l) :
    RFresh Tryd.prog E 91 tSpan 2 (l.map spn) [] tSpan 2 (fun es _ => ∃ l' : List (Int × Int), es = (putF l').map spn ∧ (∀ s, s ∈ l' ↔ s ∈ l) ∧ l'.Pairwise (fun u v => u.1 ≤ v.1)) := by
  unfold RFresh
  refine gcallR mixed Tryd.func91 ck_privilege_put ?_
  simp only [a0, l0, OS.ao, List.map_cons, List.map_nil, List.length_cons, List.length_nil, List.cons_append, List.nil_append, Nat.reduceSub, Nat.reduceAdd, List.replicate_succ, List.replicate_zero, ir_privilege_put, rs_privilege_put, ZZ, Za, Zb, Zc, Zd, Ze, Zf, Zg, Zh, rd, AV.un, AV.unA, AV.ad, Zi, Zj, Zk, Zl, Zm, Zn, Zo, Zp, Zq, Zr, Zs, Zt, Zu, Zv, Zw, Zx, Zy, Zz, Zaa, Zab, Zac, Zad, wk1, wk, Zae, Zaf, Zag, Zah, Zai, Zaj, Zak, Zal, AV.kill, AO.kill, AV.thaw, AO.thaw, Zam, Zan, Zao, Zap, Zaq, Zar, Zas, Zat, Zau, ite_true, ite_false, reduceCtorEq, Nat.reduceAdd, Nat.reduceMul, Nat.reduceLeDiff, Nat.reduceLT, Nat.reduceEqDiff, forall_const]
  refine useR hS rfl rfl rfl (by simp only [ZZ, Za, Zb, Zc, Zd, Ze, Zf, Zg, Zh, rd, AV.un, AV.unA, AV.ad, Zi, Zj, Zk, Zl, Zm, Zn, Zo, Zp, Zq, Zr, Zs, Zt, Zu, Zv, Zw, Zx, Zy, Zz, Zaa, Zab, Zac, Zad, wk1, wk, Zae, Zaf, Zag, Zah, Zai, Zaj, Zak, Zal, AV.kill, AO.kill, AV.thaw, AO.thaw, Zam, Zan, Zao, Zap, Zaq, Zar, Zas, Zat, Zau, ite_true, ite_false, reduceCtorEq, Nat.reduceAdd, Nat.reduceMul, Nat.reduceLeDiff, Nat.reduceLT, Nat.reduceEqDiff, forall_const]) ?_
  rintro x es' ⟨rfl, m, rfl, hml, hmem, hord⟩
  simp only [ZZ, Za, Zb, Zc, Zd, Ze, Zf, Zg, Zh, rd, AV.un, AV.unA, AV.ad, Zi, Zj, Zk, Zl, Zm, Zn, Zo, Zp, Zq, Zr, Zs, Zt, Zu, Zv, Zw, Zx, Zy, Zz, Zaa, Zab, Zac, Zad, wk1, wk, Zae, Zaf, Zag, Zah, Zai, Zaj, Zak, Zal, AV.kill, AO.kill, AV.thaw, AO.thaw, Zam, Zan, Zao, Zap, Zaq, Zar, Zas, Zat, Zau, ite_true, ite_false, reduceCtorEq, Nat.reduceAdd, Nat.reduceMul, Nat.reduceLeDiff, Nat.reduceLT, Nat.reduceEqDiff, forall_const]
  have hln : (m.map spn).length = m.length := by simp
  refine loop_intro (fun n fr L => ∃ (k : Nat) (out : List (Int × Int)), k ≤ m.length ∧ n = m.length - k ∧ out = (m.take k).foldl stepP [] ∧ out.length ≤ k ∧ fr = [.any, .any, .any, .row (.l 3), .any, .any, .any, .any, .any, .row (.b 0), .p (int (m.length : Nat)), .p (int (k : Nat)), .any, .any, .any, .any, .any, .any, .any, .any, .any, .any, .any, .any, .any, .any, .any, .any, .any, .any, .any, .any, .any, .any, .any, .any, .any, .any, .any, .any, .any, .any, .any, .any, .any, .any, .any, .any] ∧ L = [(.b 0, .row (m.map spn) tSpan 2 true), (.l 3, .row (out.map spn) tSpan 2 true)]) m.length [.any, .any, .any, .row (.l 3), .any, .any, .any, .any, .any, .row (.b 0), .p (int (m.length : Nat)), .p (int (0 : Nat)), .any, .any, .any, .any, .any, .any, .any, .any, .any, .any, .any, .any, .any, .any, .any, .any, .any, .any, .any, .any, .any, .any, .any, .any, .any, .any, .any, .any, .any, .any, .any, .any, .any, .any, .any, .any] [(.b 0, .row (m.map spn) tSpan 2 true), (.l 3, .row [] tSpan 2 true)] (by simp only [hln, ZZ, Za, Zb, Zc, Zd, Ze, Zf, Zg, Zh, rd, AV.un, AV.unA, AV.ad, Zi, Zj, Zk, Zl, Zm, Zn, Zo, Zp, Zq, Zr, Zs, Zt, Zu, Zv, Zw, Zx, Zy, Zz, Zaa, Zab, Zac, Zad, wk1, wk, Zae, Zaf, Zag, Zah, Zai, Zaj, Zak, Zal, AV.kill, AO.kill, AV.thaw, AO.thaw, Zam, Zan, Zao, Zap, Zaq, Zar, Zas, Zat, Zau, ite_true, ite_false, reduceCtorEq, Nat.reduceAdd, Nat.reduceMul, Nat.reduceLeDiff, Nat.reduceLT, Nat.reduceEqDiff, forall_const]; try trivial) (by simp only [ZZ, Za, Zb, Zc, Zd, Ze, Zf, Zg, Zh, rd, AV.un, AV.unA, AV.ad, Zi, Zj, Zk, Zl, Zm, Zn, Zo, Zp, Zq, Zr, Zs, Zt, Zu, Zv, Zw, Zx, Zy, Zz, Zaa, Zab, Zac, Zad, wk1, wk, Zae, Zaf, Zag, Zah, Zai, Zaj, Zak, Zal, AV.kill, AO.kill, AV.thaw, AO.thaw, Zam, Zan, Zao, Zap, Zaq, Zar, Zas, Zat, Zau, ite_true, ite_false, reduceCtorEq, Nat.reduceAdd, Nat.reduceMul, Nat.reduceLeDiff, Nat.reduceLT, Nat.reduceEqDiff, forall_const]) ⟨0, [], by omega, by omega, rfl, by simp, rfl, rfl⟩ ?_
  rintro n fr L ⟨k, out, hk, rfl, hout, hol, rfl, rfl⟩
  simp only [ir_privilege_put_L0, ZZ, Za, Zb, Zc, Zd, Ze, Zf, Zg, Zh, rd, AV.un, AV.unA, AV.ad, Zi, Zj, Zk, Zl, Zm, Zn, Zo, Zp, Zq, Zr, Zs, Zt, Zu, Zv, Zw, Zx, Zy, Zz, Zaa, Zab, Zac, Zad, wk1, wk, Zae, Zaf, Zag, Zah, Zai, Zaj, Zak, Zal, AV.kill, AO.kill, AV.thaw, AO.thaw, Zam, Zan, Zao, Zap, Zaq, Zar, Zas, Zat, Zau, ite_true, ite_false, reduceCtorEq, Nat.reduceAdd, Nat.reduceMul, Nat.reduceLeDiff, Nat.reduceLT, Nat.reduceEqDiff, forall_const]
  refine br ?_ ?_
  · intro h
    have hlt : k < m.length := by have := of_decide_eq_true h; omega
    obtain ⟨s, hs⟩ : ∃ x, m[k]? = some x := ⟨_, List.getElem?_eq_getElem hlt⟩
    have hg : (m.map spn).getD k [] = spn s := getD_map hs
    have hnx : (m.take (k + 1)).foldl stepP [] = stepP out s := by rw [take_foldl hs, ← hout]
    simp only [ZZ, Za, Zb, Zc, Zd, Ze, Zf, Zg, Zh, rd, AV.un, AV.unA, AV.ad, Zi, Zj, Zk, Zl, Zm, Zn, Zo, Zp, Zq, Zr, Zs, Zt, Zu, Zv, Zw, Zx, Zy, Zz, Zaa, Zab, Zac, Zad, wk1, wk, Zae, Zaf, Zag, Zah, Zai, Zaj, Zak, Zal, AV.kill, AO.kill, AV.thaw, AO.thaw, Zam, Zan, Zao, Zap, Zaq, Zar, Zas, Zat, Zau, ite_true, ite_false, reduceCtorEq, Nat.reduceAdd, Nat.reduceMul, Nat.reduceLeDiff, Nat.reduceLT, Nat.reduceEqDiff, forall_const, hg, spn, hln]
    have hlo : (out.map spn).length = out.length := by simp
    simp only [hlo]
    ((repeat' (with_reducible apply And.intro)) <;> try ((first | first | assumption | trivial | exact (fun hq => by rw [hq]; rfl) | exact i64_of (by omega) (by omega) | omega | (simp; done) | (simp; omega) | (intro hsc; have hs0 := hsc; (try have hsd := of_decide_eq_true hsc); (try simp only [Bool.not_eq_true', Bool.or_eq_false_iff, Bool.and_eq_true, Bool.or_eq_true, decide_eq_true_eq, decide_eq_false_iff_not] at hsc); (repeat' (with_reducible apply And.intro)) <;> (first | assumption | trivial | exact (fun hq => by rw [hq]; rfl) | exact i64_of (by omega) (by omega) | omega | (simp; done) | (simp; omega) | (intro hse; simp [hse, hs0]; done))))))
    rcases List.eq_nil_or_concat out with rfl | ⟨i, y, rfl⟩
    · refine drg0 ?_
      simp only [ZZ, Za, Zb, Zc, Zd, Ze, Zf, Zg, Zh, rd, AV.un, AV.unA, AV.ad, Zi, Zj, Zk, Zl, Zm, Zn, Zo, Zp, Zq, Zr, Zs, Zt, Zu, Zv, Zw, Zx, Zy, Zz, Zaa, Zab, Zac, Zad, wk1, wk, Zae, Zaf, Zag, Zah, Zai, Zaj, Zak, Zal, AV.kill, AO.kill, AV.thaw, AO.thaw, Zam, Zan, Zao, Zap, Zaq, Zar, Zas, Zat, Zau, ite_true, ite_false, reduceCtorEq, Nat.reduceAdd, Nat.reduceMul, Nat.reduceLeDiff, Nat.reduceLT, Nat.reduceEqDiff, forall_const]
      ((repeat' (with_reducible apply And.intro)) <;> try ((first | first | assumption | trivial | exact (fun hq => by rw [hq]; rfl) | exact i64_of (by omega) (by omega) | omega | (simp; done) | (simp; omega) | (intro hsc; have hs0 := hsc; (try have hsd := of_decide_eq_true hsc); (try simp only [Bool.not_eq_true', Bool.or_eq_false_iff, Bool.and_eq_true, Bool.or_eq_true, decide_eq_true_eq, decide_eq_false_iff_not] at hsc); (repeat' (with_reducible apply And.intro)) <;> (first | assumption | trivial | exact (fun hq => by rw [hq]; rfl) | exact i64_of (by omega) (by omega) | omega | (simp; done) | (simp; omega) | (intro hse; simp [hse, hs0]; done))))))
      refine cut_same (by simp only [ZZ, Za, Zb, Zc, Zd, Ze, Zf, Zg, Zh, rd, AV.un, AV.unA, AV.ad, Zi, Zj, Zk, Zl, Zm, Zn, Zo, Zp, Zq, Zr, Zs, Zt, Zu, Zv, Zw, Zx, Zy, Zz, Zaa, Zab, Zac, Zad, wk1, wk, Zae, Zaf, Zag, Zah, Zai, Zaj, Zak, Zal, AV.kill, AO.kill, AV.thaw, AO.thaw, Zam, Zan, Zao, Zap, Zaq, Zar, Zas, Zat, Zau, ite_true, ite_false, reduceCtorEq, Nat.reduceAdd, Nat.reduceMul, Nat.reduceLeDiff, Nat.reduceLT, Nat.reduceEqDiff, forall_const]) ?_
      simp only [ZZ, Za, Zb, Zc, Zd, Ze, Zf, Zg, Zh, rd, AV.un, AV.unA, AV.ad, Zi, Zj, Zk, Zl, Zm, Zn, Zo, Zp, Zq, Zr, Zs, Zt, Zu, Zv, Zw, Zx, Zy, Zz, Zaa, Zab, Zac, Zad, wk1, wk, Zae, Zaf, Zag, Zah, Zai, Zaj, Zak, Zal, AV.kill, AO.kill, AV.thaw, AO.thaw, Zam, Zan, Zao, Zap, Zaq, Zar, Zas, Zat, Zau, ite_true, ite_false, reduceCtorEq, Nat.reduceAdd, Nat.reduceMul, Nat.reduceLeDiff, Nat.reduceLT, Nat.reduceEqDiff, forall_const]
      refine ⟨i64_of (by omega) (by omega), ?_⟩
      refine end_round (m.length - (k + 1)) [.any, .any, .any, .row (.l 3), .any, .any, .any, .any, .any, .row (.b 0), .p (int (m.length : Nat)), .p (int ((k + 1 : Nat))), .any, .any, .any, .any, .any, .any, .any, .any, .any, .any, .any, .any, .any, .any, .any, .any, .any, .any, .any, .any, .any, .any, .any, .any, .any, .any, .any, .any, .any, .any, .any, .any, .any, .any, .any, .any] [(.b 0, .row (m.map spn) tSpan 2 true), (.l 3, .row ([s].map spn) tSpan 2 true)] (by omega) (by (simp only [ZZ, Za, Zb, Zc, Zd, Ze, Zf, Zg, Zh, rd, AV.un, AV.unA, AV.ad, Zi, Zj, Zk, Zl, Zm, Zn, Zo, Zp, Zq, Zr, Zs, Zt, Zu, Zv, Zw, Zx, Zy, Zz, Zaa, Zab, Zac, Zad, wk1, wk, Zae, Zaf, Zag, Zah, Zai, Zaj, Zak, Zal, AV.kill, AO.kill, AV.thaw, AO.thaw, Zam, Zan, Zao, Zap, Zaq, Zar, Zas, Zat, Zau, ite_true, ite_false, reduceCtorEq, Nat.reduceAdd, Nat.reduceMul, Nat.reduceLeDiff, Nat.reduceLT, Nat.reduceEqDiff, forall_const]; try trivial)) (by simp only [spn, ZZ, Za, Zb, Zc, Zd, Ze, Zf, Zg, Zh, rd, AV.un, AV.unA, AV.ad, Zi, Zj, Zk, Zl, Zm, Zn, Zo, Zp, Zq, Zr, Zs, Zt, Zu, Zv, Zw, Zx, Zy, Zz, Zaa, Zab, Zac, Zad, wk1, wk, Zae, Zaf, Zag, Zah, Zai, Zaj, Zak, Zal, AV.kill, AO.kill, AV.thaw, AO.thaw, Zam, Zan, Zao, Zap, Zaq, Zar, Zas, Zat, Zau, ite_true, ite_false, reduceCtorEq, Nat.reduceAdd, Nat.reduceMul, Nat.reduceLeDiff, Nat.reduceLT, Nat.reduceEqDiff, forall_const]) ⟨k + 1, [s], by omega, rfl, by rw [hnx]; simp [stepP], by simp, rfl, rfl⟩
    · simp only [List.concat_eq_append] at *
      have hnn : (((i ++ [y]).length : Int) - 1).toNat = i.length := by simp
      have hgy : ((i ++ [y]).map spn).getD i.length [] = spn y := getD_map (by simp)
      refine drg0 ?_
      simp only [ZZ, Za, Zb, Zc, Zd, Ze, Zf, Zg, Zh, rd, AV.un, AV.unA, AV.ad, Zi, Zj, Zk, Zl, Zm, Zn, Zo, Zp, Zq, Zr, Zs, Zt, Zu, Zv, Zw, Zx, Zy, Zz, Zaa, Zab, Zac, Zad, wk1, wk, Zae, Zaf, Zag, Zah, Zai, Zaj, Zak, Zal, AV.kill, AO.kill, AV.thaw, AO.thaw, Zam, Zan, Zao, Zap, Zaq, Zar, Zas, Zat, Zau, ite_true, ite_false, reduceCtorEq, Nat.reduceAdd, Nat.reduceMul, Nat.reduceLeDiff, Nat.reduceLT, Nat.reduceEqDiff, forall_const, hnn, hgy, spn]
      ((repeat' (with_reducible apply And.intro)) <;> try ((first | first | assumption | trivial | exact (fun hq => by rw [hq]; rfl) | exact i64_of (by omega) (by omega) | omega | (simp; done) | (simp; omega) | (intro hsc; have hs0 := hsc; (try have hsd := of_decide_eq_true hsc); (try simp only [Bool.not_eq_true', Bool.or_eq_false_iff, Bool.and_eq_true, Bool.or_eq_true, decide_eq_true_eq, decide_eq_false_iff_not] at hsc); (repeat' (with_reducible apply And.intro)) <;> (first | assumption | trivial | exact (fun hq => by rw [hq]; rfl) | exact i64_of (by omega) (by omega) | omega | (simp; done) | (simp; omega) | (intro hse; simp [hse, hs0]; done))))))
      have hpos : decide ((0 : Int) ≤ ((i ++ [y]).length : Int) - 1) = true := by simp
      rw [hpos, Bool.true_and]
      have hset : ((i ++ [y]).map spn).set i.length [int y.1, int (max y.2 s.2)] = (i ++ [(y.1, max y.2 s.2)]).map spn := by simp [spn]
      refine br ?_ ?_
      · intro hc
        have hc := of_decide_eq_true hc
        simp only [ZZ, Za, Zb, Zc, Zd, Ze, Zf, Zg, Zh, rd, AV.un, AV.unA, AV.ad, Zi, Zj, Zk, Zl, Zm, Zn, Zo, Zp, Zq, Zr, Zs, Zt, Zu, Zv, Zw, Zx, Zy, Zz, Zaa, Zab, Zac, Zad, wk1, wk, Zae, Zaf, Zag, Zah, Zai, Zaj, Zak, Zal, AV.kill, AO.kill, AV.thaw, AO.thaw, Zam, Zan, Zao, Zap, Zaq, Zar, Zas, Zat, Zau, ite_true, ite_false, reduceCtorEq, Nat.reduceAdd, Nat.reduceMul, Nat.reduceLeDiff, Nat.reduceLT, Nat.reduceEqDiff, forall_const]
        refine drg0 ?_
        simp only [ZZ, Za, Zb, Zc, Zd, Ze, Zf, Zg, Zh, rd, AV.un, AV.unA, AV.ad, Zi, Zj, Zk, Zl, Zm, Zn, Zo, Zp, Zq, Zr, Zs, Zt, Zu, Zv, Zw, Zx, Zy, Zz, Zaa, Zab, Zac, Zad, wk1, wk, Zae, Zaf, Zag, Zah, Zai, Zaj, Zak, Zal, AV.kill, AO.kill, AV.thaw, AO.thaw, Zam, Zan, Zao, Zap, Zaq, Zar, Zas, Zat, Zau, ite_true, ite_false, reduceCtorEq, Nat.reduceAdd, Nat.reduceMul, Nat.reduceLeDiff, Nat.reduceLT, Nat.reduceEqDiff, forall_const, hnn, hgy, spn, hset, hlo]
        ((repeat' (with_reducible apply And.intro)) <;> try ((first | first | assumption | trivial | exact (fun hq => by rw [hq]; rfl) | exact i64_of (by omega) (by omega) | omega | (simp; done) | (simp; omega) | (intro hsc; have hs0 := hsc; (try have hsd := of_decide_eq_true hsc); (try simp only [Bool.not_eq_true', Bool.or_eq_false_iff, Bool.and_eq_true, Bool.or_eq_true, decide_eq_true_eq, decide_eq_false_iff_not] at hsc); (repeat' (with_reducible apply And.intro)) <;> (first | assumption | trivial | exact (fun hq => by rw [hq]; rfl) | exact i64_of (by omega) (by omega) | omega | (simp; done) | (simp; omega) | (intro hse; simp [hse, hs0]; done))))))
        refine cut_same (by simp only [ZZ, Za, Zb, Zc, Zd, Ze, Zf, Zg, Zh, rd, AV.un, AV.unA, AV.ad, Zi, Zj, Zk, Zl, Zm, Zn, Zo, Zp, Zq, Zr, Zs, Zt, Zu, Zv, Zw, Zx, Zy, Zz, Zaa, Zab, Zac, Zad, wk1, wk, Zae, Zaf, Zag, Zah, Zai, Zaj, Zak, Zal, AV.kill, AO.kill, AV.thaw, AO.thaw, Zam, Zan, Zao, Zap, Zaq, Zar, Zas, Zat, Zau, ite_true, ite_false, reduceCtorEq, Nat.reduceAdd, Nat.reduceMul, Nat.reduceLeDiff, Nat.reduceLT, Nat.reduceEqDiff, forall_const]) ?_
        simp only [ZZ, Za, Zb, Zc, Zd, Ze, Zf, Zg, Zh, rd, AV.un, AV.unA, AV.ad, Zi, Zj, Zk, Zl, Zm, Zn, Zo, Zp, Zq, Zr, Zs, Zt, Zu, Zv, Zw, Zx, Zy, Zz, Zaa, Zab, Zac, Zad, wk1, wk, Zae, Zaf, Zag, Zah, Zai, Zaj, Zak, Zal, AV.kill, AO.kill, AV.thaw, AO.thaw, Zam, Zan, Zao, Zap, Zaq, Zar, Zas, Zat, Zau, ite_true, ite_false, reduceCtorEq, Nat.reduceAdd, Nat.reduceMul, Nat.reduceLeDiff, Nat.reduceLT, Nat.reduceEqDiff, forall_const]
        refine ⟨i64_of (by omega) (by omega), ?_⟩
        refine end_round (m.length - (k + 1)) [.any, .any, .any, .row (.l 3), .any, .any, .any, .any, .any, .row (.b 0), .p (int (m.length : Nat)), .p (int ((k + 1 : Nat))), .any, .any, .any, .any, .any, .any, .any, .any, .any, .any, .any, .any, .any, .any, .any, .any, .any, .any, .any, .any, .any, .any, .any, .any, .any, .any, .any, .any, .any, .any, .any, .any, .any, .any, .any, .any] [(.b 0, .row (m.map spn) tSpan 2 true), (.l 3, .row ((i ++ [(y.1, max y.2 s.2)]).map spn) tSpan 2 true)] (by omega) (by (simp only [ZZ, Za, Zb, Zc, Zd, Ze, Zf, Zg, Zh, rd, AV.un, AV.unA, AV.ad, Zi, Zj, Zk, Zl, Zm, Zn, Zo, Zp, Zq, Zr, Zs, Zt, Zu, Zv, Zw, Zx, Zy, Zz, Zaa, Zab, Zac, Zad, wk1, wk, Zae, Zaf, Zag, Zah, Zai, Zaj, Zak, Zal, AV.kill, AO.kill, AV.thaw, AO.thaw, Zam, Zan, Zao, Zap, Zaq, Zar, Zas, Zat, Zau, ite_true, ite_false, reduceCtorEq, Nat.reduceAdd, Nat.reduceMul, Nat.reduceLeDiff, Nat.reduceLT, Nat.reduceEqDiff, forall_const]; try trivial)) (by simp only [ZZ, Za, Zb, Zc, Zd, Ze, Zf, Zg, Zh, rd, AV.un, AV.unA, AV.ad, Zi, Zj, Zk, Zl, Zm, Zn, Zo, Zp, Zq, Zr, Zs, Zt, Zu, Zv, Zw, Zx, Zy, Zz, Zaa, Zab, Zac, Zad, wk1, wk, Zae, Zaf, Zag, Zah, Zai, Zaj, Zak, Zal, AV.kill, AO.kill, AV.thaw, AO.thaw, Zam, Zan, Zao, Zap, Zaq, Zar, Zas, Zat, Zau, ite_true, ite_false, reduceCtorEq, Nat.reduceAdd, Nat.reduceMul, Nat.reduceLeDiff, Nat.reduceLT, Nat.reduceEqDiff, forall_const]) ⟨k + 1, i ++ [(y.1, max y.2 s.2)], by omega, rfl, by rw [hnx, stepP, lastTo_app, if_pos ⟨by simp, hc⟩, setTo_app], by simp at hol ⊢; omega, rfl, rfl⟩
      · intro hc
        have hc := of_decide_eq_false hc
        simp only [ZZ, Za, Zb, Zc, Zd, Ze, Zf, Zg, Zh, rd, AV.un, AV.unA, AV.ad, Zi, Zj, Zk, Zl, Zm, Zn, Zo, Zp, Zq, Zr, Zs, Zt, Zu, Zv, Zw, Zx, Zy, Zz, Zaa, Zab, Zac, Zad, wk1, wk, Zae, Zaf, Zag, Zah, Zai, Zaj, Zak, Zal, AV.kill, AO.kill, AV.thaw, AO.thaw, Zam, Zan, Zao, Zap, Zaq, Zar, Zas, Zat, Zau, ite_true, ite_false, reduceCtorEq, Nat.reduceAdd, Nat.reduceMul, Nat.reduceLeDiff, Nat.reduceLT, Nat.reduceEqDiff, forall_const, spn, hlo]
        ((repeat' (with_reducible apply And.intro)) <;> try ((first | first | assumption | trivial | exact (fun hq => by rw [hq]; rfl) | exact i64_of (by omega) (by omega) | omega | (simp; done) | (simp; omega) | (intro hsc; have hs0 := hsc; (try have hsd := of_decide_eq_true hsc); (try simp only [Bool.not_eq_true', Bool.or_eq_false_iff, Bool.and_eq_true, Bool.or_eq_true, decide_eq_true_eq, decide_eq_false_iff_not] at hsc); (repeat' (with_reducible apply And.intro)) <;> (first | assumption | trivial | exact (fun hq => by rw [hq]; rfl) | exact i64_of (by omega) (by omega) | omega | (simp; done) | (simp; omega) | (intro hse; simp [hse, hs0]; done))))))
        refine cut_same (by simp only [ZZ, Za, Zb, Zc, Zd, Ze, Zf, Zg, Zh, rd, AV.un, AV.unA, AV.ad, Zi, Zj, Zk, Zl, Zm, Zn, Zo, Zp, Zq, Zr, Zs, Zt, Zu, Zv, Zw, Zx, Zy, Zz, Zaa, Zab, Zac, Zad, wk1, wk, Zae, Zaf, Zag, Zah, Zai, Zaj, Zak, Zal, AV.kill, AO.kill, AV.thaw, AO.thaw, Zam, Zan, Zao, Zap, Zaq, Zar, Zas, Zat, Zau, ite_true, ite_false, reduceCtorEq, Nat.reduceAdd, Nat.reduceMul, Nat.reduceLeDiff, Nat.reduceLT, Nat.reduceEqDiff, forall_const]) ?_
        simp only [ZZ, Za, Zb, Zc, Zd, Ze, Zf, Zg, Zh, rd, AV.un, AV.unA, AV.ad, Zi, Zj, Zk, Zl, Zm, Zn, Zo, Zp, Zq, Zr, Zs, Zt, Zu, Zv, Zw, Zx, Zy, Zz, Zaa, Zab, Zac, Zad, wk1, wk, Zae, Zaf, Zag, Zah, Zai, Zaj, Zak, Zal, AV.kill, AO.kill, AV.thaw, AO.thaw, Zam, Zan, Zao, Zap, Zaq, Zar, Zas, Zat, Zau, ite_true, ite_false, reduceCtorEq, Nat.reduceAdd, Nat.reduceMul, Nat.reduceLeDiff, Nat.reduceLT, Nat.reduceEqDiff, forall_const]
        refine ⟨i64_of (by omega) (by omega), ?_⟩
        refine end_round (m.length - (k + 1)) [.any, .any, .any, .row (.l 3), .any, .any, .any, .any, .any, .row (.b 0), .p (int (m.length : Nat)), .p (int ((k + 1 : Nat))), .any, .any, .any, .any, .any, .any, .any, .any, .any, .any, .any, .any, .any, .any, .any, .any, .any, .any, .any, .any, .any, .any, .any, .any, .any, .any, .any, .any, .any, .any, .any, .any, .any, .any, .any, .any] [(.b 0, .row (m.map spn) tSpan 2 true), (.l 3, .row ((i ++ [y] ++ [s]).map spn) tSpan 2 true)] (by omega) (by (simp only [ZZ, Za, Zb, Zc, Zd, Ze, Zf, Zg, Zh, rd, AV.un, AV.unA, AV.ad, Zi, Zj, Zk, Zl, Zm, Zn, Zo, Zp, Zq, Zr, Zs, Zt, Zu, Zv, Zw, Zx, Zy, Zz, Zaa, Zab, Zac, Zad, wk1, wk, Zae, Zaf, Zag, Zah, Zai, Zaj, Zak, Zal, AV.kill, AO.kill, AV.thaw, AO.thaw, Zam, Zan, Zao, Zap, Zaq, Zar, Zas, Zat, Zau, ite_true, ite_false, reduceCtorEq, Nat.reduceAdd, Nat.reduceMul, Nat.reduceLeDiff, Nat.reduceLT, Nat.reduceEqDiff, forall_const]; try trivial)) (by simp only [List.map_append, spn, ZZ, Za, Zb, Zc, Zd, Ze, Zf, Zg, Zh, rd, AV.un, AV.unA, AV.ad, Zi, Zj, Zk, Zl, Zm, Zn, Zo, Zp, Zq, Zr, Zs, Zt, Zu, Zv, Zw, Zx, Zy, Zz, Zaa, Zab, Zac, Zad, wk1, wk, Zae, Zaf, Zag, Zah, Zai, Zaj, Zak, Zal, AV.kill, AO.kill, AV.thaw, AO.thaw, Zam, Zan, Zao, Zap, Zaq, Zar, Zas, Zat, Zau, ite_true, ite_false, reduceCtorEq, Nat.reduceAdd, Nat.reduceMul, Nat.reduceLeDiff, Nat.reduceLT, Nat.reduceEqDiff, forall_const]) ⟨k + 1, i ++ [y] ++ [s], by omega, rfl, by rw [hnx, stepP, lastTo_app, if_neg (fun h => hc h.2)], by simp at hol ⊢; omega, rfl, rfl⟩
  · intro h
    have hge : m.length ≤ k := by have := of_decide_eq_false h; omega
    rw [List.take_of_length_le hge] at hout
    simp only [ZZ, Za, Zb, Zc, Zd, Ze, Zf, Zg, Zh, rd, AV.un, AV.unA, AV.ad, Zi, Zj, Zk, Zl, Zm, Zn, Zo, Zp, Zq, Zr, Zs, Zt, Zu, Zv, Zw, Zx, Zy, Zz, Zaa, Zab, Zac, Zad, wk1, wk, Zae, Zaf, Zag, Zah, Zai, Zaj, Zak, Zal, AV.kill, AO.kill, AV.thaw, AO.thaw, Zam, Zan, Zao, Zap, Zaq, Zar, Zas, Zat, Zau, ite_true, ite_false, reduceCtorEq, Nat.reduceAdd, Nat.reduceMul, Nat.reduceLeDiff, Nat.reduceLT, Nat.reduceEqDiff, forall_const]
    exact fin_RF 3 _ (m.map spn) rfl rfl rfl ⟨m, by rw [hout]; rfl, hmem, hord⟩
end
end Go.Proofs.YtpddiepfolfnoaaDoor

/- Spans: slices.Grow at nil and slices.Concat, the sort's order, Union. -/
namespace Go.Proofs.YtpddiepfolfnoaaDoor
set_option linter.unusedVariables false
set_option linter.unusedSimpArgs false
set_option linter.defProp false

section
variable {E : Envt}
end
end Go.Proofs.YtpddiepfolfnoaaDoor

/- Sorting a row in place: the library's slices.SortFunc as a contract of the layer. -/
namespace Go.Proofs.YtpddiepfolfnoaaDoor
open Go.Shelf Go.RowKit Go.Lib Go.Sort
set_option linter.unusedVariables false
set_option linter.unusedSimpArgs false
set_option linter.defProp false

/-- Values that need no memory. -/
def flatD : PV → Bool
  | .int .. | .bool _ | .str _ => true
  | _ => false
def valD : PV → Value
  | .int k n => .int k n
  | .bool b => .bool b
  | .str s => .string ⟨s.toArray⟩
  | _ => undef
theorem PRep.valD {w : World} {U : Nat → Prop} {x : PV} {v : Value} (hf : flatD x = true) : PRep w U x v ↔ v = valD x := by
  cases x <;> simp_all [flatD, PRep, Go.Proofs.YtpddiepfolfnoaaDoor.valD]
theorem PRepL.valD {w : World} {U : Nat → Prop} : ∀ {xs : List PV} {vs : List Value}, (xs.all flatD) = true → (PRepL w U xs vs ↔ vs = xs.map Go.Proofs.YtpddiepfolfnoaaDoor.valD) := by
  intro xs
  induction xs with
  | nil => intro vs _; simp [PRepL]
  | cons x r ih =>
    intro vs h
    simp only [List.all_cons, Bool.and_eq_true] at h
    simp only [PRepL, List.map_cons]
    constructor
    · rintro ⟨v, s, rfl, h1, h2⟩
      rw [PRep.valD h.1] at h1
      rw [ih h.2] at h2
      rw [h1, h2]
    · rintro rfl
      exact ⟨_, _, rfl, (PRep.valD h.1).2 rfl, (ih h.2).2 rfl⟩
theorem valD_one {x : PV} (hf : flatD x = true) : (valD x).oneCell' = true := by
  cases x <;> first | rfl | cases hf

section
variable {P : Program} {ρ : Ren} {E : Envt} {α : Type} [Inhabited α]

def encD (encP : α → List PV) (x : α) : List Value := (encP x).map valD

theorem flatK_list (enc : α → List Value) (k : Nat) (hk : ∀ x, (enc x).length = k) (l : List α) : (flatK enc k l.toArray).toList = (l.map enc).flatten := by
  have hlen : ∀ l : List α, ((l.map enc).flatten).length = l.length * k := by
    intro l
    induction l with
    | nil => simp
    | cons x r ih => rw [List.map_cons, List.flatten_cons, List.length_append, ih, hk, List.length_cons, Nat.add_mul]; omega
  have hget : ∀ (l : List α) (t : Nat), t < l.length * k → ((l.map enc).flatten)[t]? = some (enc (l.toArray)[t / k]!)[t % k]! := by
    intro l
    induction l with
    | nil => intro t h; simp at h
    | cons x r ih =>
      intro t h
      have k0 : 0 < k := by rcases Nat.eq_zero_or_pos k with h' | h'; · subst h'; simp at h
                            · exact h'
      rw [List.map_cons, List.flatten_cons]
      by_cases ht : t < k
      · rw [List.getElem?_append_left (by rw [hk]; exact ht), Nat.div_eq_of_lt ht, Nat.mod_eq_of_lt ht]
        have : ((x :: r).toArray)[0]! = x := rfl
        rw [this, List.getElem?_eq_getElem (by rw [hk]; exact ht), getElem!_pos (enc x) t (by rw [hk]; exact ht)]
      · rw [List.getElem?_append_right (by rw [hk]; omega), hk, ih (t - k) (by rw [List.length_cons, Nat.add_mul] at h; omega)]
        obtain ⟨u, rfl⟩ : ∃ u, t = u + k := ⟨t - k, by omega⟩
        rw [Nat.add_sub_cancel, Nat.add_mod_right, Nat.add_div_right _ k0]
        congr 2
        simp
  apply List.ext_getElem?
  intro t
  by_cases ht : t < l.length * k
  · rw [hget l t ht, Array.getElem?_toList, Array.getElem?_eq_getElem (by rw [size_flatK]; simpa using ht)]
    have := get_flatK enc k l.toArray t (by simpa using ht)
    rw [getElem!_pos _ t (by rw [size_flatK]; simpa using ht)] at this
    rw [this]
  · rw [List.getElem?_eq_none (by rw [Array.length_toList, size_flatK]; simpa using ht), List.getElem?_eq_none (by rw [hlen]; omega)]

theorem sorted_pairwise (lt : α → α → Bool) (d : Array α) (n : Nat) (hn : d.size = n) (h : SortedIn lt 0 n d) : d.toList.Pairwise (fun u v => lt v u = false) := by
  rw [List.pairwise_iff_getElem]
  intro i j hi hj hij
  have := h i j (Nat.zero_le _) hij (by simpa [hn] using hj)
  rw [getElem!_pos d i (by simpa using hi), getElem!_pos d j (by simpa using hj)] at this
  simpa using this
theorem perm_list (d d' : Array α) (h : PermIn 0 d.size d d') : d'.toList.Perm d.toList ∧ d'.size = d.size := by
  refine ⟨?_, h.1⟩
  have := h.2.2
  rw [Array.extract_eq_self_of_le (Nat.le_refl _), Array.extract_eq_self_of_le (by rw [h.1]; exact Nat.le_refl _)] at this
  exact this

theorem sortFunc_row (L : SlLaysF0.n6 P ρ) (k : Nat) (aE : ∀ w, (isAgg (ρ.t 24)).run P w = .ok true w) (zE : ∀ w, (Go.sizeOf (ρ.t 24)).run P w = .ok k w) (et : TypeId) (encP : α → List PV) (hk : ∀ x, (encP x).length = k) (hf : ∀ x, (encP x).all flatD = true) (cf : α → α → Int) (hO : SWO (ltOf cf)) (g : Nat) (eg : ∀ args w, (callFunc g args).run P w = .ok (.enter g args) w)
    (hcmp : ∀ (w : World) (x y : α), Calls P g #[.agg (encD encP x).toArray, .agg (encD encP y).toArray] w fun e w' => e = .returned (.int .i64 (cf x y)) ∧ ∃ q os', w' = grow (w.drewN q) os') (l : List α) (hl : l.length ≤ 1000000000000) :
    RCall P E (ρ.f 6) et k (l.map encP) [.clo g []] (fun x es' => x = .tup [] ∧ ∃ l' : List α, es' = l'.map encP ∧ l'.Perm l ∧ l'.Pairwise (fun u v => ltOf cf v u = false)) := by
  intro w U vs v0 hU hE hEb hA hB
  obtain ⟨hB1, us, hrow, h1, hrep, hz⟩ := hB
  have hvs : vs = [.func (.func g) #[] #[]] := by
    simp only [PRepL, PRep] at hA
    obtain ⟨v, r, rfl, ⟨us, h1, rfl⟩, rfl⟩ := hA
    rw [h1]
  subst hvs
  have hall : ∀ l : List α, ((l.map encP).flatten).all flatD = true := by
    intro l
    induction l with
    | nil => rfl
    | cons x r ih => rw [List.map_cons, List.flatten_cons, List.all_append, hf, ih]; rfl
  have hmapf : ∀ l : List α, ((l.map encP).flatten).map valD = (l.map (encD encP)).flatten := by
    intro l
    induction l with
    | nil => rfl
    | cons x r ih => rw [List.map_cons, List.flatten_cons, List.map_append, ih]; rfl
  rw [PRepL.valD (hall l), hmapf] at hrep
  subst hrep
  have hke : ∀ x, (encD encP x).length = k := fun x => by simp [encD, hk]
  rw [List.length_map] at hrow
  rcases hrow.2 with ⟨rfl, hn⟩ | ⟨b, cap, cur, fz, rfl, hg, hn, hcap, hcs, htk, hfz⟩
  · have hl0 : l = [] := List.eq_nil_of_length_eq_zero hn
    subst hl0
    refine (AnyF.slices_SortFunc_none L none 0 (.func (.func g) #[] #[]) w).mono ?_
    rintro e w' ⟨rfl, rfl⟩
    exact ⟨_, .p (.tup []), .row et k [], rfl, ⟨_, _, rfl, rfl, rfl, [], rfl, .refl _, .nil⟩, ⟨[], rfl, by simp [PRepL]⟩, Grow.refl _ _, ⟨[], ⟨by simp, .inl ⟨rfl, rfl⟩⟩, by simp, by simp [PRepL], by simp⟩⟩
  · have hf0 : fz = (0, 0) := by rcases hfz with h | h; exact h; exact absurd h.1 (by simp)
    subst hf0
    have hb : b < w.heap.size := by
      rcases Nat.lt_or_ge b w.heap.size with h | h
      · exact h
      · rw [Array.getElem?_eq_none h] at hg; cases hg
    have hlk := flatK_list (encD encP) k hke l
    have hsz : (flatK (encD encP) k l.toArray).size = l.length * k := by rw [size_flatK]; simp
    have hH : HoldsK (encD encP) k w b 0 l.toArray := by
      intro j hj
      rw [hsz] at hj
      have e1 : cur[j]? = some ((flatK (encD encP) k l.toArray)[j]!) := by
        rw [getElem!_pos _ j (by rw [hsz]; exact hj), ← Array.getElem_toList, ← List.getElem?_eq_getElem, hlk, ← htk, List.getElem?_take_of_lt hj, Array.getElem?_toList]
      refine ⟨?_, ?_⟩
      · simp only [World.cell?, hg]
        simpa using e1
      · simp [World.frozen?, hg]
    have hcmp' : CmpLays P g #[] (encD encP) k cf b 0 l.toArray.size w := fun m os dk hs x y => by simpa using hcmp _ x y
    refine (AnyQ.slices_SortFunc L k aE zE (encD encP) hke (fun x v hv => by
      simp only [encD, List.mem_map] at hv
      obtain ⟨q, hq, rfl⟩ := hv
      exact valD_one (List.all_eq_true.1 (hf x) q hq)) cf hO g #[] b 0 cap l.toArray w eg hcmp' hH hb (by simp; omega)).mono ?_
    rintro e w' ⟨rfl, d', n, os, hperm, hsort, rfl⟩
    obtain ⟨hp1, hp2⟩ := perm_list _ _ hperm
    have hp2' : d'.size = l.length := by simpa using hp2
    have hds := sorted_pairwise (ltOf cf) d' l.toArray.size hp2 hsort
    have hblk : ∀ c, c ≠ b → c < w.heap.size → (sortWorldK (encD encP) k w b 0 n d' os).heap[c]? = w.heap[c]? := by
      intro c hc hlt
      simp only [sortWorldK, grow, putRowK, putRow, mapBlock]
      rw [Array.getElem?_append_left (by simpa using hlt), Array.getElem?_modify, if_neg (fun e => hc e.symm)]
      rfl
    have hnew : (sortWorldK (encD encP) k w b 0 n d' os).heap[b]? = some (.cells (putCells id 0 (flatK (encD encP) k d') cur) et (0, 0)) := by
      simp only [sortWorldK, grow, putRowK, putRow, mapBlock]
      rw [Array.getElem?_append_left (by simpa using hb), Array.getElem?_modify, if_pos rfl]
      show Option.map _ w.heap[b]? = _
      rw [hg]
      rfl
    have hGr : Grow w (sortWorldK (encD encP) k w b 0 n d' os) (fun c => blk (.slice (some ⟨b, 0, none⟩) l.length cap) = some c) := by
      refine ⟨rfl, rfl, rfl, ?_, fun c hc hne => hblk c (fun e => hne (by rw [e]; rfl)) hc⟩
      simp [sortWorldK, grow, putRowK, putRow, mapBlock]
    refine ⟨_, .p (.tup []), .row et k (d'.toList.map encP), rfl, ⟨_, _, rfl, rfl, rfl, d'.toList, rfl, by simpa using hp1, hds⟩, ⟨[], rfl, by simp [PRepL]⟩, hGr, ?_⟩
    have hlen' : ((d'.toList.map (encD encP)).flatten).length = l.length * k := by
      rw [← flatK_list (encD encP) k hke d'.toList, Array.length_toList, size_flatK]
      simp [hp2']
    have hdl : (d'.toList.map encP).length = l.length := by simp [hp2']
    refine ⟨(d'.toList.map (encD encP)).flatten, ⟨by rw [hlen', hdl], .inr ⟨b, cap, _, (0, 0), by rw [hdl], hnew, by rw [hdl]; exact hn, hcap, by simp [putCells, hcs], ?_, .inl rfl⟩⟩, ?_, ?_, ?_⟩
    · rw [hdl]
      have hle : l.length * k ≤ cur.size := by rw [hcs]; exact Nat.mul_le_mul_right _ hn
      have hfk := flatK_list (encD encP) k hke d'.toList
      apply List.ext_getElem?
      intro j
      by_cases hj : j < l.length * k
      · rw [List.getElem?_take_of_lt hj, Array.getElem?_toList, ← hfk, Array.getElem?_toList]
        have hsz' : (flatK (encD encP) k d').size = l.length * k := by rw [size_flatK, hp2']
        simp only [putCells, Array.getElem?_mapIdx, hsz']
        rw [Array.getElem?_eq_getElem (by omega), Option.map_some, if_pos ⟨Nat.zero_le _, by omega⟩, Nat.sub_zero, getElem!_pos _ j (by rw [hsz']; exact hj)]
        simp
      · rw [List.getElem?_eq_none (by rw [List.length_take]; omega), List.getElem?_eq_none (by rw [hlen']; omega)]
    · intro u hu
      obtain ⟨q, hq, hu⟩ := List.mem_flatten.1 hu
      obtain ⟨x, hx, rfl⟩ := List.mem_map.1 hq
      simp only [encD, List.mem_map] at hu
      obtain ⟨q, hq, rfl⟩ := hu
      exact valD_one (List.all_eq_true.1 (hf x) q hq)
    · rw [PRepL.valD (hall d'.toList), hmapf]
    · intro x hx
      obtain ⟨y, _, rfl⟩ := List.mem_map.1 hx
      exact hk y
end
end Go.Proofs.YtpddiepfolfnoaaDoor

/- Spans: the sort that put does, and Union. -/
namespace Go.Proofs.YtpddiepfolfnoaaDoor
open Go.RowKit Go.Sort
set_option linter.unusedVariables false
set_option linter.unusedSimpArgs false
set_option linter.defProp false

theorem grow2 (w : World) (a b : Obj) : ∃ q os', (w.alloc a).alloc b = grow (w.drewN q) os' :=
  ⟨0, #[a, b], by cases w; simp only [World.alloc, grow, World.drewN, World.mk.injEq, and_true, Nat.add_zero]; apply Array.ext'; simp⟩
theorem put1_any (a b c d : Int) (w : World) (h1 : -9223372036854775808 ≤ a - c) (h2 : a - c ≤ 9223372036854775807) : Calls Tryd.prog 161 #[.agg #[.int .i64 a, .int .i64 b], .agg #[.int .i64 c, .int .i64 d]] w fun e w' => e = .returned (.int .i64 (a - c)) ∧ ∃ q os', w' = grow (w.drewN q) os' := by
  go_enter Tryd.func161, Tryd.ntmps161
  go_wp2_with fail
  go_ret
  exact ⟨rfl, grow2 _ _ _⟩

def clampI (n : Int) : Int := max (-1000000000) (min 1000000000 n)
theorem clampI_bd (n : Int) : -1000000000 ≤ clampI n ∧ clampI n ≤ 1000000000 := by unfold clampI; omega
theorem clampI_eq {n : Int} (h1 : -1000000000 ≤ n) (h2 : n ≤ 1000000000) : clampI n = n := by unfold clampI; omega
def encC (p : Int × Int) : List PV := [int (clampI p.1), int p.2]
theorem encC_map {l : List (Int × Int)} (h : ∀ s ∈ l, -1000000000 ≤ s.1 ∧ s.1 ≤ 1000000000) : l.map encC = l.map spn :=
  List.map_congr_left fun s hs => by simp only [encC, spn, clampI_eq (h s hs).1 (h s hs).2]

section
variable {E : Envt}
theorem sort_ok (l : List (Int × Int)) (hl : l.length ≤ 1000000000000) (hb : ∀ s ∈ l, -1000000000 ≤ s.1 ∧ s.1 ≤ 1000000000) : SortOk E l := by
  have h := sortFunc_row (E := E) Tryd.laySpanSort 2 (fun w => Tryd.isAgg46 w) (fun w => Tryd.sizeOf46 w) tSpan encC (fun x => rfl) (fun x => rfl) (fun x y => clampI x.1 - clampI y.1)
    ⟨fun x => by simp [ltOf], fun x y z => by simp only [ltOf, decide_eq_true_eq]; omega, fun x y z => by simp only [ltOf, decide_eq_false_iff_not]; omega⟩ 161 (fun args w => run_enter (by kernel_rfl) args w)
    (fun w x y => put1_any _ _ _ _ w (by have := clampI_bd x.1; have := clampI_bd y.1; omega) (by have := clampI_bd x.1; have := clampI_bd y.1; omega)) l hl
  rw [encC_map hb] at h
  refine RCall.mono h ?_
  rintro x es ⟨rfl, l', rfl, hp, hs⟩
  refine ⟨rfl, l', encC_map (fun s hs => hb s (hp.mem_iff.1 hs)), hp.length_eq, fun s => hp.mem_iff, ?_⟩
  refine hs.imp_of_mem ?_
  intro u v hu hv h
  have h1 := hb u (hp.mem_iff.1 hu)
  have h2 := hb v (hp.mem_iff.1 hv)
  simp only [ltOf, decide_eq_false_iff_not, clampI_eq h1.1 h1.2, clampI_eq h2.1 h2.2] at h
  omega

end
end Go.Proofs.YtpddiepfolfnoaaDoor

/- From the library's contracts to contracts of the layer: values that need no memory. -/
namespace Go.Proofs.YtpddiepfolfnoaaDoor
open Go.RowKit
set_option linter.unusedVariables false
set_option linter.unusedSimpArgs false
set_option linter.defProp false
section
variable {P : Program} {E : Envt}
theorem grow_below {w w' : World} {O : Nat → Prop} (h : Below w.heap.size w w') : Grow w w' O := ⟨h.os, h.tape, h.output, h.size, fun b hb _ => h.block b hb⟩
/-- Results: flat, or a tuple of flat ones. -/
def flatX : PV → Bool
  | .tup cs => cs.all flatD
  | x => flatD x
def valX : PV → Value
  | .tup cs => .tuple (cs.map valD).toArray
  | x => valD x
theorem PRep.valX {w : World} {U : Nat → Prop} {x : PV} (hf : flatX x = true) : PRep w U x (valX x) := by
  cases x with
  | tup cs => exact ⟨_, rfl, (PRepL.valD (by simpa [flatX] using hf)).2 rfl⟩
  | int k n => rfl
  | bool b => rfl
  | str s => rfl
  | _ => simp [flatX, flatD] at hf
/-- A contract whose arguments and result need no memory. -/
theorem pcall_flat {f : FuncId} {args : List PV} {r : PV} (ha : args.all flatD = true) (hr : flatX r = true) (h : ∀ w, E.ok w → Calls P f (args.map valD).toArray w fun e w' => e = .returned (valX r) ∧ Grow w w' (fun _ => False)) : PCall P E f args (· = r) := by
  intro w U vs hU hE hEb hA
  rw [PRepL.valD ha] at hA
  subst hA
  refine (h w hE).mono ?_
  rintro e w' ⟨rfl, hg⟩
  exact ⟨_, r, rfl, rfl, PRep.valX hr, hg⟩
end
end Go.Proofs.YtpddiepfolfnoaaDoor
