/- Spans: the document's answer to Union and Without. -/
import Derived.Test.YtpddiepfolfnoaaDoorB4
namespace Go.Proofs.YtpddiepfolfnoaaDoor
set_option linter.unusedVariables false
set_option linter.unusedSimpArgs false
set_option linter.defProp false

/- paperchase/chaseref1.painted -/
def ir_chaseref1_painted_L1 : IC :=
  (.seq (.seq (.reg [⟨some 19, .mov (.t 8), none⟩,
      ⟨some 20, .fla 1 (.t 7), none⟩,
      ⟨some 21, .ld 1 false (.t 20), none⟩,
      ⟨some 22, .bin .lss (.t 19) (.t 21), none⟩])
    (.cond (.t 22) .skip (.exit 2)))
    (.seq (.block 3 (.reg [⟨some 25, .mov (.t 5), none⟩,
      ⟨some 26, .mov (.t 8), none⟩,
      ⟨some 27, .ixa 1 (.t 25) (.t 26), none⟩,
      ⟨none, .st 1 (.t 27) (.c (.bool true)), none⟩]))
    (.reg [⟨some 23, .mov (.t 8), none⟩,
      ⟨some 24, .bin .add (.t 23) (.c (.int .i64 1)), none⟩,
      ⟨some 8, .mov (.t 24), none⟩])))
def ir_chaseref1_painted_L0 : IC :=
  (.seq (.reg [⟨some 14, .bin .lss (.t 13) (.t 12), none⟩])
    (.seq (.cond (.t 14) .skip (.exit 0))
    (.seq (.block 1 (.seq (.reg [⟨some 15, .ixa 2 (.t 11) (.t 13), none⟩,
      ⟨some 16, .ld 2 true (.t 15), none⟩,
      ⟨some 7, .alc 46 [.int .i64 0, .int .i64 0], none⟩,
      ⟨none, .st 2 (.t 7) (.t 16), none⟩])
    (.seq (.reg [⟨some 17, .fla 0 (.t 7), none⟩,
      ⟨some 18, .ld 1 false (.t 17), none⟩,
      ⟨some 8, .mov (.t 18), none⟩])
    (.block 2 (.loop ir_chaseref1_painted_L1)))))
    (.reg [⟨some 28, .bin .add (.t 13) (.c (.int .i64 1)), none⟩,
      ⟨some 13, .mov (.t 28), none⟩]))))
def ir_chaseref1_painted : IC :=
  (.seq (.reg [⟨some 4, .mov (.c (.nl 1)), none⟩])
    (.seq (.reg [⟨some 9, .mov (.t 1), none⟩,
      ⟨some 10, .mks 4 1 1 [.bool false] (.t 9) (.t 9), none⟩,
      ⟨some 5, .mov (.t 10), none⟩])
    (.seq (.seq (.reg [⟨some 11, .mov (.t 0), none⟩,
      ⟨some 12, .len (.t 11), none⟩,
      ⟨some 13, .mov (.c (.int .i64 0)), none⟩])
    (.block 0 (.loop ir_chaseref1_painted_L0)))
    (.seq (.reg [⟨some 29, .mov (.t 5), none⟩,
      ⟨some 4, .mov (.t 29), none⟩])
    .ret))))
def rs_chaseref1_painted : List IRes := [.t 4]
theorem ck_chaseref1_painted : chkF Tryd.prog Tryd.f94 ir_chaseref1_painted rs_chaseref1_painted 30 = true := by kernel_rfl
/- paperchase/chaseref1.spansFrom -/
def ir_chaseref1_spansFrom_L0 : IC :=
  (.seq (.reg [⟨some 9, .bin .lss (.t 8) (.t 7), none⟩])
    (.seq (.cond (.t 9) .skip (.exit 0))
    (.seq (.block 1 (.seq (.reg [⟨some 10, .mov (.t 8), none⟩,
      ⟨some 11, .ixa 1 (.t 6) (.t 8), none⟩,
      ⟨some 12, .ld 1 false (.t 11), none⟩,
      ⟨some 4, .mov (.t 10), none⟩,
      ⟨some 5, .mov (.t 12), none⟩])
    (.seq (.seq (.reg [⟨some 13, .mov (.t 5), none⟩,
      ⟨some 14, .mov (.t 13), none⟩,
      ⟨some 15, .mov (.t 4), (some (14, true))⟩,
      ⟨some 16, .bin .eql (.t 15) (.c (.int .i64 0)), (some (14, true))⟩,
      ⟨some 17, .mov (.t 16), (some (14, true))⟩,
      ⟨some 18, .mov (.t 0), (some (17, false))⟩,
      ⟨some 19, .mov (.t 4), (some (17, false))⟩,
      ⟨some 20, .bin .sub (.t 19) (.c (.int .i64 1)), (some (17, false))⟩,
      ⟨some 21, .ixa 1 (.t 18) (.t 20), (some (17, false))⟩,
      ⟨some 22, .ld 1 false (.t 21), (some (17, false))⟩,
      ⟨some 23, .not (.t 22), (some (17, false))⟩,
      ⟨some 24, .pick (.t 17) (.c (.bool true)) (.t 23), (some (14, true))⟩,
      ⟨some 25, .pick (.t 14) (.t 24) (.c (.bool false)), none⟩])
    (.cond (.t 25) (.reg [⟨some 26, .mov (.t 3), none⟩,
      ⟨some 27, .mov (.t 4), none⟩,
      ⟨some 28, .bld [.int .i64 0, .int .i64 0] [(0, 1, .t 27)], none⟩,
      ⟨some 29, .bsl 2 [.t 28], none⟩,
      ⟨some 30, .app 46 2 16 (.t 26) (.t 29), none⟩,
      ⟨some 3, .mov (.t 30), none⟩]) .skip))
    (.cut (.seq (.reg [⟨some 31, .mov (.t 5), none⟩])
    (.cond (.t 31) (.reg [⟨some 32, .mov (.t 3), none⟩,
      ⟨some 33, .mov (.t 3), none⟩,
      ⟨some 34, .len (.t 33), none⟩,
      ⟨some 35, .bin .sub (.t 34) (.c (.int .i64 1)), none⟩,
      ⟨some 36, .mov (.t 4), none⟩,
      ⟨some 37, .bin .add (.t 36) (.c (.int .i64 1)), none⟩,
      ⟨some 38, .ixa 2 (.t 32) (.t 35), none⟩,
      ⟨some 39, .fla 1 (.t 38), none⟩,
      ⟨none, .st 1 (.t 39) (.t 37), none⟩]) .skip))))))
    (.cut (.reg [⟨some 40, .bin .add (.t 8) (.c (.int .i64 1)), none⟩,
      ⟨some 8, .mov (.t 40), none⟩])))))
def ir_chaseref1_spansFrom : IC :=
  (.seq (.reg [⟨some 2, .mov (.c (.nl 2)), none⟩])
    (.seq (.reg [⟨some 3, .nilr 46 2, none⟩])
    (.seq (.seq (.reg [⟨some 6, .mov (.t 0), none⟩,
      ⟨some 7, .len (.t 6), none⟩,
      ⟨some 8, .mov (.c (.int .i64 0)), none⟩])
    (.block 0 (.loop ir_chaseref1_spansFrom_L0)))
    (.seq (.reg [⟨some 41, .mov (.t 3), none⟩,
      ⟨some 2, .mov (.t 41), none⟩])
    .ret))))
def rs_chaseref1_spansFrom : List IRes := [.t 2]
theorem ck_chaseref1_spansFrom : chkF Tryd.prog Tryd.f96 ir_chaseref1_spansFrom rs_chaseref1_spansFrom 42 = true := by kernel_rfl
/- paperchase/chaseref1.MixedOf -/
def ir_chaseref1_MixedOf_L0 : IC :=
  (.seq (.reg [⟨some 34, .bin .lss (.t 33) (.t 32), none⟩])
    (.seq (.cond (.t 34) .skip (.exit 0))
    (.seq (.block 1 (.seq (.reg [⟨some 35, .mov (.t 33), none⟩,
      ⟨some 13, .mov (.t 35), none⟩])
    (.seq (.reg [⟨some 36, .mov (.t 3), none⟩])
    (.cond (.t 36) (.reg [⟨some 37, .mov (.t 11), none⟩,
      ⟨some 38, .mov (.t 13), none⟩,
      ⟨some 39, .mov (.t 11), none⟩,
      ⟨some 40, .mov (.t 13), none⟩,
      ⟨some 41, .ixa 1 (.t 39) (.t 40), none⟩,
      ⟨some 42, .ld 1 false (.t 41), none⟩,
      ⟨some 43, .mov (.t 42), none⟩,
      ⟨some 44, .mov (.t 12), (some (43, true))⟩,
      ⟨some 45, .mov (.t 13), (some (43, true))⟩,
      ⟨some 46, .ixa 1 (.t 44) (.t 45), (some (43, true))⟩,
      ⟨some 47, .ld 1 false (.t 46), (some (43, true))⟩,
      ⟨some 48, .not (.t 47), (some (43, true))⟩,
      ⟨some 49, .pick (.t 43) (.t 48) (.c (.bool false)), none⟩,
      ⟨some 50, .ixa 1 (.t 37) (.t 38), none⟩,
      ⟨none, .st 1 (.t 50) (.t 49), none⟩]) (.reg [⟨some 51, .mov (.t 11), none⟩,
      ⟨some 52, .mov (.t 13), none⟩,
      ⟨some 53, .mov (.t 11), none⟩,
      ⟨some 54, .mov (.t 13), none⟩,
      ⟨some 55, .ixa 1 (.t 53) (.t 54), none⟩,
      ⟨some 56, .ld 1 false (.t 55), none⟩,
      ⟨some 57, .mov (.t 56), none⟩,
      ⟨some 58, .mov (.t 12), (some (57, false))⟩,
      ⟨some 59, .mov (.t 13), (some (57, false))⟩,
      ⟨some 60, .ixa 1 (.t 58) (.t 59), (some (57, false))⟩,
      ⟨some 61, .ld 1 false (.t 60), (some (57, false))⟩,
      ⟨some 62, .pick (.t 57) (.c (.bool true)) (.t 61), none⟩,
      ⟨some 63, .ixa 1 (.t 51) (.t 52), none⟩,
      ⟨none, .st 1 (.t 63) (.t 62), none⟩])))))
    (.cut (.reg [⟨some 64, .bin .add (.t 33) (.c (.int .i64 1)), none⟩,
      ⟨some 33, .mov (.t 64), none⟩])))))
def ir_chaseref1_MixedOf : IC :=
  (.seq (.reg [⟨some 8, .mov (.c (.nl 2)), none⟩,
      ⟨some 9, .mov (.c (.int .i64 0)), none⟩])
    (.seq (.seq (.reg [⟨some 14, .mov (.t 0), none⟩,
      ⟨some 15, .mov (.t 2), none⟩,
      ⟨some 16, .call 23 [.t 14, .t 15], none⟩,
      ⟨some 17, .mov (.t 1), none⟩,
      ⟨some 18, .mov (.t 2), none⟩,
      ⟨some 19, .call 23 [.t 17, .t 18], none⟩,
      ⟨some 20, .bsl 1 [.t 16, .t 19], none⟩,
      ⟨some 21, .call 93 [.t 20], none⟩,
      ⟨some 10, .mov (.t 21), none⟩])
    (.seq (.reg [⟨some 22, .mov (.t 10), none⟩,
      ⟨some 23, .bin .neq (.t 22) (.c (.int .i64 0)), none⟩])
    (.cond (.t 23) (.seq (.reg [⟨some 24, .mov (.t 10), none⟩,
      ⟨some 8, .mov (.c (.nl 2)), none⟩,
      ⟨some 9, .mov (.t 24), none⟩])
    .ret) .skip)))
    (.seq (.reg [⟨some 25, .mov (.t 0), none⟩,
      ⟨some 26, .mov (.t 2), none⟩,
      ⟨some 27, .call 94 [.t 25, .t 26], none⟩,
      ⟨some 28, .mov (.t 1), none⟩,
      ⟨some 29, .mov (.t 2), none⟩,
      ⟨some 30, .call 94 [.t 28, .t 29], none⟩,
      ⟨some 11, .mov (.t 27), none⟩,
      ⟨some 12, .mov (.t 30), none⟩])
    (.seq (.seq (.reg [⟨some 31, .mov (.t 11), none⟩,
      ⟨some 32, .len (.t 31), none⟩,
      ⟨some 33, .mov (.c (.int .i64 0)), none⟩])
    (.block 0 (.loop ir_chaseref1_MixedOf_L0)))
    (.seq (.reg [⟨some 65, .mov (.t 11), none⟩,
      ⟨none, .fz (.t 65), none⟩,
      ⟨some 66, .call 96 [.t 65], none⟩,
      ⟨some 67, .call 95 [.t 66], none⟩,
      ⟨some 68, .ext 0 (.t 67), none⟩,
      ⟨some 69, .ext 1 (.t 67), none⟩,
      ⟨some 8, .mov (.t 68), none⟩,
      ⟨some 9, .mov (.t 69), none⟩])
    .ret)))))
def rs_chaseref1_MixedOf : List IRes := [.t 8, .t 9]
theorem ck_chaseref1_MixedOf : chkF Tryd.prog Tryd.f26 ir_chaseref1_MixedOf rs_chaseref1_MixedOf 70 = true := by kernel_rfl


def cov (l : List (Int × Int)) (j : Nat) : Bool := l.any fun s => decide (s.1 ≤ j) && decide ((j : Int) < s.2)
def bl (p : List Bool) : List (List PV) := p.map fun b => [.bool b]
def tab (n : Nat) (f : Nat → Bool) : List Bool := (List.range n).map f
theorem tab_len (n : Nat) (f : Nat → Bool) : (tab n f).length = n := by simp [tab]
theorem bl_len (p : List Bool) : (bl p).length = p.length := by simp [bl]
theorem tab_get {n : Nat} {f : Nat → Bool} {i : Nat} (h : i < n) : (tab n f)[i]? = some (f i) := by
  unfold tab
  rw [List.getElem?_map, List.getElem?_range h]; rfl
theorem bl_tab {n : Nat} {f : Nat → Bool} {i : Nat} (h : i < n) : (bl (tab n f)).getD i [] = [.bool (f i)] := getD_map (tab_get h)
theorem bl_set {n : Nat} {f : Nat → Bool} {i : Nat} {b : Bool} : (bl (tab n f)).set i [.bool b] = bl (tab n fun j => if j = i then b else f j) := by
  refine List.ext_getElem? fun j => ?_
  rw [List.getElem?_set]
  by_cases hj : i = j
  · subst hj
    simp only [if_true, bl_len, tab_len]
    by_cases hi : i < n
    · rw [if_pos hi, show bl (tab n fun j => if j = i then b else f j) = (tab n fun j => if j = i then b else f j).map (fun b => [.bool b]) from rfl, List.getElem?_map, tab_get hi]
      simp
    · rw [if_neg hi, List.getElem?_eq_none (by rw [bl_len, tab_len]; omega)]
  · rw [if_neg hj]
    unfold bl tab
    rw [List.getElem?_map, List.getElem?_map, List.getElem?_map, List.getElem?_map]
    by_cases hn : j < n
    · rw [List.getElem?_range hn]
      simp [Ne.symm hj]
    · rw [List.getElem?_eq_none (by simpa using hn)]
      rfl
theorem tab_congr {n : Nat} {f g : Nat → Bool} (h : ∀ j, j < n → f j = g j) : tab n f = tab n g := List.map_congr_left fun j hj => h j (by simpa using hj)
theorem cov_take {l : List (Int × Int)} {k : Nat} {x : Int × Int} (h : l[k]? = some x) (j : Nat) : cov (l.take (k + 1)) j = (cov (l.take k) j || (decide (x.1 ≤ j) && decide ((j : Int) < x.2))) := by
  unfold cov
  rw [List.take_add_one, h]
  simp

section
variable {E : Envt}
theorem painted_ok (l : List (Int × Int)) (n : Nat) (hl : l.length ≤ 1000000) (hn : n ≤ 1000000) (hs : ∀ s ∈ l, 0 ≤ s.1 ∧ s.2 ≤ n) :
    FCall Tryd.prog E 94 [sps l, int n] 4 1 (· = bl (tab n (cov l))) := by
  unfold FCall
  refine gcallR mixed Tryd.func94 ck_chaseref1_painted ?_
  simp only [a0, l0, OS.ao, List.map_cons, List.map_nil, List.length_cons, List.length_nil, List.cons_append, List.nil_append, Nat.reduceSub, Nat.reduceAdd, List.replicate_succ, List.replicate_zero, ir_chaseref1_painted, rs_chaseref1_painted, ZZ, Za, Zb, Zc, Zd, Ze, Zf, Zg, Zh, rd, AV.un, AV.unA, AV.ad, Zi, Zj, Zk, Zl, Zm, Zn, Zo, Zp, Zq, Zr, Zs, Zt, Zu, Zv, Zw, Zx, Zy, Zz, Zaa, Zab, Zac, Zad, wk1, wk, Zae, Zaf, Zag, Zah, Zai, Zaj, Zak, Zal, AV.kill, AO.kill, AV.thaw, AO.thaw, Zam, Zan, Zao, Zap, Zaq, Zar, Zas, Zat, Zau, ite_true, ite_false, reduceCtorEq, Nat.reduceAdd, Nat.reduceMul, Nat.reduceLeDiff, Nat.reduceLT, Nat.reduceEqDiff, forall_const]
  simp only [sps, ZZ, Za, Zb, Zc, Zd, Ze, Zf, Zg, Zh, rd, AV.un, AV.unA, AV.ad, Zi, Zj, Zk, Zl, Zm, Zn, Zo, Zp, Zq, Zr, Zs, Zt, Zu, Zv, Zw, Zx, Zy, Zz, Zaa, Zab, Zac, Zad, wk1, wk, Zae, Zaf, Zag, Zah, Zai, Zaj, Zak, Zal, AV.kill, AO.kill, AV.thaw, AO.thaw, Zam, Zan, Zao, Zap, Zaq, Zar, Zas, Zat, Zau, ite_true, ite_false, reduceCtorEq, Nat.reduceAdd, Nat.reduceMul, Nat.reduceLeDiff, Nat.reduceLT, Nat.reduceEqDiff, forall_const]
  ((repeat' (with_reducible apply And.intro)) <;> try ((first | first | assumption | trivial | exact (fun hq => by rw [hq]; rfl) | exact i64_of (by omega) (by omega) | omega | (simp; done) | (simp; omega) | (intro hsc; have hs0 := hsc; (try have hsd := of_decide_eq_true hsc); (try simp only [Bool.not_eq_true', Bool.or_eq_false_iff, Bool.and_eq_true, Bool.or_eq_true, decide_eq_true_eq, decide_eq_false_iff_not] at hsc); (repeat' (with_reducible apply And.intro)) <;> (first | assumption | trivial | exact (fun hq => by rw [hq]; rfl) | exact i64_of (by omega) (by omega) | omega | (simp; done) | (simp; omega) | (intro hse; simp [hse, hs0]; done))))))
  generalize hes : l.map spn = es
  have hln : es.length = l.length := by rw [← hes]; simp
  have h0 : List.replicate n [PV.bool false] = bl (tab n (cov (l.take 0))) := by
    unfold bl tab
    rw [List.map_map]
    refine List.ext_getElem? fun j => ?_
    by_cases hj : j < n
    · simp [hj, cov]
    · rw [List.getElem?_eq_none (by simpa using hj), List.getElem?_eq_none (by simpa using hj)]
  rw [h0]
  refine loop_intro (fun m fr L => ∃ k : Nat, k ≤ l.length ∧ m = l.length - k ∧ fr = [.any, .any, .any, .any, .any, .row (.l 10), .any, .any, .any, .any, .any, .p (.sl 2 es), .p (int (es.length : Nat)), .p (int (k : Nat)), .any, .any, .any, .any, .any, .any, .any, .any, .any, .any, .any, .any, .any, .any, .any, .any] ∧ L = [(.l 10, .row (bl (tab n (cov (l.take k)))) 4 1 true)]) l.length [.any, .any, .any, .any, .any, .row (.l 10), .any, .any, .any, .any, .any, .p (.sl 2 es), .p (int (es.length : Nat)), .p (int (0 : Nat)), .any, .any, .any, .any, .any, .any, .any, .any, .any, .any, .any, .any, .any, .any, .any, .any] [(.l 10, .row (bl (tab n (cov (l.take 0)))) 4 1 true)] (by (simp only [ZZ, Za, Zb, Zc, Zd, Ze, Zf, Zg, Zh, rd, AV.un, AV.unA, AV.ad, Zi, Zj, Zk, Zl, Zm, Zn, Zo, Zp, Zq, Zr, Zs, Zt, Zu, Zv, Zw, Zx, Zy, Zz, Zaa, Zab, Zac, Zad, wk1, wk, Zae, Zaf, Zag, Zah, Zai, Zaj, Zak, Zal, AV.kill, AO.kill, AV.thaw, AO.thaw, Zam, Zan, Zao, Zap, Zaq, Zar, Zas, Zat, Zau, ite_true, ite_false, reduceCtorEq, Nat.reduceAdd, Nat.reduceMul, Nat.reduceLeDiff, Nat.reduceLT, Nat.reduceEqDiff, forall_const]; try trivial)) (by simp only [ZZ, Za, Zb, Zc, Zd, Ze, Zf, Zg, Zh, rd, AV.un, AV.unA, AV.ad, Zi, Zj, Zk, Zl, Zm, Zn, Zo, Zp, Zq, Zr, Zs, Zt, Zu, Zv, Zw, Zx, Zy, Zz, Zaa, Zab, Zac, Zad, wk1, wk, Zae, Zaf, Zag, Zah, Zai, Zaj, Zak, Zal, AV.kill, AO.kill, AV.thaw, AO.thaw, Zam, Zan, Zao, Zap, Zaq, Zar, Zas, Zat, Zau, ite_true, ite_false, reduceCtorEq, Nat.reduceAdd, Nat.reduceMul, Nat.reduceLeDiff, Nat.reduceLT, Nat.reduceEqDiff, forall_const]) ⟨0, by omega, by omega, rfl, rfl⟩ ?_
  rintro m fr L ⟨k, hk, rfl, rfl, rfl⟩
  simp only [ir_chaseref1_painted_L0, ZZ, Za, Zb, Zc, Zd, Ze, Zf, Zg, Zh, rd, AV.un, AV.unA, AV.ad, Zi, Zj, Zk, Zl, Zm, Zn, Zo, Zp, Zq, Zr, Zs, Zt, Zu, Zv, Zw, Zx, Zy, Zz, Zaa, Zab, Zac, Zad, wk1, wk, Zae, Zaf, Zag, Zah, Zai, Zaj, Zak, Zal, AV.kill, AO.kill, AV.thaw, AO.thaw, Zam, Zan, Zao, Zap, Zaq, Zar, Zas, Zat, Zau, ite_true, ite_false, reduceCtorEq, Nat.reduceAdd, Nat.reduceMul, Nat.reduceLeDiff, Nat.reduceLT, Nat.reduceEqDiff, forall_const]
  refine br ?_ ?_
  · intro h
    have hlt : k < l.length := by have := of_decide_eq_true h; omega
    obtain ⟨s, hx⟩ : ∃ x, l[k]? = some x := ⟨_, List.getElem?_eq_getElem hlt⟩
    have hg : es.getD k [] = spn s := by rw [← hes]; exact getD_map hx
    have hsb := hs s (List.mem_of_getElem? hx)
    simp only [ZZ, Za, Zb, Zc, Zd, Ze, Zf, Zg, Zh, rd, AV.un, AV.unA, AV.ad, Zi, Zj, Zk, Zl, Zm, Zn, Zo, Zp, Zq, Zr, Zs, Zt, Zu, Zv, Zw, Zx, Zy, Zz, Zaa, Zab, Zac, Zad, wk1, wk, Zae, Zaf, Zag, Zah, Zai, Zaj, Zak, Zal, AV.kill, AO.kill, AV.thaw, AO.thaw, Zam, Zan, Zao, Zap, Zaq, Zar, Zas, Zat, Zau, ite_true, ite_false, reduceCtorEq, Nat.reduceAdd, Nat.reduceMul, Nat.reduceLeDiff, Nat.reduceLT, Nat.reduceEqDiff, forall_const, hg, spn]
    ((repeat' (with_reducible apply And.intro)) <;> try ((first | first | assumption | trivial | exact (fun hq => by rw [hq]; rfl) | exact i64_of (by omega) (by omega) | omega | (simp; done) | (simp; omega) | (intro hsc; have hs0 := hsc; (try have hsd := of_decide_eq_true hsc); (try simp only [Bool.not_eq_true', Bool.or_eq_false_iff, Bool.and_eq_true, Bool.or_eq_true, decide_eq_true_eq, decide_eq_false_iff_not] at hsc); (repeat' (with_reducible apply And.intro)) <;> (first | assumption | trivial | exact (fun hq => by rw [hq]; rfl) | exact i64_of (by omega) (by omega) | omega | (simp; done) | (simp; omega) | (intro hse; simp [hse, hs0]; done))))))
    refine loop_intro (fun m fr L => ∃ i : Int, s.1 ≤ i ∧ (i ≤ s.2 ∨ i = s.1) ∧ m = (s.2 - i).toNat ∧ fr = [.any, .any, .any, .any, .any, .row (.l 10), .any, .adr (.l 7) 0, .p (int i), .any, .any, .p (.sl 2 es), .p (int (es.length : Nat)), .p (int (k : Nat)), .any, .any, .any, .any, .any, .any, .any, .any, .any, .any, .any, .any, .any, .any, .any, .any] ∧ L = [(.l 10, .row (bl (tab n (fun j => cov (l.take k) j || (decide (s.1 ≤ j) && decide ((j : Int) < i))))) 4 1 true), (.l 7, .box [.p (int s.1), .p (int s.2)] tSpan)]) (s.2 - s.1).toNat [.any, .any, .any, .any, .any, .row (.l 10), .any, .adr (.l 7) 0, .p (int s.1), .any, .any, .p (.sl 2 es), .p (int (es.length : Nat)), .p (int (k : Nat)), .any, .any, .any, .any, .any, .any, .any, .any, .any, .any, .any, .any, .any, .any, .any, .any] [(.l 10, .row (bl (tab n (cov (l.take k)))) 4 1 true), (.l 7, .box [.p (int s.1), .p (int s.2)] tSpan)] (by (simp only [ZZ, Za, Zb, Zc, Zd, Ze, Zf, Zg, Zh, rd, AV.un, AV.unA, AV.ad, Zi, Zj, Zk, Zl, Zm, Zn, Zo, Zp, Zq, Zr, Zs, Zt, Zu, Zv, Zw, Zx, Zy, Zz, Zaa, Zab, Zac, Zad, wk1, wk, Zae, Zaf, Zag, Zah, Zai, Zaj, Zak, Zal, AV.kill, AO.kill, AV.thaw, AO.thaw, Zam, Zan, Zao, Zap, Zaq, Zar, Zas, Zat, Zau, ite_true, ite_false, reduceCtorEq, Nat.reduceAdd, Nat.reduceMul, Nat.reduceLeDiff, Nat.reduceLT, Nat.reduceEqDiff, forall_const]; try trivial)) (by simp only [ZZ, Za, Zb, Zc, Zd, Ze, Zf, Zg, Zh, rd, AV.un, AV.unA, AV.ad, Zi, Zj, Zk, Zl, Zm, Zn, Zo, Zp, Zq, Zr, Zs, Zt, Zu, Zv, Zw, Zx, Zy, Zz, Zaa, Zab, Zac, Zad, wk1, wk, Zae, Zaf, Zag, Zah, Zai, Zaj, Zak, Zal, AV.kill, AO.kill, AV.thaw, AO.thaw, Zam, Zan, Zao, Zap, Zaq, Zar, Zas, Zat, Zau, ite_true, ite_false, reduceCtorEq, Nat.reduceAdd, Nat.reduceMul, Nat.reduceLeDiff, Nat.reduceLT, Nat.reduceEqDiff, forall_const]) ⟨s.1, by omega, .inr rfl, rfl, rfl, ?_⟩ ?_
    · have : tab n (cov (l.take k)) = tab n (fun j => cov (l.take k) j || (decide (s.1 ≤ j) && decide ((j : Int) < s.1))) := tab_congr fun j _ => by
        have : (decide (s.1 ≤ j) && decide ((j : Int) < s.1)) = false := by simp
        rw [this, Bool.or_false]
      rw [← this]
    rintro m fr L ⟨i, hi1, hi2, rfl, rfl, rfl⟩
    simp only [ir_chaseref1_painted_L1, ZZ, Za, Zb, Zc, Zd, Ze, Zf, Zg, Zh, rd, AV.un, AV.unA, AV.ad, Zi, Zj, Zk, Zl, Zm, Zn, Zo, Zp, Zq, Zr, Zs, Zt, Zu, Zv, Zw, Zx, Zy, Zz, Zaa, Zab, Zac, Zad, wk1, wk, Zae, Zaf, Zag, Zah, Zai, Zaj, Zak, Zal, AV.kill, AO.kill, AV.thaw, AO.thaw, Zam, Zan, Zao, Zap, Zaq, Zar, Zas, Zat, Zau, ite_true, ite_false, reduceCtorEq, Nat.reduceAdd, Nat.reduceMul, Nat.reduceLeDiff, Nat.reduceLT, Nat.reduceEqDiff, forall_const]
    refine br ?_ ?_
    · intro h2
      have hlt2 := of_decide_eq_true h2
      have hin : i.toNat < n := by omega
      have hii : ((i.toNat : Nat) : Int) = i := by omega
      simp only [ZZ, Za, Zb, Zc, Zd, Ze, Zf, Zg, Zh, rd, AV.un, AV.unA, AV.ad, Zi, Zj, Zk, Zl, Zm, Zn, Zo, Zp, Zq, Zr, Zs, Zt, Zu, Zv, Zw, Zx, Zy, Zz, Zaa, Zab, Zac, Zad, wk1, wk, Zae, Zaf, Zag, Zah, Zai, Zaj, Zak, Zal, AV.kill, AO.kill, AV.thaw, AO.thaw, Zam, Zan, Zao, Zap, Zaq, Zar, Zas, Zat, Zau, ite_true, ite_false, reduceCtorEq, Nat.reduceAdd, Nat.reduceMul, Nat.reduceLeDiff, Nat.reduceLT, Nat.reduceEqDiff, forall_const, bl_len, tab_len, bl_tab hin]
      simp only [Zaa, List.set_cons_zero, bl_set]
      ((repeat' (with_reducible apply And.intro)) <;> try ((first | first | assumption | trivial | exact (fun hq => by rw [hq]; rfl) | exact i64_of (by omega) (by omega) | omega | (simp; done) | (simp; omega) | (intro hsc; have hs0 := hsc; (try have hsd := of_decide_eq_true hsc); (try simp only [Bool.not_eq_true', Bool.or_eq_false_iff, Bool.and_eq_true, Bool.or_eq_true, decide_eq_true_eq, decide_eq_false_iff_not] at hsc); (repeat' (with_reducible apply And.intro)) <;> (first | assumption | trivial | exact (fun hq => by rw [hq]; rfl) | exact i64_of (by omega) (by omega) | omega | (simp; done) | (simp; omega) | (intro hse; simp [hse, hs0]; done))))))
      refine end_round (s.2 - (i + 1)).toNat [.any, .any, .any, .any, .any, .row (.l 10), .any, .adr (.l 7) 0, .p (int (i + 1)), .any, .any, .p (.sl 2 es), .p (int (es.length : Nat)), .p (int (k : Nat)), .any, .any, .any, .any, .any, .any, .any, .any, .any, .any, .any, .any, .any, .any, .any, .any] [(.l 10, .row (bl (tab n (fun j => cov (l.take k) j || (decide (s.1 ≤ j) && decide ((j : Int) < i + 1))))) 4 1 true), (.l 7, .box [.p (int s.1), .p (int s.2)] tSpan)] (by omega) (by (simp only [ZZ, Za, Zb, Zc, Zd, Ze, Zf, Zg, Zh, rd, AV.un, AV.unA, AV.ad, Zi, Zj, Zk, Zl, Zm, Zn, Zo, Zp, Zq, Zr, Zs, Zt, Zu, Zv, Zw, Zx, Zy, Zz, Zaa, Zab, Zac, Zad, wk1, wk, Zae, Zaf, Zag, Zah, Zai, Zaj, Zak, Zal, AV.kill, AO.kill, AV.thaw, AO.thaw, Zam, Zan, Zao, Zap, Zaq, Zar, Zas, Zat, Zau, ite_true, ite_false, reduceCtorEq, Nat.reduceAdd, Nat.reduceMul, Nat.reduceLeDiff, Nat.reduceLT, Nat.reduceEqDiff, forall_const]; try trivial)) ?_ ⟨i + 1, by omega, .inl (by omega), rfl, rfl, rfl⟩
      simp only [ZZ, Za, Zb, Zc, Zd, Ze, Zf, Zg, Zh, rd, AV.un, AV.unA, AV.ad, Zi, Zj, Zk, Zl, Zm, Zn, Zo, Zp, Zq, Zr, Zs, Zt, Zu, Zv, Zw, Zx, Zy, Zz, Zaa, Zab, Zac, Zad, wk1, wk, Zae, Zaf, Zag, Zah, Zai, Zaj, Zak, Zal, AV.kill, AO.kill, AV.thaw, AO.thaw, Zam, Zan, Zao, Zap, Zaq, Zar, Zas, Zat, Zau, ite_true, ite_false, reduceCtorEq, Nat.reduceAdd, Nat.reduceMul, Nat.reduceLeDiff, Nat.reduceLT, Nat.reduceEqDiff, forall_const]
      congr 2
      refine congrArg bl (tab_congr fun j hj => ?_)
      by_cases hji : j = i.toNat
      · subst hji
        simp; omega
      · have : ((j : Int) < i + 1) ↔ ((j : Int) < i) := by omega
        simp [hji, this]
    · intro h2
      have hge2 := of_decide_eq_false h2
      simp only [ZZ, Za, Zb, Zc, Zd, Ze, Zf, Zg, Zh, rd, AV.un, AV.unA, AV.ad, Zi, Zj, Zk, Zl, Zm, Zn, Zo, Zp, Zq, Zr, Zs, Zt, Zu, Zv, Zw, Zx, Zy, Zz, Zaa, Zab, Zac, Zad, wk1, wk, Zae, Zaf, Zag, Zah, Zai, Zaj, Zak, Zal, AV.kill, AO.kill, AV.thaw, AO.thaw, Zam, Zan, Zao, Zap, Zaq, Zar, Zas, Zat, Zau, ite_true, ite_false, reduceCtorEq, Nat.reduceAdd, Nat.reduceMul, Nat.reduceLeDiff, Nat.reduceLT, Nat.reduceEqDiff, forall_const]
      ((repeat' (with_reducible apply And.intro)) <;> try ((first | first | assumption | trivial | exact (fun hq => by rw [hq]; rfl) | exact i64_of (by omega) (by omega) | omega | (simp; done) | (simp; omega) | (intro hsc; have hs0 := hsc; (try have hsd := of_decide_eq_true hsc); (try simp only [Bool.not_eq_true', Bool.or_eq_false_iff, Bool.and_eq_true, Bool.or_eq_true, decide_eq_true_eq, decide_eq_false_iff_not] at hsc); (repeat' (with_reducible apply And.intro)) <;> (first | assumption | trivial | exact (fun hq => by rw [hq]; rfl) | exact i64_of (by omega) (by omega) | omega | (simp; done) | (simp; omega) | (intro hse; simp [hse, hs0]; done))))))
      refine end_round (l.length - (k + 1)) [.any, .any, .any, .any, .any, .row (.l 10), .any, .any, .any, .any, .any, .p (.sl 2 es), .p (int (es.length : Nat)), .p (int ((k + 1 : Nat))), .any, .any, .any, .any, .any, .any, .any, .any, .any, .any, .any, .any, .any, .any, .any, .any] [(.l 10, .row (bl (tab n (cov (l.take (k + 1))))) 4 1 true)] (by omega) (by (simp only [ZZ, Za, Zb, Zc, Zd, Ze, Zf, Zg, Zh, rd, AV.un, AV.unA, AV.ad, Zi, Zj, Zk, Zl, Zm, Zn, Zo, Zp, Zq, Zr, Zs, Zt, Zu, Zv, Zw, Zx, Zy, Zz, Zaa, Zab, Zac, Zad, wk1, wk, Zae, Zaf, Zag, Zah, Zai, Zaj, Zak, Zal, AV.kill, AO.kill, AV.thaw, AO.thaw, Zam, Zan, Zao, Zap, Zaq, Zar, Zas, Zat, Zau, ite_true, ite_false, reduceCtorEq, Nat.reduceAdd, Nat.reduceMul, Nat.reduceLeDiff, Nat.reduceLT, Nat.reduceEqDiff, forall_const]; try trivial)) ?_ ⟨k + 1, by omega, rfl, rfl, rfl⟩
      simp only [ZZ, Za, Zb, Zc, Zd, Ze, Zf, Zg, Zh, rd, AV.un, AV.unA, AV.ad, Zi, Zj, Zk, Zl, Zm, Zn, Zo, Zp, Zq, Zr, Zs, Zt, Zu, Zv, Zw, Zx, Zy, Zz, Zaa, Zab, Zac, Zad, wk1, wk, Zae, Zaf, Zag, Zah, Zai, Zaj, Zak, Zal, AV.kill, AO.kill, AV.thaw, AO.thaw, Zam, Zan, Zao, Zap, Zaq, Zar, Zas, Zat, Zau, ite_true, ite_false, reduceCtorEq, Nat.reduceAdd, Nat.reduceMul, Nat.reduceLeDiff, Nat.reduceLT, Nat.reduceEqDiff, forall_const]
      congr 2
      refine congrArg bl (tab_congr fun j hj => ?_)
      rw [cov_take hx]
      congr 1
      by_cases h1 : s.1 ≤ j
      · have : ((j : Int) < i) ↔ ((j : Int) < s.2) := by omega
        simp [h1, this]
      · simp [h1]
  · intro h
    have hge : l.length ≤ k := by have := of_decide_eq_false h; omega
    rw [List.take_of_length_le hge]
    simp only [ZZ, Za, Zb, Zc, Zd, Ze, Zf, Zg, Zh, rd, AV.un, AV.unA, AV.ad, Zi, Zj, Zk, Zl, Zm, Zn, Zo, Zp, Zq, Zr, Zs, Zt, Zu, Zv, Zw, Zx, Zy, Zz, Zaa, Zab, Zac, Zad, wk1, wk, Zae, Zaf, Zag, Zah, Zai, Zaj, Zak, Zal, AV.kill, AO.kill, AV.thaw, AO.thaw, Zam, Zan, Zao, Zap, Zaq, Zar, Zas, Zat, Zau, ite_true, ite_false, reduceCtorEq, Nat.reduceAdd, Nat.reduceMul, Nat.reduceLeDiff, Nat.reduceLT, Nat.reduceEqDiff, forall_const]
    exact fin_F 10 _ rfl rfl rfl

def onAt (p : List Bool) (i : Nat) : Bool := p.getD i false
def setTo (out : List (Int × Int)) (v : Int) : List (Int × Int) := out.set (out.length - 1) ((out.getD (out.length - 1) (0, 0)).1, v)
def begS (p : List Bool) (out : List (Int × Int)) (i : Nat) : List (Int × Int) := if (onAt p i && (decide (i = 0) || !onAt p (i - 1))) = true then out ++ [((i : Int), 0)] else out
def stepS (p : List Bool) (out : List (Int × Int)) (i : Nat) : List (Int × Int) := if onAt p i = true then setTo (begS p out i) (i + 1) else begS p out i
def spansFromF (p : List Bool) : List (Int × Int) := (List.range p.length).foldl (stepS p) []
theorem range_foldl {β : Type} {f : β → Nat → β} {z : β} {k : Nat} : (List.range (k + 1)).foldl f z = f ((List.range k).foldl f z) k := by
  rw [List.range_succ]; simp
theorem begS_len (p : List Bool) (out : List (Int × Int)) (i : Nat) : (begS p out i).length ≤ out.length + 1 := by
  unfold begS; split <;> simp
theorem stepS_len (p : List Bool) (out : List (Int × Int)) (i : Nat) : (stepS p out i).length = (begS p out i).length := by
  unfold stepS setTo; split <;> simp

theorem spansFrom_ok (p : List Bool) (hp : p.length ≤ 1000000) : PCall Tryd.prog E 96 [.sl 1 (bl p)] (· = sps (spansFromF p)) := by
  refine pcallF mixed Tryd.func96 ck_chaseref1_spansFrom ?_
  simp only [a0, l0, OS.ao, List.map_cons, List.map_nil, List.length_cons, List.length_nil, List.cons_append, List.nil_append, Nat.reduceSub, Nat.reduceAdd, List.replicate_succ, List.replicate_zero, ir_chaseref1_spansFrom, rs_chaseref1_spansFrom, ZZ, Za, Zb, Zc, Zd, Ze, Zf, Zg, Zh, rd, AV.un, AV.unA, AV.ad, Zi, Zj, Zk, Zl, Zm, Zn, Zo, Zp, Zq, Zr, Zs, Zt, Zu, Zv, Zw, Zx, Zy, Zz, Zaa, Zab, Zac, Zad, wk1, wk, Zae, Zaf, Zag, Zah, Zai, Zaj, Zak, Zal, AV.kill, AO.kill, AV.thaw, AO.thaw, Zam, Zan, Zao, Zap, Zaq, Zar, Zas, Zat, Zau, ite_true, ite_false, reduceCtorEq, Nat.reduceAdd, Nat.reduceMul, Nat.reduceLeDiff, Nat.reduceLT, Nat.reduceEqDiff, forall_const]
  generalize hes : bl p = es
  have hln : es.length = p.length := by rw [← hes]; simp [bl]
  refine loop_intro (fun n fr L => ∃ (k : Nat) (out : List (Int × Int)), k ≤ p.length ∧ n = p.length - k ∧ out = (List.range k).foldl (stepS p) [] ∧ out.length ≤ k ∧ (onAt p (k - 1) = true → 0 < k → 0 < out.length) ∧ fr = [.p (.sl 1 es), .any, .any, .row (.l 3), .any, .any, .p (.sl 1 es), .p (int (es.length : Nat)), .p (int (k : Nat)), .any, .any, .any, .any, .any, .any, .any, .any, .any, .any, .any, .any, .any, .any, .any, .any, .any, .any, .any, .any, .any, .any, .any, .any, .any, .any, .any, .any, .any, .any, .any, .any, .any] ∧ L = [(.l 3, .row (out.map spn) tSpan 2 true)]) p.length [.p (.sl 1 es), .any, .any, .row (.l 3), .any, .any, .p (.sl 1 es), .p (int (es.length : Nat)), .p (int (0 : Nat)), .any, .any, .any, .any, .any, .any, .any, .any, .any, .any, .any, .any, .any, .any, .any, .any, .any, .any, .any, .any, .any, .any, .any, .any, .any, .any, .any, .any, .any, .any, .any, .any, .any] [(.l 3, .row [] tSpan 2 true)] (by (simp only [ZZ, Za, Zb, Zc, Zd, Ze, Zf, Zg, Zh, rd, AV.un, AV.unA, AV.ad, Zi, Zj, Zk, Zl, Zm, Zn, Zo, Zp, Zq, Zr, Zs, Zt, Zu, Zv, Zw, Zx, Zy, Zz, Zaa, Zab, Zac, Zad, wk1, wk, Zae, Zaf, Zag, Zah, Zai, Zaj, Zak, Zal, AV.kill, AO.kill, AV.thaw, AO.thaw, Zam, Zan, Zao, Zap, Zaq, Zar, Zas, Zat, Zau, ite_true, ite_false, reduceCtorEq, Nat.reduceAdd, Nat.reduceMul, Nat.reduceLeDiff, Nat.reduceLT, Nat.reduceEqDiff, forall_const]; try trivial)) (by simp only [ZZ, Za, Zb, Zc, Zd, Ze, Zf, Zg, Zh, rd, AV.un, AV.unA, AV.ad, Zi, Zj, Zk, Zl, Zm, Zn, Zo, Zp, Zq, Zr, Zs, Zt, Zu, Zv, Zw, Zx, Zy, Zz, Zaa, Zab, Zac, Zad, wk1, wk, Zae, Zaf, Zag, Zah, Zai, Zaj, Zak, Zal, AV.kill, AO.kill, AV.thaw, AO.thaw, Zam, Zan, Zao, Zap, Zaq, Zar, Zas, Zat, Zau, ite_true, ite_false, reduceCtorEq, Nat.reduceAdd, Nat.reduceMul, Nat.reduceLeDiff, Nat.reduceLT, Nat.reduceEqDiff, forall_const]) ⟨0, [], by omega, by omega, rfl, by simp, by omega, rfl, rfl⟩ ?_
  rintro n fr L ⟨k, out, hk, rfl, hout, hol, hon, rfl, rfl⟩
  simp only [ir_chaseref1_spansFrom_L0, ZZ, Za, Zb, Zc, Zd, Ze, Zf, Zg, Zh, rd, AV.un, AV.unA, AV.ad, Zi, Zj, Zk, Zl, Zm, Zn, Zo, Zp, Zq, Zr, Zs, Zt, Zu, Zv, Zw, Zx, Zy, Zz, Zaa, Zab, Zac, Zad, wk1, wk, Zae, Zaf, Zag, Zah, Zai, Zaj, Zak, Zal, AV.kill, AO.kill, AV.thaw, AO.thaw, Zam, Zan, Zao, Zap, Zaq, Zar, Zas, Zat, Zau, ite_true, ite_false, reduceCtorEq, Nat.reduceAdd, Nat.reduceMul, Nat.reduceLeDiff, Nat.reduceLT, Nat.reduceEqDiff, forall_const]
  refine br ?_ ?_
  · intro h
    have hlt : k < p.length := by have := of_decide_eq_true h; omega
    have hg : ∀ j, j < p.length → es.getD j [] = [.bool (onAt p j)] := by
      intro j hj
      rw [← hes, show bl p = p.map (fun b => [PV.bool b]) from rfl]
      obtain ⟨b, hb⟩ : ∃ b, p[j]? = some b := ⟨_, List.getElem?_eq_getElem hj⟩
      rw [getD_map hb, onAt, List.getD_eq_getElem?_getD, hb]
      rfl
    have hg1 := hg k hlt
    have hg2 := hg (k - 1) (by omega)
    have hn1 : ((k : Int) - 1).toNat = k - 1 := by omega
    have hk0 : decide ((k : Int) = 0) = decide (k = 0) := by simp
    have hnx : (List.range (k + 1)).foldl (stepS p) [] = stepS p out k := by rw [range_foldl, ← hout]
    simp only [ZZ, Za, Zb, Zc, Zd, Ze, Zf, Zg, Zh, rd, AV.un, AV.unA, AV.ad, Zi, Zj, Zk, Zl, Zm, Zn, Zo, Zp, Zq, Zr, Zs, Zt, Zu, Zv, Zw, Zx, Zy, Zz, Zaa, Zab, Zac, Zad, wk1, wk, Zae, Zaf, Zag, Zah, Zai, Zaj, Zak, Zal, AV.kill, AO.kill, AV.thaw, AO.thaw, Zam, Zan, Zao, Zap, Zaq, Zar, Zas, Zat, Zau, ite_true, ite_false, reduceCtorEq, Nat.reduceAdd, Nat.reduceMul, Nat.reduceLeDiff, Nat.reduceLT, Nat.reduceEqDiff, forall_const, hg1, hg2, hn1, hk0]
    ((repeat' (with_reducible apply And.intro)) <;> try ((first | first | assumption | trivial | exact (fun hq => by rw [hq]; rfl) | exact i64_of (by omega) (by omega) | omega | (simp; done) | (simp; omega) | (intro hsc; have hs0 := hsc; (try have hsd := of_decide_eq_true hsc); (try simp only [Bool.not_eq_true', Bool.or_eq_false_iff, Bool.and_eq_true, Bool.or_eq_true, decide_eq_true_eq, decide_eq_false_iff_not] at hsc); (repeat' (with_reducible apply And.intro)) <;> (first | assumption | trivial | exact (fun hq => by rw [hq]; rfl) | exact i64_of (by omega) (by omega) | omega | (simp; done) | (simp; omega) | (intro hse; simp [hse, hs0]; done))))))
    refine br_join (fun fr L => ∃ o1, o1 = begS p out k ∧ fr = [.p (.sl 1 es), .any, .any, .row (.l 3), .p (int (k : Nat)), .p (.bool (onAt p k)), .p (.sl 1 es), .p (int (es.length : Nat)), .p (int (k : Nat)), .any, .any, .any, .any, .any, .any, .any, .any, .any, .any, .any, .any, .any, .any, .any, .any, .any, .any, .any, .any, .any, .any, .any, .any, .any, .any, .any, .any, .any, .any, .any, .any, .any] ∧ L = [(.l 3, .row (o1.map spn) tSpan 2 true)]) ?_ ?_ ?_
    · intro hb
      simp only [ZZ, Za, Zb, Zc, Zd, Ze, Zf, Zg, Zh, rd, AV.un, AV.unA, AV.ad, Zi, Zj, Zk, Zl, Zm, Zn, Zo, Zp, Zq, Zr, Zs, Zt, Zu, Zv, Zw, Zx, Zy, Zz, Zaa, Zab, Zac, Zad, wk1, wk, Zae, Zaf, Zag, Zah, Zai, Zaj, Zak, Zal, AV.kill, AO.kill, AV.thaw, AO.thaw, Zam, Zan, Zao, Zap, Zaq, Zar, Zas, Zat, Zau, ite_true, ite_false, reduceCtorEq, Nat.reduceAdd, Nat.reduceMul, Nat.reduceLeDiff, Nat.reduceLT, Nat.reduceEqDiff, forall_const]
      refine ⟨by simp; omega, ?_⟩
      refine to_mid [.p (.sl 1 es), .any, .any, .row (.l 3), .p (int (k : Nat)), .p (.bool (onAt p k)), .p (.sl 1 es), .p (int (es.length : Nat)), .p (int (k : Nat)), .any, .any, .any, .any, .any, .any, .any, .any, .any, .any, .any, .any, .any, .any, .any, .any, .any, .any, .any, .any, .any, .any, .any, .any, .any, .any, .any, .any, .any, .any, .any, .any, .any] [(.l 3, .row ((out ++ [((k : Int), 0)]).map spn) tSpan 2 true)] (by (simp only [ZZ, Za, Zb, Zc, Zd, Ze, Zf, Zg, Zh, rd, AV.un, AV.unA, AV.ad, Zi, Zj, Zk, Zl, Zm, Zn, Zo, Zp, Zq, Zr, Zs, Zt, Zu, Zv, Zw, Zx, Zy, Zz, Zaa, Zab, Zac, Zad, wk1, wk, Zae, Zaf, Zag, Zah, Zai, Zaj, Zak, Zal, AV.kill, AO.kill, AV.thaw, AO.thaw, Zam, Zan, Zao, Zap, Zaq, Zar, Zas, Zat, Zau, ite_true, ite_false, reduceCtorEq, Nat.reduceAdd, Nat.reduceMul, Nat.reduceLeDiff, Nat.reduceLT, Nat.reduceEqDiff, forall_const]; try trivial)) (by simp only [List.map_append, spn, ZZ, Za, Zb, Zc, Zd, Ze, Zf, Zg, Zh, rd, AV.un, AV.unA, AV.ad, Zi, Zj, Zk, Zl, Zm, Zn, Zo, Zp, Zq, Zr, Zs, Zt, Zu, Zv, Zw, Zx, Zy, Zz, Zaa, Zab, Zac, Zad, wk1, wk, Zae, Zaf, Zag, Zah, Zai, Zaj, Zak, Zal, AV.kill, AO.kill, AV.thaw, AO.thaw, Zam, Zan, Zao, Zap, Zaq, Zar, Zas, Zat, Zau, ite_true, ite_false, reduceCtorEq, Nat.reduceAdd, Nat.reduceMul, Nat.reduceLeDiff, Nat.reduceLT, Nat.reduceEqDiff, forall_const]) ⟨out ++ [((k : Int), 0)], by rw [begS, if_pos (by simpa using hb)], rfl, rfl⟩
    · intro hb
      simp only [ZZ, Za, Zb, Zc, Zd, Ze, Zf, Zg, Zh, rd, AV.un, AV.unA, AV.ad, Zi, Zj, Zk, Zl, Zm, Zn, Zo, Zp, Zq, Zr, Zs, Zt, Zu, Zv, Zw, Zx, Zy, Zz, Zaa, Zab, Zac, Zad, wk1, wk, Zae, Zaf, Zag, Zah, Zai, Zaj, Zak, Zal, AV.kill, AO.kill, AV.thaw, AO.thaw, Zam, Zan, Zao, Zap, Zaq, Zar, Zas, Zat, Zau, ite_true, ite_false, reduceCtorEq, Nat.reduceAdd, Nat.reduceMul, Nat.reduceLeDiff, Nat.reduceLT, Nat.reduceEqDiff, forall_const]
      refine to_mid [.p (.sl 1 es), .any, .any, .row (.l 3), .p (int (k : Nat)), .p (.bool (onAt p k)), .p (.sl 1 es), .p (int (es.length : Nat)), .p (int (k : Nat)), .any, .any, .any, .any, .any, .any, .any, .any, .any, .any, .any, .any, .any, .any, .any, .any, .any, .any, .any, .any, .any, .any, .any, .any, .any, .any, .any, .any, .any, .any, .any, .any, .any] [(.l 3, .row (out.map spn) tSpan 2 true)] (by (simp only [ZZ, Za, Zb, Zc, Zd, Ze, Zf, Zg, Zh, rd, AV.un, AV.unA, AV.ad, Zi, Zj, Zk, Zl, Zm, Zn, Zo, Zp, Zq, Zr, Zs, Zt, Zu, Zv, Zw, Zx, Zy, Zz, Zaa, Zab, Zac, Zad, wk1, wk, Zae, Zaf, Zag, Zah, Zai, Zaj, Zak, Zal, AV.kill, AO.kill, AV.thaw, AO.thaw, Zam, Zan, Zao, Zap, Zaq, Zar, Zas, Zat, Zau, ite_true, ite_false, reduceCtorEq, Nat.reduceAdd, Nat.reduceMul, Nat.reduceLeDiff, Nat.reduceLT, Nat.reduceEqDiff, forall_const]; try trivial)) (by simp only [ZZ, Za, Zb, Zc, Zd, Ze, Zf, Zg, Zh, rd, AV.un, AV.unA, AV.ad, Zi, Zj, Zk, Zl, Zm, Zn, Zo, Zp, Zq, Zr, Zs, Zt, Zu, Zv, Zw, Zx, Zy, Zz, Zaa, Zab, Zac, Zad, wk1, wk, Zae, Zaf, Zag, Zah, Zai, Zaj, Zak, Zal, AV.kill, AO.kill, AV.thaw, AO.thaw, Zam, Zan, Zao, Zap, Zaq, Zar, Zas, Zat, Zau, ite_true, ite_false, reduceCtorEq, Nat.reduceAdd, Nat.reduceMul, Nat.reduceLeDiff, Nat.reduceLT, Nat.reduceEqDiff, forall_const]) ⟨out, by rw [begS, if_neg (by simpa using hb)], rfl, rfl⟩
    rintro fr L ⟨o1, ho1, rfl, rfl⟩
    have hl1 := begS_len p out k
    rw [← ho1] at hl1
    simp only [ZZ, Za, Zb, Zc, Zd, Ze, Zf, Zg, Zh, rd, AV.un, AV.unA, AV.ad, Zi, Zj, Zk, Zl, Zm, Zn, Zo, Zp, Zq, Zr, Zs, Zt, Zu, Zv, Zw, Zx, Zy, Zz, Zaa, Zab, Zac, Zad, wk1, wk, Zae, Zaf, Zag, Zah, Zai, Zaj, Zak, Zal, AV.kill, AO.kill, AV.thaw, AO.thaw, Zam, Zan, Zao, Zap, Zaq, Zar, Zas, Zat, Zau, ite_true, ite_false, reduceCtorEq, Nat.reduceAdd, Nat.reduceMul, Nat.reduceLeDiff, Nat.reduceLT, Nat.reduceEqDiff, forall_const]
    refine br ?_ ?_
    · intro hb
      have hne : 0 < o1.length := by
        rw [ho1, begS, hb]
        by_cases hk0 : k = 0
        · simp [hk0]
        · by_cases hb1 : onAt p (k - 1) = true
          · have := hon hb1 (by omega)
            simp [hk0, hb1, this]
          · simp [hk0, hb1]
      obtain ⟨y, hy⟩ : ∃ y, o1[o1.length - 1]? = some y := ⟨_, List.getElem?_eq_getElem (by omega)⟩
      have hgy : (o1.map spn).getD (o1.length - 1) [] = spn y := getD_map hy
      have hnl : (((o1.map spn).length : Int) - 1).toNat = o1.length - 1 := by rw [List.length_map]; omega
      have hml : (o1.map spn).length = o1.length := by simp
      have hst : (o1.map spn).set (o1.length - 1) [int y.1, int ((k : Int) + 1)] = (setTo o1 (k + 1)).map spn := by
        rw [setTo, List.map_set, show o1.getD (o1.length - 1) (0, 0) = y from by simp [List.getD, hy]]
        rfl
      simp only [ZZ, Za, Zb, Zc, Zd, Ze, Zf, Zg, Zh, rd, AV.un, AV.unA, AV.ad, Zi, Zj, Zk, Zl, Zm, Zn, Zo, Zp, Zq, Zr, Zs, Zt, Zu, Zv, Zw, Zx, Zy, Zz, Zaa, Zab, Zac, Zad, wk1, wk, Zae, Zaf, Zag, Zah, Zai, Zaj, Zak, Zal, AV.kill, AO.kill, AV.thaw, AO.thaw, Zam, Zan, Zao, Zap, Zaq, Zar, Zas, Zat, Zau, ite_true, ite_false, reduceCtorEq, Nat.reduceAdd, Nat.reduceMul, Nat.reduceLeDiff, Nat.reduceLT, Nat.reduceEqDiff, forall_const, hnl, hgy, spn]
      simp only [List.set_cons_succ, List.set_cons_zero, hst]
      ((repeat' (with_reducible apply And.intro)) <;> try ((first | first | assumption | trivial | exact (fun hq => by rw [hq]; rfl) | exact i64_of (by omega) (by omega) | omega | (simp; done) | (simp; omega) | (intro hsc; have hs0 := hsc; (try have hsd := of_decide_eq_true hsc); (try simp only [Bool.not_eq_true', Bool.or_eq_false_iff, Bool.and_eq_true, Bool.or_eq_true, decide_eq_true_eq, decide_eq_false_iff_not] at hsc); (repeat' (with_reducible apply And.intro)) <;> (first | assumption | trivial | exact (fun hq => by rw [hq]; rfl) | exact i64_of (by omega) (by omega) | omega | (simp; done) | (simp; omega) | (intro hse; simp [hse, hs0]; done))))))
      refine cut_same (by simp only [ZZ, Za, Zb, Zc, Zd, Ze, Zf, Zg, Zh, rd, AV.un, AV.unA, AV.ad, Zi, Zj, Zk, Zl, Zm, Zn, Zo, Zp, Zq, Zr, Zs, Zt, Zu, Zv, Zw, Zx, Zy, Zz, Zaa, Zab, Zac, Zad, wk1, wk, Zae, Zaf, Zag, Zah, Zai, Zaj, Zak, Zal, AV.kill, AO.kill, AV.thaw, AO.thaw, Zam, Zan, Zao, Zap, Zaq, Zar, Zas, Zat, Zau, ite_true, ite_false, reduceCtorEq, Nat.reduceAdd, Nat.reduceMul, Nat.reduceLeDiff, Nat.reduceLT, Nat.reduceEqDiff, forall_const]) ?_
      simp only [ZZ, Za, Zb, Zc, Zd, Ze, Zf, Zg, Zh, rd, AV.un, AV.unA, AV.ad, Zi, Zj, Zk, Zl, Zm, Zn, Zo, Zp, Zq, Zr, Zs, Zt, Zu, Zv, Zw, Zx, Zy, Zz, Zaa, Zab, Zac, Zad, wk1, wk, Zae, Zaf, Zag, Zah, Zai, Zaj, Zak, Zal, AV.kill, AO.kill, AV.thaw, AO.thaw, Zam, Zan, Zao, Zap, Zaq, Zar, Zas, Zat, Zau, ite_true, ite_false, reduceCtorEq, Nat.reduceAdd, Nat.reduceMul, Nat.reduceLeDiff, Nat.reduceLT, Nat.reduceEqDiff, forall_const]
      ((repeat' (with_reducible apply And.intro)) <;> try ((first | first | assumption | trivial | exact (fun hq => by rw [hq]; rfl) | exact i64_of (by omega) (by omega) | omega | (simp; done) | (simp; omega) | (intro hsc; have hs0 := hsc; (try have hsd := of_decide_eq_true hsc); (try simp only [Bool.not_eq_true', Bool.or_eq_false_iff, Bool.and_eq_true, Bool.or_eq_true, decide_eq_true_eq, decide_eq_false_iff_not] at hsc); (repeat' (with_reducible apply And.intro)) <;> (first | assumption | trivial | exact (fun hq => by rw [hq]; rfl) | exact i64_of (by omega) (by omega) | omega | (simp; done) | (simp; omega) | (intro hse; simp [hse, hs0]; done))))))
      refine end_round (p.length - (k + 1)) [.p (.sl 1 es), .any, .any, .row (.l 3), .any, .any, .p (.sl 1 es), .p (int (es.length : Nat)), .p (int ((k + 1 : Nat))), .any, .any, .any, .any, .any, .any, .any, .any, .any, .any, .any, .any, .any, .any, .any, .any, .any, .any, .any, .any, .any, .any, .any, .any, .any, .any, .any, .any, .any, .any, .any, .any, .any] [(.l 3, .row ((setTo o1 (k + 1)).map spn) tSpan 2 true)] (by omega) (by (simp only [ZZ, Za, Zb, Zc, Zd, Ze, Zf, Zg, Zh, rd, AV.un, AV.unA, AV.ad, Zi, Zj, Zk, Zl, Zm, Zn, Zo, Zp, Zq, Zr, Zs, Zt, Zu, Zv, Zw, Zx, Zy, Zz, Zaa, Zab, Zac, Zad, wk1, wk, Zae, Zaf, Zag, Zah, Zai, Zaj, Zak, Zal, AV.kill, AO.kill, AV.thaw, AO.thaw, Zam, Zan, Zao, Zap, Zaq, Zar, Zas, Zat, Zau, ite_true, ite_false, reduceCtorEq, Nat.reduceAdd, Nat.reduceMul, Nat.reduceLeDiff, Nat.reduceLT, Nat.reduceEqDiff, forall_const]; try trivial)) (by simp only [ZZ, Za, Zb, Zc, Zd, Ze, Zf, Zg, Zh, rd, AV.un, AV.unA, AV.ad, Zi, Zj, Zk, Zl, Zm, Zn, Zo, Zp, Zq, Zr, Zs, Zt, Zu, Zv, Zw, Zx, Zy, Zz, Zaa, Zab, Zac, Zad, wk1, wk, Zae, Zaf, Zag, Zah, Zai, Zaj, Zak, Zal, AV.kill, AO.kill, AV.thaw, AO.thaw, Zam, Zan, Zao, Zap, Zaq, Zar, Zas, Zat, Zau, ite_true, ite_false, reduceCtorEq, Nat.reduceAdd, Nat.reduceMul, Nat.reduceLeDiff, Nat.reduceLT, Nat.reduceEqDiff, forall_const]) ⟨k + 1, setTo o1 (k + 1), by omega, rfl, by rw [hnx, stepS, if_pos hb, ho1], by simp [setTo]; omega, by simp [setTo]; omega, rfl, rfl⟩
    · intro hb
      simp only [ZZ, Za, Zb, Zc, Zd, Ze, Zf, Zg, Zh, rd, AV.un, AV.unA, AV.ad, Zi, Zj, Zk, Zl, Zm, Zn, Zo, Zp, Zq, Zr, Zs, Zt, Zu, Zv, Zw, Zx, Zy, Zz, Zaa, Zab, Zac, Zad, wk1, wk, Zae, Zaf, Zag, Zah, Zai, Zaj, Zak, Zal, AV.kill, AO.kill, AV.thaw, AO.thaw, Zam, Zan, Zao, Zap, Zaq, Zar, Zas, Zat, Zau, ite_true, ite_false, reduceCtorEq, Nat.reduceAdd, Nat.reduceMul, Nat.reduceLeDiff, Nat.reduceLT, Nat.reduceEqDiff, forall_const]
      refine cut_same (by simp only [ZZ, Za, Zb, Zc, Zd, Ze, Zf, Zg, Zh, rd, AV.un, AV.unA, AV.ad, Zi, Zj, Zk, Zl, Zm, Zn, Zo, Zp, Zq, Zr, Zs, Zt, Zu, Zv, Zw, Zx, Zy, Zz, Zaa, Zab, Zac, Zad, wk1, wk, Zae, Zaf, Zag, Zah, Zai, Zaj, Zak, Zal, AV.kill, AO.kill, AV.thaw, AO.thaw, Zam, Zan, Zao, Zap, Zaq, Zar, Zas, Zat, Zau, ite_true, ite_false, reduceCtorEq, Nat.reduceAdd, Nat.reduceMul, Nat.reduceLeDiff, Nat.reduceLT, Nat.reduceEqDiff, forall_const]) ?_
      simp only [ZZ, Za, Zb, Zc, Zd, Ze, Zf, Zg, Zh, rd, AV.un, AV.unA, AV.ad, Zi, Zj, Zk, Zl, Zm, Zn, Zo, Zp, Zq, Zr, Zs, Zt, Zu, Zv, Zw, Zx, Zy, Zz, Zaa, Zab, Zac, Zad, wk1, wk, Zae, Zaf, Zag, Zah, Zai, Zaj, Zak, Zal, AV.kill, AO.kill, AV.thaw, AO.thaw, Zam, Zan, Zao, Zap, Zaq, Zar, Zas, Zat, Zau, ite_true, ite_false, reduceCtorEq, Nat.reduceAdd, Nat.reduceMul, Nat.reduceLeDiff, Nat.reduceLT, Nat.reduceEqDiff, forall_const]
      ((repeat' (with_reducible apply And.intro)) <;> try ((first | first | assumption | trivial | exact (fun hq => by rw [hq]; rfl) | exact i64_of (by omega) (by omega) | omega | (simp; done) | (simp; omega) | (intro hsc; have hs0 := hsc; (try have hsd := of_decide_eq_true hsc); (try simp only [Bool.not_eq_true', Bool.or_eq_false_iff, Bool.and_eq_true, Bool.or_eq_true, decide_eq_true_eq, decide_eq_false_iff_not] at hsc); (repeat' (with_reducible apply And.intro)) <;> (first | assumption | trivial | exact (fun hq => by rw [hq]; rfl) | exact i64_of (by omega) (by omega) | omega | (simp; done) | (simp; omega) | (intro hse; simp [hse, hs0]; done))))))
      refine end_round (p.length - (k + 1)) [.p (.sl 1 es), .any, .any, .row (.l 3), .any, .any, .p (.sl 1 es), .p (int (es.length : Nat)), .p (int ((k + 1 : Nat))), .any, .any, .any, .any, .any, .any, .any, .any, .any, .any, .any, .any, .any, .any, .any, .any, .any, .any, .any, .any, .any, .any, .any, .any, .any, .any, .any, .any, .any, .any, .any, .any, .any] [(.l 3, .row (o1.map spn) tSpan 2 true)] (by omega) (by (simp only [ZZ, Za, Zb, Zc, Zd, Ze, Zf, Zg, Zh, rd, AV.un, AV.unA, AV.ad, Zi, Zj, Zk, Zl, Zm, Zn, Zo, Zp, Zq, Zr, Zs, Zt, Zu, Zv, Zw, Zx, Zy, Zz, Zaa, Zab, Zac, Zad, wk1, wk, Zae, Zaf, Zag, Zah, Zai, Zaj, Zak, Zal, AV.kill, AO.kill, AV.thaw, AO.thaw, Zam, Zan, Zao, Zap, Zaq, Zar, Zas, Zat, Zau, ite_true, ite_false, reduceCtorEq, Nat.reduceAdd, Nat.reduceMul, Nat.reduceLeDiff, Nat.reduceLT, Nat.reduceEqDiff, forall_const]; try trivial)) (by simp only [ZZ, Za, Zb, Zc, Zd, Ze, Zf, Zg, Zh, rd, AV.un, AV.unA, AV.ad, Zi, Zj, Zk, Zl, Zm, Zn, Zo, Zp, Zq, Zr, Zs, Zt, Zu, Zv, Zw, Zx, Zy, Zz, Zaa, Zab, Zac, Zad, wk1, wk, Zae, Zaf, Zag, Zah, Zai, Zaj, Zak, Zal, AV.kill, AO.kill, AV.thaw, AO.thaw, Zam, Zan, Zao, Zap, Zaq, Zar, Zas, Zat, Zau, ite_true, ite_false, reduceCtorEq, Nat.reduceAdd, Nat.reduceMul, Nat.reduceLeDiff, Nat.reduceLT, Nat.reduceEqDiff, forall_const]) ⟨k + 1, o1, by omega, rfl, by rw [hnx, stepS, if_neg (by simp [hb]), ho1], by omega, by simp [hb], rfl, rfl⟩
  · intro h
    have hge : p.length ≤ k := by have := of_decide_eq_false h; omega
    have : k = p.length := by omega
    subst this
    simp only [ZZ, Za, Zb, Zc, Zd, Ze, Zf, Zg, Zh, rd, AV.un, AV.unA, AV.ad, Zi, Zj, Zk, Zl, Zm, Zn, Zo, Zp, Zq, Zr, Zs, Zt, Zu, Zv, Zw, Zx, Zy, Zz, Zaa, Zab, Zac, Zad, wk1, wk, Zae, Zaf, Zag, Zah, Zai, Zaj, Zak, Zal, AV.kill, AO.kill, AV.thaw, AO.thaw, Zam, Zan, Zao, Zap, Zaq, Zar, Zas, Zat, Zau, ite_true, ite_false, reduceCtorEq, Nat.reduceAdd, Nat.reduceMul, Nat.reduceLeDiff, Nat.reduceLT, Nat.reduceEqDiff, forall_const]
    rw [hout]
    rfl

def mixP (a b : List (Int × Int)) (wo : Bool) (j : Nat) : Bool := if wo = true then cov a j && !cov b j else cov a j || cov b j
def mixedR (a b : List (Int × Int)) (size : Int) (wo : Bool) : List (Int × Int) × Int :=
  if firstE [spansF a size, spansF b size] = 0 then fewF (spansFromF (tab size.toNat (mixP a b wo))) else ([], firstE [spansF a size, spansF b size])

theorem firstE_mem {l : List Int} (h : firstE l = 0) : ∀ x ∈ l, x = 0 := by
  induction l with
  | nil => intro x hx; cases hx
  | cons a l ih =>
    intro x hx
    simp only [firstE] at h
    split at h
    · rename_i ha
      rcases List.mem_cons.1 hx with rfl | hx
      · exact ha
      · exact ih h x hx
    · rename_i ha; exact absurd h ha
theorem spansF_at {l : List (Int × Int)} {size : Int} (h : spansF l size = 0) {k : Nat} {x : Int × Int} (hx : l[k]? = some x) : 0 ≤ x.1 ∧ x.1 < x.2 ∧ x.2 ≤ size := by
  unfold spansF at h
  split at h
  · cases h
  · split at h
    · cases h
    · have hk := (List.getElem?_eq_some_iff.1 hx).1
      have := firstE_mem h (errAt size l k) (List.mem_of_getElem? (errAt_get size l hk))
      unfold errAt badS at this
      rw [show l.getD k (0, 0) = x from by simp [List.getD, hx]] at this
      split at this
      · cases this
      · rename_i hb
        simp at hb
        omega

theorem MixedOf_ok (a b : List (Int × Int)) (size : Int) (wo : Bool) (ha : a.length ≤ 1000000) (hb : b.length ≤ 1000000) : PCall Tryd.prog E 26 [sps a, sps b, int size, .bool wo] (· = .tup [sps (mixedR a b size wo).1, int (mixedR a b size wo).2]) := by
  refine pcallF mixed Tryd.func26 ck_chaseref1_MixedOf ?_
  simp only [a0, l0, OS.ao, List.map_cons, List.map_nil, List.length_cons, List.length_nil, List.cons_append, List.nil_append, Nat.reduceSub, Nat.reduceAdd, List.replicate_succ, List.replicate_zero, ir_chaseref1_MixedOf, rs_chaseref1_MixedOf, ZZ, Za, Zb, Zc, Zd, Ze, Zf, Zg, Zh, rd, AV.un, AV.unA, AV.ad, Zi, Zj, Zk, Zl, Zm, Zn, Zo, Zp, Zq, Zr, Zs, Zt, Zu, Zv, Zw, Zx, Zy, Zz, Zaa, Zab, Zac, Zad, wk1, wk, Zae, Zaf, Zag, Zah, Zai, Zaj, Zak, Zal, AV.kill, AO.kill, AV.thaw, AO.thaw, Zam, Zan, Zao, Zap, Zaq, Zar, Zas, Zat, Zau, ite_true, ite_false, reduceCtorEq, Nat.reduceAdd, Nat.reduceMul, Nat.reduceLeDiff, Nat.reduceLT, Nat.reduceEqDiff, forall_const]
  refine use1 (SpansFault_ok a size ha) rfl (.inl rfl) ?_
  simp only [ZZ, Za, Zb, Zc, Zd, Ze, Zf, Zg, Zh, rd, AV.un, AV.unA, AV.ad, Zi, Zj, Zk, Zl, Zm, Zn, Zo, Zp, Zq, Zr, Zs, Zt, Zu, Zv, Zw, Zx, Zy, Zz, Zaa, Zab, Zac, Zad, wk1, wk, Zae, Zaf, Zag, Zah, Zai, Zaj, Zak, Zal, AV.kill, AO.kill, AV.thaw, AO.thaw, Zam, Zan, Zao, Zap, Zaq, Zar, Zas, Zat, Zau, ite_true, ite_false, reduceCtorEq, Nat.reduceAdd, Nat.reduceMul, Nat.reduceLeDiff, Nat.reduceLT, Nat.reduceEqDiff, forall_const]
  refine use1 (SpansFault_ok b size hb) rfl (.inl rfl) ?_
  simp only [ZZ, Za, Zb, Zc, Zd, Ze, Zf, Zg, Zh, rd, AV.un, AV.unA, AV.ad, Zi, Zj, Zk, Zl, Zm, Zn, Zo, Zp, Zq, Zr, Zs, Zt, Zu, Zv, Zw, Zx, Zy, Zz, Zaa, Zab, Zac, Zad, wk1, wk, Zae, Zaf, Zag, Zah, Zai, Zaj, Zak, Zal, AV.kill, AO.kill, AV.thaw, AO.thaw, Zam, Zan, Zao, Zap, Zaq, Zar, Zas, Zat, Zau, ite_true, ite_false, reduceCtorEq, Nat.reduceAdd, Nat.reduceMul, Nat.reduceLeDiff, Nat.reduceLT, Nat.reduceEqDiff, forall_const]
  refine use1 (Or_ok [spansF a size, spansF b size] (by simp)) rfl (.inl rfl) ?_
  simp only [ZZ, Za, Zb, Zc, Zd, Ze, Zf, Zg, Zh, rd, AV.un, AV.unA, AV.ad, Zi, Zj, Zk, Zl, Zm, Zn, Zo, Zp, Zq, Zr, Zs, Zt, Zu, Zv, Zw, Zx, Zy, Zz, Zaa, Zab, Zac, Zad, wk1, wk, Zae, Zaf, Zag, Zah, Zai, Zaj, Zak, Zal, AV.kill, AO.kill, AV.thaw, AO.thaw, Zam, Zan, Zao, Zap, Zaq, Zar, Zas, Zat, Zau, ite_true, ite_false, reduceCtorEq, Nat.reduceAdd, Nat.reduceMul, Nat.reduceLeDiff, Nat.reduceLT, Nat.reduceEqDiff, forall_const]
  unfold mixedR
  generalize he : firstE [spansF a size, spansF b size] = e0
  refine br ?_ ?_
  · intro h
    have h : ¬ e0 = 0 := by simpa using h
    simp only [sps, ZZ, Za, Zb, Zc, Zd, Ze, Zf, Zg, Zh, rd, AV.un, AV.unA, AV.ad, Zi, Zj, Zk, Zl, Zm, Zn, Zo, Zp, Zq, Zr, Zs, Zt, Zu, Zv, Zw, Zx, Zy, Zz, Zaa, Zab, Zac, Zad, wk1, wk, Zae, Zaf, Zag, Zah, Zai, Zaj, Zak, Zal, AV.kill, AO.kill, AV.thaw, AO.thaw, Zam, Zan, Zao, Zap, Zaq, Zar, Zas, Zat, Zau, ite_true, ite_false, reduceCtorEq, Nat.reduceAdd, Nat.reduceMul, Nat.reduceLeDiff, Nat.reduceLT, Nat.reduceEqDiff, forall_const, if_neg h]
    try rfl
  intro h
  have h : e0 = 0 := by simpa using h
  subst h
  obtain ⟨hea, heb⟩ := firstE2_zero he
  have hla := spansF_len hea
  have hlb := spansF_len heb
  obtain ⟨n, rfl⟩ : ∃ n : Nat, size = n := ⟨size.toNat, by omega⟩
  have hin : ∀ {l : List (Int × Int)}, spansF l n = 0 → ∀ s ∈ l, 0 ≤ s.1 ∧ s.2 ≤ (n : Int) := by
    intro l hl s hs
    obtain ⟨i, hi⟩ := List.getElem?_of_mem hs
    have := spansF_at hl hi
    omega
  simp only [ZZ, Za, Zb, Zc, Zd, Ze, Zf, Zg, Zh, rd, AV.un, AV.unA, AV.ad, Zi, Zj, Zk, Zl, Zm, Zn, Zo, Zp, Zq, Zr, Zs, Zt, Zu, Zv, Zw, Zx, Zy, Zz, Zaa, Zab, Zac, Zad, wk1, wk, Zae, Zaf, Zag, Zah, Zai, Zaj, Zak, Zal, AV.kill, AO.kill, AV.thaw, AO.thaw, Zam, Zan, Zao, Zap, Zaq, Zar, Zas, Zat, Zau, ite_true, ite_false, reduceCtorEq, Nat.reduceAdd, Nat.reduceMul, Nat.reduceLeDiff, Nat.reduceLT, Nat.reduceEqDiff, forall_const]
  refine useF (painted_ok a n ha (by omega) (hin hea)) rfl rfl ?_
  rintro es rfl
  simp only [ZZ, Za, Zb, Zc, Zd, Ze, Zf, Zg, Zh, rd, AV.un, AV.unA, AV.ad, Zi, Zj, Zk, Zl, Zm, Zn, Zo, Zp, Zq, Zr, Zs, Zt, Zu, Zv, Zw, Zx, Zy, Zz, Zaa, Zab, Zac, Zad, wk1, wk, Zae, Zaf, Zag, Zah, Zai, Zaj, Zak, Zal, AV.kill, AO.kill, AV.thaw, AO.thaw, Zam, Zan, Zao, Zap, Zaq, Zar, Zas, Zat, Zau, ite_true, ite_false, reduceCtorEq, Nat.reduceAdd, Nat.reduceMul, Nat.reduceLeDiff, Nat.reduceLT, Nat.reduceEqDiff, forall_const]
  refine useF (painted_ok b n hb (by omega) (hin heb)) rfl rfl ?_
  rintro es rfl
  simp only [ZZ, Za, Zb, Zc, Zd, Ze, Zf, Zg, Zh, rd, AV.un, AV.unA, AV.ad, Zi, Zj, Zk, Zl, Zm, Zn, Zo, Zp, Zq, Zr, Zs, Zt, Zu, Zv, Zw, Zx, Zy, Zz, Zaa, Zab, Zac, Zad, wk1, wk, Zae, Zaf, Zag, Zah, Zai, Zaj, Zak, Zal, AV.kill, AO.kill, AV.thaw, AO.thaw, Zam, Zan, Zao, Zap, Zaq, Zar, Zas, Zat, Zau, ite_true, ite_false, reduceCtorEq, Nat.reduceAdd, Nat.reduceMul, Nat.reduceLeDiff, Nat.reduceLT, Nat.reduceEqDiff, forall_const]
  have hm : ∀ f : Nat → Bool, (bl (tab n f)).length = n := fun f => by rw [bl_len, tab_len]
  have h0 : tab n (cov a) = tab n (fun j => if j < 0 then mixP a b wo j else cov a j) := tab_congr fun j hj => by simp
  rw [h0]
  refine loop_intro (fun m fr L => ∃ k : Nat, k ≤ n ∧ m = n - k ∧ fr = [.any, .any, .any, .p (.bool wo), .any, .any, .any, .any, .any, .any, .any, .row (.l 27), .row (.l 30), .any, .any, .any, .any, .any, .any, .any, .any, .any, .any, .any, .any, .any, .any, .any, .any, .any, .any, .any, .p (int (n : Nat)), .p (int (k : Nat)), .any, .any, .any, .any, .any, .any, .any, .any, .any, .any, .any, .any, .any, .any, .any, .any, .any, .any, .any, .any, .any, .any, .any, .any, .any, .any, .any, .any, .any, .any, .any, .any, .any, .any, .any, .any] ∧ L = [(.l 27, .row (bl (tab n (fun j => if j < k then mixP a b wo j else cov a j))) 4 1 true), (.l 30, .row (bl (tab n (cov b))) 4 1 true)]) n [.any, .any, .any, .p (.bool wo), .any, .any, .any, .any, .any, .any, .any, .row (.l 27), .row (.l 30), .any, .any, .any, .any, .any, .any, .any, .any, .any, .any, .any, .any, .any, .any, .any, .any, .any, .any, .any, .p (int (n : Nat)), .p (int (0 : Nat)), .any, .any, .any, .any, .any, .any, .any, .any, .any, .any, .any, .any, .any, .any, .any, .any, .any, .any, .any, .any, .any, .any, .any, .any, .any, .any, .any, .any, .any, .any, .any, .any, .any, .any, .any, .any] [(.l 27, .row (bl (tab n (fun j => if j < 0 then mixP a b wo j else cov a j))) 4 1 true), (.l 30, .row (bl (tab n (cov b))) 4 1 true)] (by simp only [hm, ZZ, Za, Zb, Zc, Zd, Ze, Zf, Zg, Zh, rd, AV.un, AV.unA, AV.ad, Zi, Zj, Zk, Zl, Zm, Zn, Zo, Zp, Zq, Zr, Zs, Zt, Zu, Zv, Zw, Zx, Zy, Zz, Zaa, Zab, Zac, Zad, wk1, wk, Zae, Zaf, Zag, Zah, Zai, Zaj, Zak, Zal, AV.kill, AO.kill, AV.thaw, AO.thaw, Zam, Zan, Zao, Zap, Zaq, Zar, Zas, Zat, Zau, ite_true, ite_false, reduceCtorEq, Nat.reduceAdd, Nat.reduceMul, Nat.reduceLeDiff, Nat.reduceLT, Nat.reduceEqDiff, forall_const]; try trivial) (by simp only [ZZ, Za, Zb, Zc, Zd, Ze, Zf, Zg, Zh, rd, AV.un, AV.unA, AV.ad, Zi, Zj, Zk, Zl, Zm, Zn, Zo, Zp, Zq, Zr, Zs, Zt, Zu, Zv, Zw, Zx, Zy, Zz, Zaa, Zab, Zac, Zad, wk1, wk, Zae, Zaf, Zag, Zah, Zai, Zaj, Zak, Zal, AV.kill, AO.kill, AV.thaw, AO.thaw, Zam, Zan, Zao, Zap, Zaq, Zar, Zas, Zat, Zau, ite_true, ite_false, reduceCtorEq, Nat.reduceAdd, Nat.reduceMul, Nat.reduceLeDiff, Nat.reduceLT, Nat.reduceEqDiff, forall_const]) ⟨0, by omega, by omega, rfl, rfl⟩ ?_
  rintro m fr L ⟨k, hk, rfl, rfl, rfl⟩
  simp only [ir_chaseref1_MixedOf_L0, ZZ, Za, Zb, Zc, Zd, Ze, Zf, Zg, Zh, rd, AV.un, AV.unA, AV.ad, Zi, Zj, Zk, Zl, Zm, Zn, Zo, Zp, Zq, Zr, Zs, Zt, Zu, Zv, Zw, Zx, Zy, Zz, Zaa, Zab, Zac, Zad, wk1, wk, Zae, Zaf, Zag, Zah, Zai, Zaj, Zak, Zal, AV.kill, AO.kill, AV.thaw, AO.thaw, Zam, Zan, Zao, Zap, Zaq, Zar, Zas, Zat, Zau, ite_true, ite_false, reduceCtorEq, Nat.reduceAdd, Nat.reduceMul, Nat.reduceLeDiff, Nat.reduceLT, Nat.reduceEqDiff, forall_const]
  refine br ?_ ?_
  · intro h
    have hlt : k < n := by have := of_decide_eq_true h; omega
    have hnx : ∀ c : Bool, c = mixP a b wo k → tab n (fun j => if j = k then c else if j < k then mixP a b wo j else cov a j) = tab n (fun j => if j < k + 1 then mixP a b wo j else cov a j) := by
      intro c hc
      refine tab_congr fun j hj => ?_
      by_cases h1 : j = k
      · subst h1; simp [hc]
      · by_cases h2 : j < k
        · simp [h1, h2, show j < k + 1 by omega]
        · simp [h1, h2, show ¬ j < k + 1 by omega]
    simp only [ZZ, Za, Zb, Zc, Zd, Ze, Zf, Zg, Zh, rd, AV.un, AV.unA, AV.ad, Zi, Zj, Zk, Zl, Zm, Zn, Zo, Zp, Zq, Zr, Zs, Zt, Zu, Zv, Zw, Zx, Zy, Zz, Zaa, Zab, Zac, Zad, wk1, wk, Zae, Zaf, Zag, Zah, Zai, Zaj, Zak, Zal, AV.kill, AO.kill, AV.thaw, AO.thaw, Zam, Zan, Zao, Zap, Zaq, Zar, Zas, Zat, Zau, ite_true, ite_false, reduceCtorEq, Nat.reduceAdd, Nat.reduceMul, Nat.reduceLeDiff, Nat.reduceLT, Nat.reduceEqDiff, forall_const]
    refine br ?_ ?_
    · intro hw
      simp only [ZZ, Za, Zb, Zc, Zd, Ze, Zf, Zg, Zh, rd, AV.un, AV.unA, AV.ad, Zi, Zj, Zk, Zl, Zm, Zn, Zo, Zp, Zq, Zr, Zs, Zt, Zu, Zv, Zw, Zx, Zy, Zz, Zaa, Zab, Zac, Zad, wk1, wk, Zae, Zaf, Zag, Zah, Zai, Zaj, Zak, Zal, AV.kill, AO.kill, AV.thaw, AO.thaw, Zam, Zan, Zao, Zap, Zaq, Zar, Zas, Zat, Zau, ite_true, ite_false, reduceCtorEq, Nat.reduceAdd, Nat.reduceMul, Nat.reduceLeDiff, Nat.reduceLT, Nat.reduceEqDiff, forall_const, hm, bl_tab hlt, Nat.lt_irrefl]
      simp only [List.set_cons_zero, bl_set]
      ((repeat' (with_reducible apply And.intro)) <;> try ((first | first | assumption | trivial | exact (fun hq => by rw [hq]; rfl) | exact i64_of (by omega) (by omega) | omega | (simp; done) | (simp; omega) | (intro hsc; have hs0 := hsc; (try have hsd := of_decide_eq_true hsc); (try simp only [Bool.not_eq_true', Bool.or_eq_false_iff, Bool.and_eq_true, Bool.or_eq_true, decide_eq_true_eq, decide_eq_false_iff_not] at hsc); (repeat' (with_reducible apply And.intro)) <;> (first | assumption | trivial | exact (fun hq => by rw [hq]; rfl) | exact i64_of (by omega) (by omega) | omega | (simp; done) | (simp; omega) | (intro hse; simp [hse, hs0]; done))))))
      refine cut_same (by simp only [ZZ, Za, Zb, Zc, Zd, Ze, Zf, Zg, Zh, rd, AV.un, AV.unA, AV.ad, Zi, Zj, Zk, Zl, Zm, Zn, Zo, Zp, Zq, Zr, Zs, Zt, Zu, Zv, Zw, Zx, Zy, Zz, Zaa, Zab, Zac, Zad, wk1, wk, Zae, Zaf, Zag, Zah, Zai, Zaj, Zak, Zal, AV.kill, AO.kill, AV.thaw, AO.thaw, Zam, Zan, Zao, Zap, Zaq, Zar, Zas, Zat, Zau, ite_true, ite_false, reduceCtorEq, Nat.reduceAdd, Nat.reduceMul, Nat.reduceLeDiff, Nat.reduceLT, Nat.reduceEqDiff, forall_const]) ?_
      simp only [ZZ, Za, Zb, Zc, Zd, Ze, Zf, Zg, Zh, rd, AV.un, AV.unA, AV.ad, Zi, Zj, Zk, Zl, Zm, Zn, Zo, Zp, Zq, Zr, Zs, Zt, Zu, Zv, Zw, Zx, Zy, Zz, Zaa, Zab, Zac, Zad, wk1, wk, Zae, Zaf, Zag, Zah, Zai, Zaj, Zak, Zal, AV.kill, AO.kill, AV.thaw, AO.thaw, Zam, Zan, Zao, Zap, Zaq, Zar, Zas, Zat, Zau, ite_true, ite_false, reduceCtorEq, Nat.reduceAdd, Nat.reduceMul, Nat.reduceLeDiff, Nat.reduceLT, Nat.reduceEqDiff, forall_const]
      ((repeat' (with_reducible apply And.intro)) <;> try ((first | first | assumption | trivial | exact (fun hq => by rw [hq]; rfl) | exact i64_of (by omega) (by omega) | omega | (simp; done) | (simp; omega) | (intro hsc; have hs0 := hsc; (try have hsd := of_decide_eq_true hsc); (try simp only [Bool.not_eq_true', Bool.or_eq_false_iff, Bool.and_eq_true, Bool.or_eq_true, decide_eq_true_eq, decide_eq_false_iff_not] at hsc); (repeat' (with_reducible apply And.intro)) <;> (first | assumption | trivial | exact (fun hq => by rw [hq]; rfl) | exact i64_of (by omega) (by omega) | omega | (simp; done) | (simp; omega) | (intro hse; simp [hse, hs0]; done))))))
      refine end_round (n - (k + 1)) [.any, .any, .any, .p (.bool wo), .any, .any, .any, .any, .any, .any, .any, .row (.l 27), .row (.l 30), .any, .any, .any, .any, .any, .any, .any, .any, .any, .any, .any, .any, .any, .any, .any, .any, .any, .any, .any, .p (int (n : Nat)), .p (int ((k + 1 : Nat))), .any, .any, .any, .any, .any, .any, .any, .any, .any, .any, .any, .any, .any, .any, .any, .any, .any, .any, .any, .any, .any, .any, .any, .any, .any, .any, .any, .any, .any, .any, .any, .any, .any, .any, .any, .any] [(.l 27, .row (bl (tab n (fun j => if j < k + 1 then mixP a b wo j else cov a j))) 4 1 true), (.l 30, .row (bl (tab n (cov b))) 4 1 true)] (by omega) (by (simp only [ZZ, Za, Zb, Zc, Zd, Ze, Zf, Zg, Zh, rd, AV.un, AV.unA, AV.ad, Zi, Zj, Zk, Zl, Zm, Zn, Zo, Zp, Zq, Zr, Zs, Zt, Zu, Zv, Zw, Zx, Zy, Zz, Zaa, Zab, Zac, Zad, wk1, wk, Zae, Zaf, Zag, Zah, Zai, Zaj, Zak, Zal, AV.kill, AO.kill, AV.thaw, AO.thaw, Zam, Zan, Zao, Zap, Zaq, Zar, Zas, Zat, Zau, ite_true, ite_false, reduceCtorEq, Nat.reduceAdd, Nat.reduceMul, Nat.reduceLeDiff, Nat.reduceLT, Nat.reduceEqDiff, forall_const]; try trivial)) (by simp only [hnx (cov a k && !cov b k) (by simp [mixP, hw]), ZZ, Za, Zb, Zc, Zd, Ze, Zf, Zg, Zh, rd, AV.un, AV.unA, AV.ad, Zi, Zj, Zk, Zl, Zm, Zn, Zo, Zp, Zq, Zr, Zs, Zt, Zu, Zv, Zw, Zx, Zy, Zz, Zaa, Zab, Zac, Zad, wk1, wk, Zae, Zaf, Zag, Zah, Zai, Zaj, Zak, Zal, AV.kill, AO.kill, AV.thaw, AO.thaw, Zam, Zan, Zao, Zap, Zaq, Zar, Zas, Zat, Zau, ite_true, ite_false, reduceCtorEq, Nat.reduceAdd, Nat.reduceMul, Nat.reduceLeDiff, Nat.reduceLT, Nat.reduceEqDiff, forall_const]) ⟨k + 1, by omega, rfl, rfl, rfl⟩
    · intro hw
      simp only [ZZ, Za, Zb, Zc, Zd, Ze, Zf, Zg, Zh, rd, AV.un, AV.unA, AV.ad, Zi, Zj, Zk, Zl, Zm, Zn, Zo, Zp, Zq, Zr, Zs, Zt, Zu, Zv, Zw, Zx, Zy, Zz, Zaa, Zab, Zac, Zad, wk1, wk, Zae, Zaf, Zag, Zah, Zai, Zaj, Zak, Zal, AV.kill, AO.kill, AV.thaw, AO.thaw, Zam, Zan, Zao, Zap, Zaq, Zar, Zas, Zat, Zau, ite_true, ite_false, reduceCtorEq, Nat.reduceAdd, Nat.reduceMul, Nat.reduceLeDiff, Nat.reduceLT, Nat.reduceEqDiff, forall_const, hm, bl_tab hlt, Nat.lt_irrefl]
      simp only [List.set_cons_zero, bl_set]
      ((repeat' (with_reducible apply And.intro)) <;> try ((first | first | assumption | trivial | exact (fun hq => by rw [hq]; rfl) | exact i64_of (by omega) (by omega) | omega | (simp; done) | (simp; omega) | (intro hsc; have hs0 := hsc; (try have hsd := of_decide_eq_true hsc); (try simp only [Bool.not_eq_true', Bool.or_eq_false_iff, Bool.and_eq_true, Bool.or_eq_true, decide_eq_true_eq, decide_eq_false_iff_not] at hsc); (repeat' (with_reducible apply And.intro)) <;> (first | assumption | trivial | exact (fun hq => by rw [hq]; rfl) | exact i64_of (by omega) (by omega) | omega | (simp; done) | (simp; omega) | (intro hse; simp [hse, hs0]; done))))))
      refine cut_same (by simp only [ZZ, Za, Zb, Zc, Zd, Ze, Zf, Zg, Zh, rd, AV.un, AV.unA, AV.ad, Zi, Zj, Zk, Zl, Zm, Zn, Zo, Zp, Zq, Zr, Zs, Zt, Zu, Zv, Zw, Zx, Zy, Zz, Zaa, Zab, Zac, Zad, wk1, wk, Zae, Zaf, Zag, Zah, Zai, Zaj, Zak, Zal, AV.kill, AO.kill, AV.thaw, AO.thaw, Zam, Zan, Zao, Zap, Zaq, Zar, Zas, Zat, Zau, ite_true, ite_false, reduceCtorEq, Nat.reduceAdd, Nat.reduceMul, Nat.reduceLeDiff, Nat.reduceLT, Nat.reduceEqDiff, forall_const]) ?_
      simp only [ZZ, Za, Zb, Zc, Zd, Ze, Zf, Zg, Zh, rd, AV.un, AV.unA, AV.ad, Zi, Zj, Zk, Zl, Zm, Zn, Zo, Zp, Zq, Zr, Zs, Zt, Zu, Zv, Zw, Zx, Zy, Zz, Zaa, Zab, Zac, Zad, wk1, wk, Zae, Zaf, Zag, Zah, Zai, Zaj, Zak, Zal, AV.kill, AO.kill, AV.thaw, AO.thaw, Zam, Zan, Zao, Zap, Zaq, Zar, Zas, Zat, Zau, ite_true, ite_false, reduceCtorEq, Nat.reduceAdd, Nat.reduceMul, Nat.reduceLeDiff, Nat.reduceLT, Nat.reduceEqDiff, forall_const]
      ((repeat' (with_reducible apply And.intro)) <;> try ((first | first | assumption | trivial | exact (fun hq => by rw [hq]; rfl) | exact i64_of (by omega) (by omega) | omega | (simp; done) | (simp; omega) | (intro hsc; have hs0 := hsc; (try have hsd := of_decide_eq_true hsc); (try simp only [Bool.not_eq_true', Bool.or_eq_false_iff, Bool.and_eq_true, Bool.or_eq_true, decide_eq_true_eq, decide_eq_false_iff_not] at hsc); (repeat' (with_reducible apply And.intro)) <;> (first | assumption | trivial | exact (fun hq => by rw [hq]; rfl) | exact i64_of (by omega) (by omega) | omega | (simp; done) | (simp; omega) | (intro hse; simp [hse, hs0]; done))))))
      refine end_round (n - (k + 1)) [.any, .any, .any, .p (.bool wo), .any, .any, .any, .any, .any, .any, .any, .row (.l 27), .row (.l 30), .any, .any, .any, .any, .any, .any, .any, .any, .any, .any, .any, .any, .any, .any, .any, .any, .any, .any, .any, .p (int (n : Nat)), .p (int ((k + 1 : Nat))), .any, .any, .any, .any, .any, .any, .any, .any, .any, .any, .any, .any, .any, .any, .any, .any, .any, .any, .any, .any, .any, .any, .any, .any, .any, .any, .any, .any, .any, .any, .any, .any, .any, .any, .any, .any] [(.l 27, .row (bl (tab n (fun j => if j < k + 1 then mixP a b wo j else cov a j))) 4 1 true), (.l 30, .row (bl (tab n (cov b))) 4 1 true)] (by omega) (by (simp only [ZZ, Za, Zb, Zc, Zd, Ze, Zf, Zg, Zh, rd, AV.un, AV.unA, AV.ad, Zi, Zj, Zk, Zl, Zm, Zn, Zo, Zp, Zq, Zr, Zs, Zt, Zu, Zv, Zw, Zx, Zy, Zz, Zaa, Zab, Zac, Zad, wk1, wk, Zae, Zaf, Zag, Zah, Zai, Zaj, Zak, Zal, AV.kill, AO.kill, AV.thaw, AO.thaw, Zam, Zan, Zao, Zap, Zaq, Zar, Zas, Zat, Zau, ite_true, ite_false, reduceCtorEq, Nat.reduceAdd, Nat.reduceMul, Nat.reduceLeDiff, Nat.reduceLT, Nat.reduceEqDiff, forall_const]; try trivial)) (by simp only [hnx (cov a k || cov b k) (by simp [mixP, hw]), ZZ, Za, Zb, Zc, Zd, Ze, Zf, Zg, Zh, rd, AV.un, AV.unA, AV.ad, Zi, Zj, Zk, Zl, Zm, Zn, Zo, Zp, Zq, Zr, Zs, Zt, Zu, Zv, Zw, Zx, Zy, Zz, Zaa, Zab, Zac, Zad, wk1, wk, Zae, Zaf, Zag, Zah, Zai, Zaj, Zak, Zal, AV.kill, AO.kill, AV.thaw, AO.thaw, Zam, Zan, Zao, Zap, Zaq, Zar, Zas, Zat, Zau, ite_true, ite_false, reduceCtorEq, Nat.reduceAdd, Nat.reduceMul, Nat.reduceLeDiff, Nat.reduceLT, Nat.reduceEqDiff, forall_const]) ⟨k + 1, by omega, rfl, rfl, rfl⟩
  · intro h
    have hge : n ≤ k := by have := of_decide_eq_false h; omega
    have hf : tab n (fun j => if j < k then mixP a b wo j else cov a j) = tab n (mixP a b wo) := tab_congr fun j hj => by simp [show j < k by omega]
    rw [hf]
    simp only [ZZ, Za, Zb, Zc, Zd, Ze, Zf, Zg, Zh, rd, AV.un, AV.unA, AV.ad, Zi, Zj, Zk, Zl, Zm, Zn, Zo, Zp, Zq, Zr, Zs, Zt, Zu, Zv, Zw, Zx, Zy, Zz, Zaa, Zab, Zac, Zad, wk1, wk, Zae, Zaf, Zag, Zah, Zai, Zaj, Zak, Zal, AV.kill, AO.kill, AV.thaw, AO.thaw, Zam, Zan, Zao, Zap, Zaq, Zar, Zas, Zat, Zau, ite_true, ite_false, reduceCtorEq, Nat.reduceAdd, Nat.reduceMul, Nat.reduceLeDiff, Nat.reduceLT, Nat.reduceEqDiff, forall_const]
    refine use1 (spansFrom_ok _ (by rw [tab_len]; omega)) rfl (.inl rfl) ?_
    simp only [ZZ, Za, Zb, Zc, Zd, Ze, Zf, Zg, Zh, rd, AV.un, AV.unA, AV.ad, Zi, Zj, Zk, Zl, Zm, Zn, Zo, Zp, Zq, Zr, Zs, Zt, Zu, Zv, Zw, Zx, Zy, Zz, Zaa, Zab, Zac, Zad, wk1, wk, Zae, Zaf, Zag, Zah, Zai, Zaj, Zak, Zal, AV.kill, AO.kill, AV.thaw, AO.thaw, Zam, Zan, Zao, Zap, Zaq, Zar, Zas, Zat, Zau, ite_true, ite_false, reduceCtorEq, Nat.reduceAdd, Nat.reduceMul, Nat.reduceLeDiff, Nat.reduceLT, Nat.reduceEqDiff, forall_const]
    refine use1 (bounded_ok _) rfl (.inl rfl) ?_
    simp only [sps, ZZ, Za, Zb, Zc, Zd, Ze, Zf, Zg, Zh, rd, AV.un, AV.unA, AV.ad, Zi, Zj, Zk, Zl, Zm, Zn, Zo, Zp, Zq, Zr, Zs, Zt, Zu, Zv, Zw, Zx, Zy, Zz, Zaa, Zab, Zac, Zad, wk1, wk, Zae, Zaf, Zag, Zah, Zai, Zaj, Zak, Zal, AV.kill, AO.kill, AV.thaw, AO.thaw, Zam, Zan, Zao, Zap, Zaq, Zar, Zas, Zat, Zau, ite_true, ite_false, reduceCtorEq, Nat.reduceAdd, Nat.reduceMul, Nat.reduceLeDiff, Nat.reduceLT, Nat.reduceEqDiff, forall_const]
    try rfl
end
end Go.Proofs.YtpddiepfolfnoaaDoor
