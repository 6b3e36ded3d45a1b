/- Spans: the sort that put does, and Union. -/
import Derived.Test.YtpddiepfolfnoaaDoorB10
import Derived.Test.YtpddiepfolfnoaaDoorA24
import Derived.Test.YtpddiepfolfnoaaDoorLaySpanSort
namespace Go.Proofs.YtpddiepfolfnoaaDoor
open Go.RowKit Go.Sort
set_option linter.unusedVariables false
set_option linter.unusedSimpArgs false
set_option linter.defProp false

theorem grow2 (w : World) (a b : Obj) : ∃ q os', (w.alloc a).alloc b = grow (w.drewN q) os' :=
  ⟨0, #[a, b], by cases w; simp only [World.alloc, grow, World.drewN, World.mk.injEq, and_true, Nat.add_zero]; apply Array.ext'; simp⟩
theorem put1_any (a b c d : Int) (w : World) (h1 : -9223372036854775808 ≤ a - c) (h2 : a - c ≤ 9223372036854775807) : Calls Tryd.prog 161 #[.agg #[.int .i64 a, .int .i64 b], .agg #[.int .i64 c, .int .i64 d]] w fun e w' => e = .returned (.int .i64 (a - c)) ∧ ∃ q os', w' = grow (w.drewN q) os' := by
  go_enter Tryd.func161, Tryd.ntmps161
  go_wp2_with fail
  go_ret
  exact ⟨rfl, grow2 _ _ _⟩

def clampI (n : Int) : Int := max (-1000000000) (min 1000000000 n)
theorem clampI_bd (n : Int) : -1000000000 ≤ clampI n ∧ clampI n ≤ 1000000000 := by unfold clampI; omega
theorem clampI_eq {n : Int} (h1 : -1000000000 ≤ n) (h2 : n ≤ 1000000000) : clampI n = n := by unfold clampI; omega
def encC (p : Int × Int) : List PV := [int (clampI p.1), int p.2]
theorem encC_map {l : List (Int × Int)} (h : ∀ s ∈ l, -1000000000 ≤ s.1 ∧ s.1 ≤ 1000000000) : l.map encC = l.map spn :=
  List.map_congr_left fun s hs => by simp only [encC, spn, clampI_eq (h s hs).1 (h s hs).2]

section
variable {E : Envt}
theorem sort_ok (l : List (Int × Int)) (hl : l.length ≤ 1000000000000) (hb : ∀ s ∈ l, -1000000000 ≤ s.1 ∧ s.1 ≤ 1000000000) : SortOk E l := by
  have h := sortFunc_row (E := E) Tryd.laySpanSort 2 (fun w => Tryd.isAgg46 w) (fun w => Tryd.sizeOf46 w) tSpan encC (fun x => rfl) (fun x => rfl) (fun x y => clampI x.1 - clampI y.1)
    ⟨fun x => by simp [ltOf], fun x y z => by simp only [ltOf, decide_eq_true_eq]; omega, fun x y z => by simp only [ltOf, decide_eq_false_iff_not]; omega⟩ 161 (fun args w => run_enter (by kernel_rfl) args w)
    (fun w x y => put1_any _ _ _ _ w (by have := clampI_bd x.1; have := clampI_bd y.1; omega) (by have := clampI_bd x.1; have := clampI_bd y.1; omega)) l hl
  rw [encC_map hb] at h
  refine RCall.mono h ?_
  rintro x es ⟨rfl, l', rfl, hp, hs⟩
  refine ⟨rfl, l', encC_map (fun s hs => hb s (hp.mem_iff.1 hs)), hp.length_eq, fun s => hp.mem_iff, ?_⟩
  refine hs.imp_of_mem ?_
  intro u v hu hv h
  have h1 := hb u (hp.mem_iff.1 hu)
  have h2 := hb v (hp.mem_iff.1 hv)
  simp only [ltOf, decide_eq_false_iff_not, clampI_eq h1.1 h1.2, clampI_eq h2.1 h2.2] at h
  omega

def unionR (a b : List (Int × Int)) (size : Int) : List (Int × Int) × Int := mixedR a b size false
theorem Union_ok (a b : List (Int × Int)) (size : Int) (ha : a.length ≤ 1000000) (hb : b.length ≤ 1000000) : PCall Tryd.prog E 24 [sps a, sps b, int size] (· = .tup [sps (mixedR a b size false).1, int (mixedR a b size false).2]) := by
  refine pcallF mixed Tryd.func24 ck_privilege_Union ?_
  simp only [a0, l0, OS.ao, List.map_cons, List.map_nil, List.length_cons, List.length_nil, List.cons_append, List.nil_append, Nat.reduceSub, Nat.reduceAdd, List.replicate_succ, List.replicate_zero, ir_privilege_Union, rs_privilege_Union, ZZ, Za, Zb, Zc, Zd, Ze, Zf, Zg, Zh, rd, AV.un, AV.unA, AV.ad, Zi, Zj, Zk, Zl, Zm, Zn, Zo, Zp, Zq, Zr, Zs, Zt, Zu, Zv, Zw, Zx, Zy, Zz, Zaa, Zab, Zac, Zad, wk1, wk, Zae, Zaf, Zag, Zah, Zai, Zaj, Zak, Zal, AV.kill, AO.kill, AV.thaw, AO.thaw, Zam, Zan, Zao, Zap, Zaq, Zar, Zas, Zat, Zau, ite_true, ite_false, reduceCtorEq, Nat.reduceAdd, Nat.reduceMul, Nat.reduceLeDiff, Nat.reduceLT, Nat.reduceEqDiff, forall_const]
  refine use1 (CheckSpans_ok a size ha) rfl (.inl rfl) ?_
  simp only [ZZ, Za, Zb, Zc, Zd, Ze, Zf, Zg, Zh, rd, AV.un, AV.unA, AV.ad, Zi, Zj, Zk, Zl, Zm, Zn, Zo, Zp, Zq, Zr, Zs, Zt, Zu, Zv, Zw, Zx, Zy, Zz, Zaa, Zab, Zac, Zad, wk1, wk, Zae, Zaf, Zag, Zah, Zai, Zaj, Zak, Zal, AV.kill, AO.kill, AV.thaw, AO.thaw, Zam, Zan, Zao, Zap, Zaq, Zar, Zas, Zat, Zau, ite_true, ite_false, reduceCtorEq, Nat.reduceAdd, Nat.reduceMul, Nat.reduceLeDiff, Nat.reduceLT, Nat.reduceEqDiff, forall_const]
  refine use1 (CheckSpans_ok b size hb) rfl (.inl rfl) ?_
  simp only [ZZ, Za, Zb, Zc, Zd, Ze, Zf, Zg, Zh, rd, AV.un, AV.unA, AV.ad, Zi, Zj, Zk, Zl, Zm, Zn, Zo, Zp, Zq, Zr, Zs, Zt, Zu, Zv, Zw, Zx, Zy, Zz, Zaa, Zab, Zac, Zad, wk1, wk, Zae, Zaf, Zag, Zah, Zai, Zaj, Zak, Zal, AV.kill, AO.kill, AV.thaw, AO.thaw, Zam, Zan, Zao, Zap, Zaq, Zar, Zas, Zat, Zau, ite_true, ite_false, reduceCtorEq, Nat.reduceAdd, Nat.reduceMul, Nat.reduceLeDiff, Nat.reduceLT, Nat.reduceEqDiff, forall_const]
  refine use1 (First_ok [spansF a size, spansF b size] (by simp)) rfl (.inl rfl) ?_
  simp only [ZZ, Za, Zb, Zc, Zd, Ze, Zf, Zg, Zh, rd, AV.un, AV.unA, AV.ad, Zi, Zj, Zk, Zl, Zm, Zn, Zo, Zp, Zq, Zr, Zs, Zt, Zu, Zv, Zw, Zx, Zy, Zz, Zaa, Zab, Zac, Zad, wk1, wk, Zae, Zaf, Zag, Zah, Zai, Zaj, Zak, Zal, AV.kill, AO.kill, AV.thaw, AO.thaw, Zam, Zan, Zao, Zap, Zaq, Zar, Zas, Zat, Zau, ite_true, ite_false, reduceCtorEq, Nat.reduceAdd, Nat.reduceMul, Nat.reduceLeDiff, Nat.reduceLT, Nat.reduceEqDiff, forall_const]
  refine br ?_ ?_
  · intro h
    have h : ¬ firstE [spansF a size, spansF b size] = 0 := by simpa using h
    simp only [ZZ, Za, Zb, Zc, Zd, Ze, Zf, Zg, Zh, rd, AV.un, AV.unA, AV.ad, Zi, Zj, Zk, Zl, Zm, Zn, Zo, Zp, Zq, Zr, Zs, Zt, Zu, Zv, Zw, Zx, Zy, Zz, Zaa, Zab, Zac, Zad, wk1, wk, Zae, Zaf, Zag, Zah, Zai, Zaj, Zak, Zal, AV.kill, AO.kill, AV.thaw, AO.thaw, Zam, Zan, Zao, Zap, Zaq, Zar, Zas, Zat, Zau, ite_true, ite_false, reduceCtorEq, Nat.reduceAdd, Nat.reduceMul, Nat.reduceLeDiff, Nat.reduceLT, Nat.reduceEqDiff, forall_const]
    have hm : mixedR a b size false = ([], firstE [spansF a size, spansF b size]) := by simp [mixedR, h]
    rw [hm]
    rfl
  · intro h
    have h : firstE [spansF a size, spansF b size] = 0 := by simpa using h
    obtain ⟨h1, h2⟩ := firstE2_zero h
    have hl1 := spansF_len h1
    have hl2 := spansF_len h2
    simp only [ZZ, Za, Zb, Zc, Zd, Ze, Zf, Zg, Zh, rd, AV.un, AV.unA, AV.ad, Zi, Zj, Zk, Zl, Zm, Zn, Zo, Zp, Zq, Zr, Zs, Zt, Zu, Zv, Zw, Zx, Zy, Zz, Zaa, Zab, Zac, Zad, wk1, wk, Zae, Zaf, Zag, Zah, Zai, Zaj, Zak, Zal, AV.kill, AO.kill, AV.thaw, AO.thaw, Zam, Zan, Zao, Zap, Zaq, Zar, Zas, Zat, Zau, ite_true, ite_false, reduceCtorEq, Nat.reduceAdd, Nat.reduceMul, Nat.reduceLeDiff, Nat.reduceLT, Nat.reduceEqDiff, forall_const, sps]
    refine useF (ConcatS_ok [a, b] (by simp) (by simp [lenSum]; omega)) rfl rfl ?_
    rintro es rfl
    simp only [ZZ, Za, Zb, Zc, Zd, Ze, Zf, Zg, Zh, rd, AV.un, AV.unA, AV.ad, Zi, Zj, Zk, Zl, Zm, Zn, Zo, Zp, Zq, Zr, Zs, Zt, Zu, Zv, Zw, Zx, Zy, Zz, Zaa, Zab, Zac, Zad, wk1, wk, Zae, Zaf, Zag, Zah, Zai, Zaj, Zak, Zal, AV.kill, AO.kill, AV.thaw, AO.thaw, Zam, Zan, Zao, Zap, Zaq, Zar, Zas, Zat, Zau, ite_true, ite_false, reduceCtorEq, Nat.reduceAdd, Nat.reduceMul, Nat.reduceLeDiff, Nat.reduceLT, Nat.reduceEqDiff, forall_const]
    have hfl : [a, b].flatten = a ++ b := by simp
    rw [hfl]
    have hbd : ∀ s ∈ a ++ b, -1000000000 ≤ s.1 ∧ s.1 ≤ 1000000000 := by
      intro s hs
      rcases List.mem_append.1 hs with hs | hs
      · have := spansF_in h1 s hs; omega
      · have := spansF_in h2 s hs; omega
    refine useRF (put_ok (a ++ b) (by simp; omega) (sort_ok (a ++ b) (by simp; omega) hbd)) rfl rfl rfl (by simp only [ZZ, Za, Zb, Zc, Zd, Ze, Zf, Zg, Zh, rd, AV.un, AV.unA, AV.ad, Zi, Zj, Zk, Zl, Zm, Zn, Zo, Zp, Zq, Zr, Zs, Zt, Zu, Zv, Zw, Zx, Zy, Zz, Zaa, Zab, Zac, Zad, wk1, wk, Zae, Zaf, Zag, Zah, Zai, Zaj, Zak, Zal, AV.kill, AO.kill, AV.thaw, AO.thaw, Zam, Zan, Zao, Zap, Zaq, Zar, Zas, Zat, Zau, ite_true, ite_false, reduceCtorEq, Nat.reduceAdd, Nat.reduceMul, Nat.reduceLeDiff, Nat.reduceLT, Nat.reduceEqDiff, forall_const]) ?_
    rintro es2 es' ⟨l', rfl, hm, hord⟩
    simp only [ZZ, Za, Zb, Zc, Zd, Ze, Zf, Zg, Zh, rd, AV.un, AV.unA, AV.ad, Zi, Zj, Zk, Zl, Zm, Zn, Zo, Zp, Zq, Zr, Zs, Zt, Zu, Zv, Zw, Zx, Zy, Zz, Zaa, Zab, Zac, Zad, wk1, wk, Zae, Zaf, Zag, Zah, Zai, Zaj, Zak, Zal, AV.kill, AO.kill, AV.thaw, AO.thaw, Zam, Zan, Zao, Zap, Zaq, Zar, Zas, Zat, Zau, ite_true, ite_false, reduceCtorEq, Nat.reduceAdd, Nat.reduceMul, Nat.reduceLeDiff, Nat.reduceLT, Nat.reduceEqDiff, forall_const]
    refine use1 (few_ok (putF l')) rfl (.inl rfl) ?_
    simp only [ZZ, Za, Zb, Zc, Zd, Ze, Zf, Zg, Zh, rd, AV.un, AV.unA, AV.ad, Zi, Zj, Zk, Zl, Zm, Zn, Zo, Zp, Zq, Zr, Zs, Zt, Zu, Zv, Zw, Zx, Zy, Zz, Zaa, Zab, Zac, Zad, wk1, wk, Zae, Zaf, Zag, Zah, Zai, Zaj, Zak, Zal, AV.kill, AO.kill, AV.thaw, AO.thaw, Zam, Zan, Zao, Zap, Zaq, Zar, Zas, Zat, Zau, ite_true, ite_false, reduceCtorEq, Nat.reduceAdd, Nat.reduceMul, Nat.reduceLeDiff, Nat.reduceLT, Nat.reduceEqDiff, forall_const]
    have hu := union_mixed h1 h2 (fun s => by rw [hm, List.mem_append]) hord
    rw [hu]
    simp only [mixedR, h, if_true]
    rfl
end
end Go.Proofs.YtpddiepfolfnoaaDoor
