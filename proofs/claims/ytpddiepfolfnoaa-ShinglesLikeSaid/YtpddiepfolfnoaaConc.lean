/- slices.Grow of nil and slices.Concat of two slices, at []int. -/
import Derived.Test.YtpddiepfolfnoaaNum
import Derived.Lib.AppendZeros
import Derived.Laws.AppendOwnNone
namespace Go.Proofs.Ytpddiepfolfnoaa
open Go.RowKit
set_option linter.unusedVariables false

theorem run_app_nil {P : Program} (w : World) (base : Nat) (t ty e : TypeId) (i : TypeInfo) (size : Nat) (ht : P.underlying t = some (.slice e)) (hi : P.info? e = some i)
    (v : Value) (n : Nat) (xs : List Value) (hown : w.ownsRow base e size v n xs) (c : Nat) : (Builtin.append_ #[t, t] ty #[v, .slice none 0 c]).run P w = .ok v w := by
  rcases hown.2 with ⟨rfl, rfl⟩ | ⟨g, cap, cur, rfl, _, _, hle, _⟩
  · simp [Builtin.append_, run_underlying ht, sizeOf, typeInfo, hi, Builtin.lenOf, Builtin.firstCells]
  · simp [Builtin.append_, run_underlying ht, sizeOf, typeInfo, hi, Builtin.lenOf, Builtin.firstCells, hle, storeCells]

theorem app_ints {ops : Array Oper} {rest : List Oper} {o : Oper} {a : Act} {Q : Exit → Act → World → Prop} {w : World} {base : Nat} (hgd : o.guard = none) (s x : Operand)
    (ho : o.op = .call { callee := .builtin .append, args := #[s, x], argTypes := #[22, 22] }) (v : Value) (n : Nat) (L : List Int) (A : Option Addr) (m c : Nat) (M : List Int)
    (hs : a.eval s = v) (hown : w.ownsRow base 3 1 v n (L.map iv)) (hx : a.eval x = .slice A m c) (hm : M.length = m) (hr : Rd w 0 A (M.map iv)) (hn : n ≤ 8000000000) (hm2 : m ≤ 8000000000) (hb : base ≤ w.heap.size)
    (h : ∀ v' w', w'.ownsRow base 3 1 v' (n + m) ((L ++ M).map iv) → w.grownBy w' v.ownBlock → wpList Try.prog ops Q rest (a.put o.dst v') w') :
    wpList Try.prog ops Q (o :: rest) a w := by
  obtain ⟨i0, hi, hz0, hz1, hz2⟩ := info_parts info_int
  rcases A with _ | ad
  · have h0 : M = [] := by
      by_cases h0 : M = []
      · exact h0
      · obtain ⟨_, _, e, _⟩ := hr (by simpa using h0)
        cases e
    subst h0
    subst hm
    refine Lib.wpList_append_run w hgd s x _ _ ho v _ hs hx v w (run_app_nil w base _ _ 3 i0 1 Try.underlying22 hi v n _ hown c) ?_
    exact h v w (by simpa using hown) (gb_refl _ _)
  · refine wpList_append_own w hgd s x 22 ho base 3 i0 _ 1 8 Try.underlying22 hi hz0 hz1 hz2 rfl (by decide) v n _ hs hown ad m c (M.map iv) hx (by simp [hm]) ?_ (by intro u hu; obtain ⟨y, _, rfl⟩ := List.mem_map.1 hu; rfl) (by unfold maxLen; omega) (by omega) hb ?_
    · intro j u hu
      obtain ⟨b, off, e, _, _, hc⟩ := hr (by intro e; rw [e] at hu; simp at hu)
      obtain rfl : ad = ⟨b, off, none⟩ := Option.some.inj e
      rw [addr_add]
      exact hc j u hu
    · intro v' w' h1 h2 _
      exact h v' w' (by rw [List.map_append]; exact h1) h2

theorem own_zero {w : World} {base g cap : Nat} {e : TypeId} {cur : Array Value} (hb : base ≤ g) (hg : w.heap[g]? = some (.cells cur e (0, 0))) (hc : cur.size = cap) (hm : cap ≤ maxLen) : w.ownsRow base e 1 (.slice (some ⟨g, 0, none⟩) 0 cap) 0 [] :=
  ⟨rfl, .inr ⟨g, cap, cur, rfl, hb, hg, Nat.zero_le _, hm, by omega, by simp⟩⟩

set_option maxRecDepth 100000 in
set_option maxHeartbeats 1000000 in
theorem growI_any (n : Nat) (w : World) (hn : n ≤ 8000000000) :
    Calls Try.prog 62 #[.slice none 0 0, .int .i64 n] w fun e w' => ∃ v, e = .returned v ∧ w'.ownsRow w.heap.size 3 1 v 0 (([] : List Int).map iv) ∧ w.grownBy w' none := by
  by_cases h0 : n = 0
  · subst h0
    go_enter Try.func62, Try.ntmps62
    go_wp2_with fail
    go_ret
    exact ⟨_, rfl, World.ownsRow_nil _ _ _ _, gb_refl _ _⟩
  · obtain ⟨i0, hi, hz0, hz1, hz2⟩ := info_parts info_int
    have happ := Lib.run_append_nil_zeros (P := Try.prog) w 22 3 22 3 i0 (.int .i64 0) .i64 .i64 Try.underlying22 Try.underlying3 hi hz0 n (by omega) (by omega) (by omega) (by rw [hz2]; omega)
    generalize hcap : grownCap w n 0 3 = cap2 at happ
    have hcapge : n ≤ cap2 := by rw [← hcap]; exact grownCap_ge w _ 0 _
    have hcaple : cap2 ≤ maxLen := by rw [← hcap]; exact grownCap_le_maxLen w _ 0 _ (by unfold maxLen; omega)
    generalize hZ : (Builtin.zeroCells (Value.int .i64 0).cells n ++ Builtin.zeroCells (Value.int .i64 0).cells (cap2 - n)) = Z at happ
    have hZs : Z.size = cap2 := by rw [← hZ]; simp [size_zeroCells, Value.cells]; omega
    clear hcap hZ
    have hn0 : (1 : Int) ≤ n := by omega
    have hcap0 : (0 : Int) ≤ cap2 := by omega
    clear h0
    go_enter Try.func62, Try.ntmps62
    go_wp2_with (at_builtin; refine Lib.wpList_append_run _ rfl _ _ _ _ rfl _ _ rfl rfl _ _ happ ?_)
    go_ret
    exact ⟨_, rfl, own_zero (Nat.le_refl _) (heap_alloc_new w _) hZs hcaple, gb_alloc (gb_drew (gb_refl _ _)) _⟩

set_option maxRecDepth 100000 in
set_option maxHeartbeats 1000000 in
theorem concatI_any (g : Nat) (A B : Option Addr) (n m c d : Nat) (L M : List Int) (w : World) (hL : L.length = n) (hM : M.length = m) (hrL : Rd w 0 A (L.map iv)) (hrM : Rd w 0 B (M.map iv)) (hn : n ≤ 4000000) (hm : m ≤ 4000000)
    (hr : Rd w 0 (some ⟨g, 0, none⟩) [.slice A n c, .slice B m d]) :
    Calls Try.prog 40 #[.slice (some ⟨g, 0, none⟩) 2 2] w fun e w' => ∃ v, e = .returned v ∧ w'.ownsRow w.heap.size 3 1 v (n + m) ((L ++ M).map iv) ∧ w.grownBy w' none := by
  obtain ⟨b, off, hb, _, hlt, hcell⟩ := hr.open_ (by simp)
  injection hb with hb
  injection hb with hb1 hb2
  subst hb1 hb2
  have c0 : w.cell? ⟨g, 0, none⟩ = some (.slice A n c) := hcell 0 (by simp)
  have c1 : w.cell? ⟨g, 1, none⟩ = some (.slice B m d) := hcell 1 (by simp)
  clear hcell hr
  go_enter Try.func40, Try.ntmps40
  go_wp2_with fail
  go_loop [3, 11] (fun x i => (x = .int .i64 0 ∧ i = .int .i64 0) ∨ (x = .int .i64 n ∧ i = .int .i64 1) ∨ (x = .int .i64 ((n + m : Nat) : Int) ∧ i = .int .i64 2)) (fun _ i => 2 - (intOf i).toNat)
  case atStart => exact .inl ⟨rfl, rfl⟩
  case round =>
    rcases hrel with ⟨rfl, rfl⟩ | ⟨rfl, rfl⟩ | ⟨rfl, rfl⟩
    · go_wp2_with fail
      exact ⟨.inr (.inl ⟨rfl, rfl⟩), by simp [intOf]⟩
    · go_wp2_with fail
      exact ⟨.inr (.inr ⟨by go_num, rfl⟩), by simp [intOf]⟩
    · go_wp2_with fail
      refine (growI_any (n + m) _ (by omega)).mono ?_
      rintro e w1 ⟨v1, rfl, hown1, hg1⟩
      go_wp2_with fail
      go_loopw [6, 27] (fun v i wr => ∃ (k : Nat) (X : List Int), i = .int .i64 k ∧ k ≤ 2 ∧ wr.ownsRow w.heap.size 3 1 v X.length (X.map iv) ∧ w.grownBy wr none ∧ (k = 0 → X = []) ∧ (k = 1 → X = L) ∧ (k = 2 → X = L ++ M)) (fun _ i _ => 2 - (intOf i).toNat)
      case atStart => exact ⟨0, [], rfl, by omega, hown1, hg1, fun _ => rfl, by simp, by simp⟩
      case round =>
        clear hown1 hg1
        obtain ⟨k, X, rfl, hk, hown, hg, hX⟩ := hrel
        have HX := Lib.hid hX
        clear hX
        have d0 : wr.cell? ⟨g, 0, none⟩ = some (.slice A n c) := (gb_cell hg hlt (by simp)).trans c0
        have d1 : wr.cell? ⟨g, 1, none⟩ = some (.slice B m d) := (gb_cell hg hlt (by simp)).trans c1
        have hrA := hrL.pure hg
        have hrB := hrM.pure hg
        rcases k with _ | _ | _ | k
        · obtain rfl := HX.out.1 rfl
          go_wp2_with (at_builtin; refine app_ints rfl _ _ rfl _ _ _ _ _ _ _ rfl hown rfl hL hrA (by simp) (by omega) hg.size ?_; intro v' w4 hown4 hg4)
          exact ⟨⟨1, L, by go_num, by omega, by simpa [hL] using hown4, gb_new hg hg4 (fun b hb => (hown.lt b hb).1), by simp, by simp, by simp⟩, by simp [intOf]⟩
        · obtain rfl := HX.out.2.1 rfl
          go_wp2_with (at_builtin; refine app_ints rfl _ _ rfl _ _ _ _ _ _ _ rfl hown rfl hM hrB (by omega) (by omega) hg.size ?_; intro v' w4 hown4 hg4)
          exact ⟨⟨2, X ++ M, by go_num, by omega, by simpa [hL, hM] using hown4, gb_new hg hg4 (fun b hb => (hown.lt b hb).1), by simp, by simp, by simp⟩, by simp [intOf]⟩
        · have HE := Lib.hid (HX.out.2.2 rfl)
          go_wp2_with fail
          go_ret
          refine ⟨_, rfl, ?_, hg⟩
          have := hown
          rw [HE.out] at this
          simpa [hL, hM] using this
        · omega
end Go.Proofs.Ytpddiepfolfnoaa
