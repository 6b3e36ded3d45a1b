/- Contracts: near.two, like, Resemblance, Containment; the reference's LikeOf, ContainmentOf. -/
import Derived.Test.YtpddiepfolfnoaaSearch
import Derived.Test.YtpddiepfolfnoaaConcS
import Derived.Test.YtpddiepfolfnoaaEst
import Derived.Test.YtpddiepfolfnoaaShRef
namespace Go.Proofs.Ytpddiepfolfnoaa
open Go.RowKit
set_option linter.unusedVariables false

def twoErr (s t : ByteArray) (k : Int) : Int := firstE [whenE (decide (20000 < s.size)) 2, whenE (!inE k 1 10) 1, whenE (decide (20000 < t.size)) 2]
theorem twoErr_eq (s t : ByteArray) (k : Int) (h : t.size ≤ 20000) : twoErr s t k = shErr s k := by
  unfold twoErr shErr
  have h2 : decide (20000 < t.size) = false := by simp; omega
  rw [h2]
  simp [whenE, firstE]
theorem kept_new {w w' : World} {cs : Array Value} {t : TypeId} (h : (w.alloc (.cells cs t)).grownBy w' none) : w'.heap[w.heap.size]? = some (.cells cs t (0, 0)) := (h.block _ (by simp) (by simp)).trans (heap_alloc_new w _)
theorem out_new {w w' : World} {o : Obj} (h : (w.alloc o).grownBy w' none) : w.grownBy w' none := gb_new (gb_alloc (gb_refl _ _) _) h (by simp)
theorem gb_two {w w' : World} (h : w.grownBy w' none) (x y : Value) : w.grownBy ((w'.setCell ⟨w.heap.size, 0, none⟩ x).setCell ⟨w.heap.size, 1, none⟩ y) none :=
  gb_set (gb_set h (.inr (Nat.le_refl _)) _) (.inr (Nat.le_refl _)) _

set_option maxHeartbeats 400000 in
theorem two_any (s t : ByteArray) (k : Int) (w : World) : Calls Try.prog 45 #[.string s, .string t, .int .i64 k] w fun e w' => e = .returned (.int .i64 (twoErr s t k)) ∧ w.grownBy w' none := by
  have HE := Lib.hid (show twoErr s t k = firstE [whenE (decide (20000 < s.size)) 2, whenE (!inE k 1 10) 1, whenE (decide (20000 < t.size)) 2] from rfl)
  go_enter Try.func45, Try.ntmps45
  go_wp2_with fail
  refine (nlarge_any _ _).mono ?_
  rintro e w' ⟨rfl, rfl⟩
  go_wp2_with fail
  refine (kError_any _ _).mono ?_
  rintro e w' ⟨rfl, rfl⟩
  go_wp2_with fail
  refine (nlarge_any _ _).mono ?_
  rintro e w' ⟨rfl, rfl⟩
  generalize whenE (decide (20000 < s.size)) 2 = x at *
  generalize whenE (!inE k 1 10) 1 = y at *
  generalize whenE (decide (20000 < t.size)) 2 = z at *
  go_wp2_with fail
  refine (first_any _ [x, y, z] 3 3 _ rfl (by omega) (Rd.new' _ [.int .i64 x, .int .i64 y, .int .i64 z] _ (Nat.zero_le _))).mono ?_
  rintro e w' ⟨rfl, rfl⟩
  go_wp2_with fail
  go_ret
  rw [HE.out]
  exact ⟨rfl, gb_alloc (gb_refl _ _) _⟩

set_option maxRecDepth 100000 in
set_option maxHeartbeats 1000000 in
theorem like_any (A B : Option Addr) (L M : List (List UInt8)) (n m c d : Nat) (w : World) (hL : L.length = n) (hM : M.length = m) (hrL : Rd w 0 A (L.map sv)) (hrM : Rd w 0 B (M.map sv)) (hn : n ≤ 4000000000) (hm : m ≤ 4000000000)
    (hsL : L.Pairwise (· < ·)) (hsM : M.Pairwise (· < ·)) :
    Calls Try.prog 46 #[.slice A n c, .slice B m d] w fun e w' => e = .returned (frV2 (frac (com L M) (n + m - com L M))) ∧ w.grownBy w' none := by
  have hcn : com L M ≤ n := by rw [← hL]; exact List.countP_le_length
  have HS := Lib.hid (And.intro hsL hsM)
  have HL := Lib.hid hL
  have HM := Lib.hid hM
  clear hsL hsM hL hM
  go_enter Try.func46, Try.ntmps46
  go_wp2_with fail
  refine (shared_any A B L M n m c d _ HL.out HM.out (hrL.alloc _) (hrM.alloc _) hn hm HS.out.1 HS.out.2).mono ?_
  rintro e w1 ⟨rfl, hg1⟩
  generalize hcc : com L M = cc at *
  have HCC := Lib.hid hcc
  clear hcc
  have hsub : (n : Int) + (m : Int) - (cc : Int) = ((n + m - cc : Nat) : Int) := by omega
  go_wp2_with fail
  refine (fraction_any cc (n + m - cc) _ (by omega) (by omega)).mono ?_
  rintro e w2 ⟨rfl, hg2⟩
  have hg3 := hg1.trans hg2
  have hblk := kept_new hg3
  have hgo := out_new hg3
  obtain ⟨p1, p2, hF⟩ : ∃ p1 p2, frac cc (n + m - cc) = (p1, p2) := ⟨_, _, rfl⟩
  have HF := Lib.hid hF
  rw [hF, show frV2 (p1, p2) = .agg #[.int .i64 p1, .int .i64 p2] from rfl]
  clear hF
  obtain ⟨f0, f1, z0, z1⟩ := two_facts hblk
  obtain ⟨s0, s1⟩ := two_set hblk (.int .i64 p1) (.int .i64 p2)
  go_wp2_with fail
  refine bodyPost_ret (v := .agg #[.int .i64 p1, .int .i64 p2]) (by simp [results, Try.results46, go_sem, s0, s1]) rfl ⟨?_, gb_two hgo _ _⟩
  rw [HCC.out, HF.out]; rfl
end Go.Proofs.Ytpddiepfolfnoaa
