/- Contracts: near.Words and the reference's wordByte, lower, wordSpans, WordsOf. -/
import Derived.Test.YtpddiepfolfnoaaStr
import Derived.Test.YtpddiepfolfnoaaShelf
import Derived.Lib.Strings
namespace Go.Proofs.Ytpddiepfolfnoaa
open Go.RowKit
set_option linter.unusedVariables false

theorem info_string : (Try.prog.info? 9).map (fun i => (i.zero, i.size, i.bytes)) = some (some (.string ⟨#[]⟩), 1, 16) := by kernel_rfl

/-- A string as a value. -/
def sv (l : List UInt8) : Value := .string ⟨l.toArray⟩
theorem sv_one (l : List UInt8) : (sv l).oneCell' = true := rfl
theorem ext_part (s : ByteArray) (a k : Nat) : (s.extract a k).data.toList = Sp.part s.data.toList (a, k) := by
  rw [Lib.extract_data]; simp [Sp.part, List.drop_take]

def wordV (s : ByteArray) (p : Nat × Nat) : Value := sv (Sp.lowS (Sp.part s.data.toList p))
def frV : Option Nat → Value | none => .int .i64 (-1) | some a => .int .i64 a

theorem append_one {w' : World} {base : Nat} {v : Value} {n : Nat} {o : List (Nat × Nat)} {s : ByteArray} (p : Nat × Nat) (h : w'.ownsRow base 9 1 v (n + 1) (o.map (wordV s) ++ [wordV s p])) (hn : n = o.length) :
    w'.ownsRow base 9 1 v (o ++ [p]).length ((o ++ [p]).map (wordV s)) := by
  subst hn
  simpa using h

/-- What holds at the head of a round of near.Words. -/
def WRel (s : ByteArray) (w : World) (l f i : Value) (wr : World) : Prop :=
  ∃ (k : Nat) (fr : Option Nat) (o : List (Nat × Nat)), i = .int .i64 k ∧ f = frV fr ∧ k ≤ s.size + 1 ∧ (∀ a, fr = some a → a < k ∧ k ≤ s.size) ∧
    o ++ Sp.wsp k fr (s.data.toList.drop k) = Sp.spans s.data.toList ∧ wr.ownsRow w.heap.size 9 1 l o.length (o.map (wordV s)) ∧ w.grownBy wr none

set_option maxRecDepth 100000 in
set_option maxHeartbeats 1000000 in
theorem words_any (s : ByteArray) (w : World) (hs : s.size ≤ 1000000000) : Calls Try.prog 57 #[.string s] w fun e w' =>
    ∃ v, e = .returned v ∧ w'.ownsRow w.heap.size 9 1 v (Sp.spans s.data.toList).length ((Sp.words s.data.toList).map sv) ∧ w.grownBy w' none := by
  obtain ⟨i0, hi, hz0, hz1, hz2⟩ := info_parts info_string
  go_enter Try.func57, Try.ntmps57
  go_wp2_with fail
  go_loopw [3, 4, 5] (fun l f i wr => WRel s w l f i wr) (fun _ _ i _ => s.size + 1 - (intOf i).toNat)
  case atStart => exact ⟨0, none, [], rfl, rfl, by omega, by simp, by simp [Sp.spans], World.ownsRow_nil _ _ _ _, gb_refl _ _⟩
  case round =>
    obtain ⟨k, fr, o, rfl, rfl, hk, hfr, hsp, hown, hg⟩ := hrel
    have HS := Lib.hid hsp
    clear hsp
    by_cases hlt : k < s.size
    · have hkl : k < s.data.toList.length := by simpa using hlt
      obtain ⟨c, hc⟩ : ∃ c, s[k] = c := ⟨_, rfl⟩
      have hc' : s.data.toList[k] = c := by rw [← hc]; rfl
      have HC := Lib.hid hc'
      clear hc'
      cases fr with
      | none =>
        clear hfr
        unfold frV
        cases hl : Sp.isLet c with
        | true =>
          have HW := Lib.hid (Sp.wsp_let _ k none hkl c HC.out hl)
          go_wp2_with (go_at_call 76; refine (letter_any _ _).mono ?_; rintro e w' ⟨rfl, rfl⟩)
          exact ⟨⟨k + 1, some k, o, by go_num, rfl, by omega, by rintro a ⟨⟩; omega, by rw [← HS.out, HW.out]; rfl, hown, hg⟩, by simp [intOf]; omega⟩
        | false =>
          have HW := Lib.hid (Sp.wsp_non _ k hkl c HC.out hl)
          go_wp2_with (go_at_call 76; refine (letter_any _ _).mono ?_; rintro e w' ⟨rfl, rfl⟩)
          exact ⟨⟨k + 1, none, o, by go_num, rfl, by omega, by simp, by rw [← HS.out, HW.out], hown, hg⟩, by simp [intOf]; omega⟩
      | some a =>
        obtain ⟨ha, _⟩ := hfr a rfl
        clear hfr
        unfold frV
        cases hl : Sp.isLet c with
        | true =>
          have HW := Lib.hid (Sp.wsp_let _ k (some a) hkl c HC.out hl)
          go_wp2_with (go_at_call 76; refine (letter_any _ _).mono ?_; rintro e w' ⟨rfl, rfl⟩)
          exact ⟨⟨k + 1, some a, o, by go_num, rfl, by omega, by rintro b ⟨⟩; omega, by rw [← HS.out, HW.out]; rfl, hown, hg⟩, by simp [intOf]; omega⟩
        | false =>
          have HW := Lib.hid (Sp.wsp_end _ k a hkl c HC.out hl)
          have hol : o.length ≤ 1000000001 := by
            have h1 := congrArg List.length HS.out
            have h2 := Sp.spans_len s.data.toList
            simp at h1 h2; omega
          go_wp2_with (go_at_call 76; refine (letter_any _ _).mono ?_; rintro e w' ⟨rfl, rfl⟩)
          refine (lower_any _ _ ?_).mono ?_
          · simp; omega
          rintro e w1 ⟨rfl, hg1⟩
          rw [ext_part]
          have hown1 := hown.kept hg1 (by cases u3.ownBlock <;> simp)
          go_wp2_with (at_builtin; refine wpList_append_own _ rfl _ _ 41 rfl w.heap.size 9 i0 _ 1 16 Try.underlying41 hi hz0 hz1 hz2 rfl (by decide) _ _ _ rfl (hown1.alloc _) ⟨w1.heap.size, 0, none⟩ 1 1 [wordV s (a, k)] rfl rfl ?c1 ?c2 ?c3 ?c4 ?c5 ?_)
          case c1 => exact cell_one_new _ _ _
          case c2 => intro u hu; simp at hu; subst hu; rfl
          case c3 => unfold maxLen; omega
          case c4 => omega
          case c5 => have := hg.size; have := hg1.size; simp; omega
          intro v' w2 hown2 hgrow _
          go_wp2_with fail
          exact ⟨⟨k + 1, none, o ++ [(a, k)], by go_num, rfl, by omega, by simp, by rw [← HS.out, HW.out]; simp, append_one (a, k) hown2 rfl,
            gb_new (gb_alloc (gb_new hg hg1 (by simp)) _) hgrow (fun b hb => (hown.lt b hb).1)⟩, by simp [intOf]; omega⟩
    · have hns : decide ((k : Int) < (s.size : Int)) = false := by simp; omega
      by_cases hke : k = s.size
      · have hkl : s.data.toList.length ≤ k := by simp; omega
        cases fr with
        | none =>
          clear hfr
          unfold frV
          have HW := Lib.hid ((Sp.wsp_out s.data.toList k hkl).trans (Sp.wsp_out s.data.toList (k + 1) (by omega)).symm)
          go_wp2_with fail
          exact ⟨⟨k + 1, none, o, by go_num, rfl, by omega, by simp, by rw [← HS.out, HW.out], hown, hg⟩, by simp [intOf]; omega⟩
        | some a =>
          obtain ⟨ha, _⟩ := hfr a rfl
          clear hfr
          unfold frV
          have HW := Lib.hid (Sp.wsp_fin _ k a hkl)
          have hol : o.length ≤ 1000000001 := by
            have h1 := congrArg List.length HS.out
            have h2 := Sp.spans_len s.data.toList
            simp at h1 h2; omega
          have hk1 : k ≤ s.size := by omega
          have hk2 : s.size ≤ k := by omega
          clear hke
          go_wp2_with fail
          refine (lower_any _ _ ?_).mono ?_
          · simp; omega
          rintro e w1 ⟨rfl, hg1⟩
          rw [ext_part]
          have hown1 := hown.kept hg1 (by cases u3.ownBlock <;> simp)
          go_wp2_with (at_builtin; refine wpList_append_own _ rfl _ _ 41 rfl w.heap.size 9 i0 _ 1 16 Try.underlying41 hi hz0 hz1 hz2 rfl (by decide) _ _ _ rfl (hown1.alloc _) ⟨w1.heap.size, 0, none⟩ 1 1 [wordV s (a, k)] rfl rfl ?c1 ?c2 ?c3 ?c4 ?c5 ?_)
          case c1 => exact cell_one_new _ _ _
          case c2 => intro u hu; simp at hu; subst hu; rfl
          case c3 => unfold maxLen; omega
          case c4 => omega
          case c5 => have := hg.size; have := hg1.size; simp; omega
          intro v' w2 hown2 hgrow _
          go_wp2_with fail
          exact ⟨⟨k + 1, none, o ++ [(a, k)], by go_num, rfl, by omega, by simp, by rw [← HS.out, HW.out]; simp, append_one (a, k) hown2 rfl,
            gb_new (gb_alloc (gb_new hg hg1 (by simp)) _) hgrow (fun b hb => (hown.lt b hb).1)⟩, by simp [intOf]; omega⟩
      · have hgt : s.size < k := by omega
        have hnl : decide ((k : Int) ≤ (s.size : Int)) = false := by simp; omega
        have HF : Hid (o = Sp.spans s.data.toList) := by
          have h0 : fr = none := by
            cases fr with
            | none => rfl
            | some a => have := hfr a rfl; omega
          have h1 := HS.out
          subst h0
          rw [Sp.wsp_out _ k (by simp; omega), List.append_nil] at h1
          exact h1
        clear hfr
        go_wp2_with fail
        go_ret
        refine ⟨_, rfl, ?_, hg⟩
        have h1 := HF.out
        subst h1
        rw [show (Sp.words s.data.toList).map sv = (Sp.spans s.data.toList).map (wordV s) from by unfold Sp.words; rw [List.map_map]; rfl]
        exact hown
end Go.Proofs.Ytpddiepfolfnoaa
