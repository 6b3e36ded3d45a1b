/- The walk of chaselaw1.WordsRead: it returns true, and turns nothing that was there. -/
import Derived.Test.YtpddiepfolfnoaaDoorRow
import Derived.Test.YtpddiepfolfnoaaDoorNears
import Derived.Test.YtpddiepfolfnoaaDoorJoin
namespace Go.Proofs.YtpddiepfolfnoaaDoor
open Go.RowKit
set_option linter.unusedVariables false

theorem map_sb (L : List ByteArray) : L.map Value.string = (L.map (·.data.toList)).map sv := by
  simp [sv, Function.comp_def]

set_option maxRecDepth 100000 in
set_option maxHeartbeats 4000000 in
theorem wordsRead_walk (a0 : Option Addr) (len0 cap0 : Nat) (z0 : List Int) (s : ByteArray) (w : World) (h0 : IsRow .i64 w a0 len0 cap0 z0) (hs : s.size ≤ 1048576) (he : Env w.heap.size w) :
    Calls Tryd.prog 5 #[.slice a0 len0 cap0, .string s] w fun e w' => e = .returned (.bool true) ∧ Below w.heap.size w w' := by
  have hst := strm_new h0
  clear h0
  go_enter Tryd.func5, Tryd.ntmps5
  go_wp2_with fail
  refine (prose_any w.heap.size 0 15 _ hst (by omega) (by omega)).mono ?_
  rintro e w1 ⟨s1, rfl, hs1, hg1, k1, hk1, hst1⟩
  have hgw : w.grownBy w1 none := gb_new (gb_alloc (gb_refl _ _) _) hg1 (by simp)
  have hrd : Rd (w1.alloc (.cells #[.string s1, .string s] 9)) 0 (some ⟨w1.heap.size, 0, none⟩) ([s1, s].map .string) := Rd.new' w1 _ _ (Nat.zero_le _)
  have hgw2 : w.grownBy (w1.alloc (.cells #[.string s1, .string s] 9)) none := gb_alloc hgw _
  clear hst hst1 hg1 hgw
  go_wp2_with fail
  go_loopw [17] (fun i wr => ∃ k : Nat, i = .int .i64 k ∧ k ≤ 2 ∧ w.grownBy wr none ∧ Rd wr 0 (some ⟨w1.heap.size, 0, none⟩) ([s1, s].map .string)) (fun i _ => 2 - (intOf i).toNat)
  case atStart => exact ⟨0, rfl, by omega, hgw2, hrd⟩
  case round =>
    clear hgw2 hrd
    obtain ⟨k, rfl, hk, hg, hr⟩ := hrel
    by_cases hlt : k < 2
    · obtain ⟨b, off, hA, _, hb, hcell⟩ := hr.at_ (k := k) (by simpa using hlt)
      obtain ⟨t, ht, hts⟩ : ∃ t, [s1, s][k]'(by simpa using hlt) = t ∧ t.size ≤ 1048576 := by
        refine ⟨_, rfl, ?_⟩
        rcases k with _ | _ | k
        · show s1.size ≤ _; omega
        · exact hs
        · omega
      rw [List.getElem_map, ht] at hcell
      injection hA with hA
      injection hA with hA1 hA2
      subst hA1
      have hoff : off = 0 := hA2.symm
      subst hoff
      rw [Nat.zero_add] at hcell
      clear ht hA2
      have he1 := he.pure hg
      have hl1 := tokens_le t
      have hlw := words_le t.data.toList
      have htt := tokens_tot t
      simp only [Array.length_toList] at hlw
      have hlw : (Sp.words t.data.toList).length ≤ t.size + 1 := hlw
      have hTl : (tokens t).length ≤ 8000000000000 := Nat.le_trans hl1 (Nat.le_trans (Nat.mul_le_mul (show t.size + 1 ≤ 1048577 by omega) (show t.size + 2 ≤ 1048578 by omega)) (by decide))
      clear hl1
      go_wp2_with fail
      refine (tokens_any t _ he1 hts).mono ?_
      rintro e w2 ⟨A2, c2, rfl, hc2, hr2, hg2⟩
      go_wp2_with fail
      refine (words_rd t _ (by omega)).mono ?_
      rintro e w3 ⟨A3, c3, rfl, hc3, hr3, hg3⟩
      go_wp2_with fail
      refine (rwords_any t _ (by omega)).mono ?_
      rintro e w4 ⟨A4, c4, rfl, hc4, hr4, hg4⟩
      go_wp2_with fail
      refine (seq_any _ _ (Sp.words t.data.toList) (Sp.words t.data.toList) _ _ _ _ _ rfl rfl ((hr3.pure hg4).lower (Nat.zero_le _)) (hr4.lower (Nat.zero_le _)) (by omega) (by omega)).mono ?_
      rintro e w5 ⟨rfl, hg5⟩
      rw [show decide (Sp.words t.data.toList = Sp.words t.data.toList) = true from by simp]
      have he5 := (((he1.pure hg2).pure hg3).pure hg4).pure hg5
      go_wp2_with fail
      refine (rtokens_any t _ he5 hts).mono ?_
      rintro e w6 ⟨A6, c6, rfl, hc6, hr6, hg6⟩
      have hr2' := ((((hr2.pure hg3).pure hg4).pure hg5).pure hg6)
      have hlT : ((tokens t).map (·.data.toList)).length = (tokens t).length := by simp
      have HLT := Lib.hid hlT
      clear hlT
      go_wp2_with fail
      refine (seq_any _ _ ((tokens t).map (·.data.toList)) ((tokens t).map (·.data.toList)) _ _ _ _ _ HLT.out HLT.out (by rw [← map_sb]; exact hr2'.lower (Nat.zero_le _)) (by rw [← map_sb]; exact hr6.lower (Nat.zero_le _)) (by omega) (by omega)).mono ?_
      rintro e w7 ⟨rfl, hg7⟩
      rw [show decide ((tokens t).map (·.data.toList) = (tokens t).map (·.data.toList)) = true from by simp]
      go_wp2_with fail
      refine (join_any A2 (tokens t) _ _ _ rfl (by omega) ((hr2'.pure hg7).lower (Nat.zero_le _))).mono ?_
      rintro e w8 ⟨rfl, hg8⟩
      go_wp2_with fail
      refine (rtokens_any t _ (((he5.pure hg6).pure hg7).pure hg8) hts).mono ?_
      rintro e w9 ⟨A9, c9, rfl, hc9, hr9, hg9⟩
      go_wp2_with fail
      refine (rjoin_any A9 (tokens t) _ _ _ rfl (by omega) (hr9.lower (Nat.zero_le _))).mono ?_
      rintro e w10 ⟨rfl, hg10⟩
      have hgA : wr.grownBy w10 none := (((((((hg2.trans hg3).trans hg4).trans hg5).trans hg6).trans hg7).trans hg8).trans hg9).trans hg10
      generalize (⟨(joinGo none (tokens t)).toArray⟩ : ByteArray) = J
      clear hr2 hr2' hr3 hr4 hr6 hr9
      go_wp2_with fail
      exact ⟨⟨k + 1, by go_num, by omega, hg.trans hgA, hr.pure hgA⟩, by simp [intOf]; omega⟩
    · go_wp2_with fail
      refine (nears_any _).mono ?_
      rintro e w2 ⟨rfl, hg2⟩
      go_wp2_with fail
      go_ret
      exact ⟨rfl, gb_to_below (hg.trans hg2)⟩
end Go.Proofs.YtpddiepfolfnoaaDoor
