/- Contracts: near.Join, the reference's JoinOf. -/
import Derived.Test.YtpddiepfolfnoaaDoorTok
namespace Go.Proofs.YtpddiepfolfnoaaDoor
open Go.RowKit
set_option linter.unusedVariables false

/-! ### Join -/
def tot (l : List ByteArray) : Nat := (l.map fun x => x.size + 1).sum
theorem tot_cons (x : ByteArray) (l : List ByteArray) : tot (x :: l) = x.size + 1 + tot l := by simp [tot]
theorem tot_app (a b : List ByteArray) : tot (a ++ b) = tot a + tot b := by simp [tot]
theorem tot_take (l : List ByteArray) (k : Nat) : tot (l.take k) ≤ tot l := by
  have h := tot_app (l.take k) (l.drop k)
  rw [List.take_append_drop] at h
  omega
theorem tot_len (l : List ByteArray) : l.length ≤ tot l := by
  induction l with
  | nil => simp
  | cons x l ih => rw [tot_cons]; simp; omega
theorem tot_filter (p : ByteArray → Bool) (l : List ByteArray) : tot (l.filter p) ≤ tot l := by
  induction l with
  | nil => simp
  | cons x l ih =>
    rw [List.filter_cons]
    split
    · rw [tot_cons, tot_cons]; omega
    · rw [tot_cons]; omega
theorem splitB_tot (c : UInt8) : ∀ (k : Nat) (s : ByteArray), tot (Lib.splitB ⟨#[c]⟩ 0 k s) ≤ s.size + 1 := by
  intro k
  induction k with
  | zero => intro s; simp [Lib.splitB, tot]
  | succ k ih =>
    intro s
    rcases Lib.indexB_cases s ⟨#[c]⟩ with hix | ⟨i, hix, hroom⟩
    · rw [Lib.splitB_miss _ _ _ _ hix]; simp [tot]
    · rw [Lib.splitB_hit _ _ _ _ i hix, tot_cons]
      have h1 := ih (s.extract (i + (⟨#[c]⟩ : ByteArray).size) s.size)
      have h2 : (⟨#[c]⟩ : ByteArray).size = 1 := rfl
      rw [h2] at h1 hroom ⊢
      simp only [ByteArray.size_extract] at h1 ⊢
      omega
theorem pieces_tot (s : ByteArray) (c : UInt8) : tot (pieces s c) ≤ s.size + 1 := splitB_tot c _ s
theorem tokGo_tot : ∀ (l : List ByteArray) (i : Nat), tot (tokGo i l) ≤ 3 * tot l := by
  intro l
  induction l with
  | nil => intro i; simp [tokGo, tot]
  | cons y r ih =>
    intro i
    have h1 : tot (tokLine y) ≤ y.size + 1 := Nat.le_trans (tot_filter _ _) (pieces_tot y 32)
    have h3 := ih (i + 1)
    have hn : tot [nl] = 2 := rfl
    simp only [tokGo]
    rw [tot_app, tot_app, tot_cons]
    split
    · rw [show tot [] = 0 from rfl]; omega
    · rw [hn]; omega
theorem tokens_tot (s : ByteArray) : tot (tokens s) ≤ 3 * (s.size + 1) := by
  have h1 := tokGo_tot (pieces s 10) 0
  have h2 := pieces_tot s 10
  unfold tokens
  omega

def jstep (p : Option ByteArray) (x : ByteArray) : List UInt8 :=
  (match p with | none => [] | some y => if x.toList = [10] ∨ y.toList = [10] then [] else [32]) ++ x.data.toList
def joinGo (p : Option ByteArray) : List ByteArray → List UInt8
  | [] => []
  | x :: r => jstep p x ++ joinGo (some x) r
theorem joinGo_snoc (l : List ByteArray) (x : ByteArray) : ∀ p, joinGo p (l ++ [x]) = joinGo p l ++ jstep (match l.getLast? with | none => p | some y => some y) x := by
  induction l with
  | nil => intro p; simp [joinGo]
  | cons y r ih =>
    intro p
    simp only [List.cons_append, joinGo, ih (some y), List.append_assoc]
    congr 2
    cases r with
    | nil => rfl
    | cons z r =>
      rw [List.getLast?_cons_cons]
      cases h : (z :: r).getLast? with
      | none => simp at h
      | some _ => rfl
theorem joinGo_len : ∀ (l : List ByteArray) (p : Option ByteArray), (joinGo p l).length ≤ tot l := by
  intro l
  induction l with
  | nil => intro p; simp [joinGo]
  | cons x r ih =>
    intro p
    have h := ih (some x)
    rw [tot_cons]
    simp only [joinGo, jstep, List.length_append]
    have hx : x.data.toList.length = x.size := by simp
    rw [hx]
    cases p with
    | none => simp; omega
    | some y => dsimp only; split <;> simp <;> omega
theorem joinTo_snoc (L : List ByteArray) (k : Nat) (hk : k < L.length) : joinGo none (L.take (k + 1)) = joinGo none (L.take k) ++ jstep (if h : 0 < k then some (L[k - 1]'(by omega)) else none) L[k] := by
  rw [List.take_succ_eq_append_getElem hk, joinGo_snoc]
  congr 2
  by_cases h : 0 < k
  · rw [dif_pos h, List.getLast?_eq_getElem?]
    have hl : (L.take k).length = k := by rw [List.length_take]; omega
    rw [hl, List.getElem?_take_of_lt (by omega), List.getElem?_eq_getElem (by omega)]
  · have : k = 0 := by omega
    subst this
    simp

set_option maxRecDepth 100000 in
set_option maxHeartbeats 2000000 in
theorem join_any (A : Option Addr) (L : List ByteArray) (n c : Nat) (w : World) (hn : L.length = n) (ht : tot L ≤ 1000000000) (hr : Rd w 0 A (L.map .string)) :
    Calls Tryd.prog 33 #[.slice A n c] w fun e w' => e = .returned (.string ⟨(joinGo none L).toArray⟩) ∧ w.grownBy w' none := by
  have hnt := tot_len L
  have HL := Lib.hid hn
  have hn1 : n ≤ 1000000000 := by omega
  clear hn hnt
  have HR := Lib.hid hr
  clear hr
  have st : Lib.IsBuilder 112 5 w.heap.size w.heap.size (Lib.byteCells (joinGo none (L.take 0))) (w.alloc (.cells #[.pointer none, .slice none 0 0] 112)) := Lib.fresh_isBuilder 112 5 w
  go_enter Tryd.func33, Tryd.ntmps33
  go_wp2_with fail
  go_loopw [8] (fun i wr => ∃ k : Nat, i = .int .i64 k ∧ k ≤ n ∧ Lib.IsBuilder 112 5 w.heap.size w.heap.size (Lib.byteCells (joinGo none (L.take k))) wr ∧ Below w.heap.size w wr) (fun i _ => n - (intOf i).toNat)
  case atStart => exact ⟨0, rfl, by omega, st, (Below.refl _ _).alloc (Nat.le_refl _) _⟩
  case round =>
    obtain ⟨k, rfl, hk, hbd, hbl⟩ := hrel
    clear st
    by_cases hlt : k < n
    · have hkl : k < L.length := by rw [HL.out]; exact hlt
      obtain ⟨b, off, rfl, _, hb, hcell⟩ := HR.out.open_ (by simp; omega)
      have hc1 := hcell k (by simpa using hkl)
      obtain ⟨x, hx⟩ : ∃ x, L[k] = x := ⟨_, rfl⟩
      rw [List.getElem_map, hx] at hc1
      have hc2 : wr.cell? ⟨b, off + k, none⟩ = some (.string x) := by rw [hbl.cell (p := ⟨b, off + k, none⟩) hb]; exact hc1
      have HJ := Lib.hid (joinTo_snoc L k hkl)
      rw [hx] at HJ
      have hJ : (joinGo none (L.take k)).length + x.size + 1 ≤ 1000000000 := by
        have h1 := joinGo_len (L.take k) none
        have h2 := tot_take L (k + 1)
        rw [List.take_succ_eq_append_getElem hkl, hx, tot_app] at h2
        rw [show tot [x] = x.size + 1 from by simp [tot]] at h2
        omega
      generalize joinGo none (L.take k) = J at *
      by_cases hk0 : 0 < k
      · rw [dif_pos hk0] at HJ
        have hp1 := hcell (k - 1) (by simp; omega)
        obtain ⟨y, hy⟩ : ∃ y, L[k - 1]'(by omega) = y := ⟨_, rfl⟩
        rw [List.getElem_map, hy] at hp1
        rw [hy] at HJ
        have hc3 : wr.cell? ⟨b, off + (k - 1), none⟩ = some (.string y) := by rw [hbl.cell (p := ⟨b, off + (k - 1), none⟩) hb]; exact hp1
        have hki : (0 : Int) ≤ (k : Int) - 1 := by omega
        have hki2 : (1 : Int) ≤ (k : Int) := by omega
        clear hp1 hc1 hcell hx hy
        by_cases hxn : x.toList = [10]
        · have hx1 : (x.toList == [10]) = true := by simp [hxn]
          have hx2 : (x.toList != [10]) = false := by simp [hxn]
          have HE := Lib.hid (show jstep (some y) x = x.data.toList from by simp [jstep, hxn])
          clear hxn
          go_wp2_with fail
          refine (writeString_any _ _ _ _ _ hbd (by rw [Lib.byteCells_length]; omega) (by have := hbl.size; omega)).mono ?_
          rintro e w3 ⟨rfl, hbd4, hbl4⟩
          go_wp2_with fail
          exact ⟨⟨k + 1, by go_num, by omega, by rw [HJ.out, HE.out]; simpa [Lib.byteCells, Lib.strCells] using hbd4, hbl.trans hbl4⟩, by simp [intOf]; omega⟩
        · have hx1 : (x.toList == [10]) = false := by simp [hxn]
          have hx2 : (x.toList != [10]) = true := by simp [hxn]
          by_cases hyn : y.toList = [10]
          · have hy1 : (y.toList == [10]) = true := by simp [hyn]
            have hy2 : (y.toList != [10]) = false := by simp [hyn]
            have HE := Lib.hid (show jstep (some y) x = x.data.toList from by simp [jstep, hyn])
            clear hxn hyn
            go_wp2_with fail
            refine (writeString_any _ _ _ _ _ hbd (by rw [Lib.byteCells_length]; omega) (by have := hbl.size; omega)).mono ?_
            rintro e w3 ⟨rfl, hbd4, hbl4⟩
            go_wp2_with fail
            exact ⟨⟨k + 1, by go_num, by omega, by rw [HJ.out, HE.out]; simpa [Lib.byteCells, Lib.strCells] using hbd4, hbl.trans hbl4⟩, by simp [intOf]; omega⟩
          · have hy1 : (y.toList == [10]) = false := by simp [hyn]
            have hy2 : (y.toList != [10]) = true := by simp [hyn]
            have HE := Lib.hid (show jstep (some y) x = 32 :: x.data.toList from by simp [jstep, hxn, hyn])
            clear hxn hyn
            go_wp2_with fail
            refine (writeByte_any _ _ _ _ _ hbd (by rw [Lib.byteCells_length]; omega) (by have := hbl.size; omega)).mono ?_
            rintro e w2 ⟨rfl, hbd2, hbl2⟩
            have hbd3 : Lib.IsBuilder 112 5 w.heap.size w.heap.size (Lib.byteCells (J ++ [32])) w2 := by simpa [Lib.byteCells] using hbd2
            clear hbd hbd2
            go_wp2_with fail
            refine (writeString_any _ _ _ _ _ hbd3 (by rw [Lib.byteCells_length]; simp; omega) (by have := hbl.size; have := hbl2.size; omega)).mono ?_
            rintro e w3 ⟨rfl, hbd4, hbl4⟩
            go_wp2_with fail
            exact ⟨⟨k + 1, by go_num, by omega, by rw [HJ.out, HE.out]; simpa [Lib.byteCells, Lib.strCells] using hbd4, (hbl.trans hbl2).trans hbl4⟩, by simp [intOf]; omega⟩
      · rw [dif_neg hk0] at HJ
        have hk00 : k ≤ 0 := by omega
        have HE := Lib.hid (show jstep none x = x.data.toList from rfl)
        clear hk0 hc1 hcell hx
        go_wp2_with fail
        refine (writeString_any _ _ _ _ _ hbd (by rw [Lib.byteCells_length]; omega) (by have := hbl.size; omega)).mono ?_
        rintro e w3 ⟨rfl, hbd4, hbl4⟩
        go_wp2_with fail
        exact ⟨⟨k + 1, by go_num, by omega, by rw [HJ.out, HE.out]; simpa [Lib.byteCells, Lib.strCells] using hbd4, hbl.trans hbl4⟩, by simp [intOf]; omega⟩
    · have HK : Hid (k = n) := Nat.le_antisymm hk (by omega)
      go_wp2_with fail
      refine (Tryd.Builder_String_any _ _ _ _ hbd (by have := hbl.size; omega)).mono ?_
      rintro e w2 ⟨rfl, hbl2⟩
      go_wp2_with fail
      go_ret
      refine ⟨ret_str ?_, gb_of_below (hbl.trans hbl2) _⟩
      have hk2 := HK.out
      rw [List.take_of_length_le (by rw [HL.out]; omega)]

set_option maxRecDepth 100000 in
set_option maxHeartbeats 2000000 in
theorem rjoin_any (A : Option Addr) (L : List ByteArray) (n c : Nat) (w : World) (hn : L.length = n) (ht : tot L ≤ 1000000000) (hr : Rd w 0 A (L.map .string)) :
    Calls Tryd.prog 34 #[.slice A n c] w fun e w' => e = .returned (.string ⟨(joinGo none L).toArray⟩) ∧ w.grownBy w' none := by
  have hnt := tot_len L
  have HL := Lib.hid hn
  have hn1 : n ≤ 1000000000 := by omega
  clear hn hnt
  have HR := Lib.hid hr
  clear hr
  have st : Lib.IsBuilder 112 5 w.heap.size w.heap.size (Lib.byteCells (joinGo none (L.take 0))) (w.alloc (.cells #[.pointer none, .slice none 0 0] 112)) := Lib.fresh_isBuilder 112 5 w
  go_enter Tryd.func34, Tryd.ntmps34
  go_wp2_with fail
  go_loopw [8] (fun i wr => ∃ k : Nat, i = .int .i64 k ∧ k ≤ n ∧ Lib.IsBuilder 112 5 w.heap.size w.heap.size (Lib.byteCells (joinGo none (L.take k))) wr ∧ Below w.heap.size w wr) (fun i _ => n - (intOf i).toNat)
  case atStart => exact ⟨0, rfl, by omega, st, (Below.refl _ _).alloc (Nat.le_refl _) _⟩
  case round =>
    obtain ⟨k, rfl, hk, hbd, hbl⟩ := hrel
    clear st
    by_cases hlt : k < n
    · have hkl : k < L.length := by rw [HL.out]; exact hlt
      obtain ⟨b, off, rfl, _, hb, hcell⟩ := HR.out.open_ (by simp; omega)
      have hc1 := hcell k (by simpa using hkl)
      obtain ⟨x, hx⟩ : ∃ x, L[k] = x := ⟨_, rfl⟩
      rw [List.getElem_map, hx] at hc1
      have hc2 : wr.cell? ⟨b, off + k, none⟩ = some (.string x) := by rw [hbl.cell (p := ⟨b, off + k, none⟩) hb]; exact hc1
      have HJ := Lib.hid (joinTo_snoc L k hkl)
      rw [hx] at HJ
      have hJ : (joinGo none (L.take k)).length + x.size + 1 ≤ 1000000000 := by
        have h1 := joinGo_len (L.take k) none
        have h2 := tot_take L (k + 1)
        rw [List.take_succ_eq_append_getElem hkl, hx, tot_app] at h2
        rw [show tot [x] = x.size + 1 from by simp [tot]] at h2
        omega
      generalize joinGo none (L.take k) = J at *
      by_cases hk0 : 0 < k
      · rw [dif_pos hk0] at HJ
        have hp1 := hcell (k - 1) (by simp; omega)
        obtain ⟨y, hy⟩ : ∃ y, L[k - 1]'(by omega) = y := ⟨_, rfl⟩
        rw [List.getElem_map, hy] at hp1
        rw [hy] at HJ
        have hc3 : wr.cell? ⟨b, off + (k - 1), none⟩ = some (.string y) := by rw [hbl.cell (p := ⟨b, off + (k - 1), none⟩) hb]; exact hp1
        have hki : (0 : Int) ≤ (k : Int) - 1 := by omega
        have hki2 : (1 : Int) ≤ (k : Int) := by omega
        clear hp1 hc1 hcell hx hy
        by_cases hxn : x.toList = [10]
        · have hx1 : (x.toList == [10]) = true := by simp [hxn]
          have hx2 : (x.toList != [10]) = false := by simp [hxn]
          have HE := Lib.hid (show jstep (some y) x = x.data.toList from by simp [jstep, hxn])
          clear hxn
          go_wp2_with fail
          refine (writeString_any _ _ _ _ _ hbd (by rw [Lib.byteCells_length]; omega) (by have := hbl.size; omega)).mono ?_
          rintro e w3 ⟨rfl, hbd4, hbl4⟩
          go_wp2_with fail
          exact ⟨⟨k + 1, by go_num, by omega, by rw [HJ.out, HE.out]; simpa [Lib.byteCells, Lib.strCells] using hbd4, hbl.trans hbl4⟩, by simp [intOf]; omega⟩
        · have hx1 : (x.toList == [10]) = false := by simp [hxn]
          have hx2 : (x.toList != [10]) = true := by simp [hxn]
          by_cases hyn : y.toList = [10]
          · have hy1 : (y.toList == [10]) = true := by simp [hyn]
            have hy2 : (y.toList != [10]) = false := by simp [hyn]
            have HE := Lib.hid (show jstep (some y) x = x.data.toList from by simp [jstep, hyn])
            clear hxn hyn
            go_wp2_with fail
            refine (writeString_any _ _ _ _ _ hbd (by rw [Lib.byteCells_length]; omega) (by have := hbl.size; omega)).mono ?_
            rintro e w3 ⟨rfl, hbd4, hbl4⟩
            go_wp2_with fail
            exact ⟨⟨k + 1, by go_num, by omega, by rw [HJ.out, HE.out]; simpa [Lib.byteCells, Lib.strCells] using hbd4, hbl.trans hbl4⟩, by simp [intOf]; omega⟩
          · have hy1 : (y.toList == [10]) = false := by simp [hyn]
            have hy2 : (y.toList != [10]) = true := by simp [hyn]
            have HE := Lib.hid (show jstep (some y) x = 32 :: x.data.toList from by simp [jstep, hxn, hyn])
            clear hxn hyn
            go_wp2_with fail
            refine (writeString_any _ _ _ _ _ hbd (by rw [Lib.byteCells_length]; show _ + 1 ≤ _; omega) (by have := hbl.size; omega)).mono ?_
            rintro e w2 ⟨rfl, hbd2, hbl2⟩
            have hbd3 : Lib.IsBuilder 112 5 w.heap.size w.heap.size (Lib.byteCells (J ++ [32])) w2 := by simpa [Lib.byteCells, Lib.strCells] using hbd2
            clear hbd hbd2
            go_wp2_with fail
            refine (writeString_any _ _ _ _ _ hbd3 (by rw [Lib.byteCells_length]; simp; omega) (by have := hbl.size; have := hbl2.size; omega)).mono ?_
            rintro e w3 ⟨rfl, hbd4, hbl4⟩
            go_wp2_with fail
            exact ⟨⟨k + 1, by go_num, by omega, by rw [HJ.out, HE.out]; simpa [Lib.byteCells, Lib.strCells] using hbd4, (hbl.trans hbl2).trans hbl4⟩, by simp [intOf]; omega⟩
      · rw [dif_neg hk0] at HJ
        have hk00 : k ≤ 0 := by omega
        have HE := Lib.hid (show jstep none x = x.data.toList from rfl)
        clear hk0 hc1 hcell hx
        go_wp2_with fail
        refine (writeString_any _ _ _ _ _ hbd (by rw [Lib.byteCells_length]; omega) (by have := hbl.size; omega)).mono ?_
        rintro e w3 ⟨rfl, hbd4, hbl4⟩
        go_wp2_with fail
        exact ⟨⟨k + 1, by go_num, by omega, by rw [HJ.out, HE.out]; simpa [Lib.byteCells, Lib.strCells] using hbd4, hbl.trans hbl4⟩, by simp [intOf]; omega⟩
    · have HK : Hid (k = n) := Nat.le_antisymm hk (by omega)
      go_wp2_with fail
      refine (Tryd.Builder_String_any _ _ _ _ hbd (by have := hbl.size; omega)).mono ?_
      rintro e w2 ⟨rfl, hbl2⟩
      go_wp2_with fail
      go_ret
      refine ⟨ret_str ?_, gb_of_below (hbl.trans hbl2) _⟩
      have hk2 := HK.out
      rw [List.take_of_length_le (by rw [HL.out]; omega)]

end Go.Proofs.YtpddiepfolfnoaaDoor
