/- Contracts: near.Tokens, the reference's TokensOf; near.Join, the reference's JoinOf. -/
import Derived.Test.YtpddiepfolfnoaaDoorEnv
namespace Go.Proofs.YtpddiepfolfnoaaDoor
open Go.RowKit
set_option linter.unusedVariables false

/-- As Rd; and the row v that a walk appends to lies in another block. -/
def RdS (w : World) (v : Value) (A : Option Addr) (xs : List Value) : Prop :=
  xs ≠ [] → ∃ b off, A = some ⟨b, off, none⟩ ∧ b < w.heap.size ∧ v.ownBlock ≠ some b ∧ ∀ j u, xs[j]? = some u → w.cell? ⟨b, off + j, none⟩ = some u
theorem RdS.at_ {w : World} {v : Value} {A : Option Addr} {xs : List Value} (h : RdS w v A xs) {k : Nat} (hk : k < xs.length) : ∃ b off, A = some ⟨b, off, none⟩ ∧ b < w.heap.size ∧ w.cell? ⟨b, off + k, none⟩ = some xs[k] := by
  obtain ⟨b, off, e, h2, _, h3⟩ := h (by intro e; subst e; simp at hk)
  exact ⟨b, off, e, h2, h3 k _ (List.getElem?_eq_getElem hk)⟩
theorem RdS.pure {w w' : World} {v : Value} {A : Option Addr} {xs : List Value} (h : RdS w v A xs) (hg : w.grownBy w' none) : RdS w' v A xs := fun hx => by
  obtain ⟨b, off, e, h2, h3, h4⟩ := h hx
  exact ⟨b, off, e, Nat.lt_of_lt_of_le h2 hg.size, h3, fun j u hu => by rw [gb_cell hg h2 (by simp)]; exact h4 j u hu⟩
theorem RdS.alloc {w : World} {v : Value} {A : Option Addr} {xs : List Value} (h : RdS w v A xs) (o : Obj) : RdS (w.alloc o) v A xs := h.pure (World.grownBy_alloc w o none)
theorem RdS.of {w : World} {v : Value} {A : Option Addr} {xs : List Value} {lo : Nat} (h : Rd w lo A xs) (hv : ∀ b, v.ownBlock = some b → b < lo) : RdS w v A xs := fun hx => by
  obtain ⟨b, off, e, h1, h2, h3⟩ := h hx
  exact ⟨b, off, e, h2, fun e => by have := hv b e; omega, h3⟩
theorem RdS.low {w : World} {v : Value} {A : Option Addr} {xs : List Value} {lo : Nat} (h : Rd w lo A xs) (w1 : World) (hb : ∀ b off, A = some ⟨b, off, none⟩ → xs ≠ [] → b < w1.heap.size) (hv : ∀ b, v.ownBlock = some b → w1.heap.size ≤ b) : RdS w v A xs := fun hx => by
  obtain ⟨b, off, e, h1, h2, h3⟩ := h hx
  exact ⟨b, off, e, h2, fun e' => by have := hv b e'; have := hb b off e hx; omega, h3⟩
theorem RdS.grow {w w' : World} {v v' : Value} {A : Option Addr} {xs : List Value} (h : RdS w v A xs) (hg : w.grownBy w' v.ownBlock) (hv : v'.ownBlock = v.ownBlock ∨ v'.ownBlock = some w.heap.size) : RdS w' v' A xs := fun hx => by
  obtain ⟨b, off, e, h2, h3, h4⟩ := h hx
  refine ⟨b, off, e, Nat.lt_of_lt_of_le h2 hg.size, ?_, fun j u hu => by rw [gb_cell hg h2 (fun e => h3 e.symm)]; exact h4 j u hu⟩
  rcases hv with hv | hv
  · rw [hv]; exact h3
  · rw [hv]; intro e; injection e; omega
theorem RdS.rd {w : World} {v : Value} {A : Option Addr} {xs : List Value} (h : RdS w v A xs) : Rd w 0 A xs := fun hx => by
  obtain ⟨b, off, e, h2, h3, h4⟩ := h hx
  exact ⟨b, off, e, Nat.zero_le _, h2, h4⟩

theorem app_str2 {ops : Array Oper} {rest : List Oper} {o : Oper} {a : Act} {Q : Exit → Act → World → Prop} {w0 w : World} {row : Option Nat} (hgd : o.guard = none) (s x : Operand)
    (ho : o.op = .call { callee := .builtin .append, args := #[s, x], argTypes := #[26, 26] }) (v : Value) (n : Nat) (xs : List Value) (p : ByteArray)
    (hs : a.eval s = v) (hown : w.ownsRow w0.heap.size 9 1 v n xs) (hx : a.eval x = .slice (some ⟨w.heap.size, 0, none⟩) 1 1) (hn : n ≤ 8000000000000) (hg : w0.grownBy w row)
    (h : ∀ v' w', w'.ownsRow w0.heap.size 9 1 v' (n + 1) (xs ++ [.string p]) → w0.grownBy w' row → (∀ A ys, RdS w v A ys → RdS w' v' A ys) → wpList Tryd.prog ops Q rest (a.put o.dst v') w') :
    wpList Tryd.prog ops Q (o :: rest) a (w.alloc (.cells #[.string p] 9)) := by
  obtain ⟨i0, hi, hz0, hz1, hz2⟩ := info_parts info_string
  refine wpList_append_own_at _ hgd s x 26 ho w0.heap.size 9 i0 _ 1 16 Tryd.underlying26 hi hz0 hz1 hz2 rfl (by decide) v n xs hs (hown.alloc _) ⟨w.heap.size, 0, none⟩ 1 1 [.string p] hx rfl
    (cell_one_new _ _ _) (by intro u hu; simp at hu; subst hu; rfl) (by unfold maxLen; omega) (by omega) (by have := hg.size; simp; omega) ?_
  intro v' w' h1 h2 _ h4
  exact h v' w' h1 (gb_new (gb_alloc hg _) h2 (fun b hb => (hown.lt b hb).1)) (fun A ys hr => (hr.alloc _).grow h2 h4)

theorem pieces_len (s : ByteArray) (c : UInt8) : (pieces s c).length = Lib.countB s ⟨#[c]⟩ + 1 := Lib.splitB_all ⟨#[c]⟩ (Nat.le_refl 1) 0 _ s rfl
theorem pieces_le (s : ByteArray) (c : UInt8) : (pieces s c).length ≤ s.size + 1 := by
  rw [pieces_len]
  have := Lib.countB_le ⟨#[c]⟩ (Nat.le_refl 1) s.size s (Nat.le_refl _)
  omega
theorem pieces_sz (s : ByteArray) (c : UInt8) : ∀ x ∈ pieces s c, x.size ≤ s.size := (splitB_sizes ⟨#[c]⟩ _ s).2

theorem split_any {lo : Nat} (s : ByteArray) (c : UInt8) (w : World) (he : Env lo w) (hs : s.size ≤ 1000000000) : Calls Tryd.prog 97 #[.string s, .string ⟨#[c]⟩] w fun e w' =>
    ∃ A cp, e = .returned (.slice A (pieces s c).length cp) ∧ (pieces s c).length ≤ cp ∧ Rd w' w.heap.size A ((pieces s c).map .string) ∧ w.grownBy w' none := by
  obtain ⟨_, m, hm⟩ := he.maxLen
  refine (Tryd.strings_Split s ⟨#[c]⟩ m w (by omega) hm (Nat.le_refl 1)).mono ?_
  rintro e w' ⟨rfl, rfl⟩
  rw [pieces_len]
  exact ⟨_, _, rfl, Nat.le_refl _, Rd.new' w _ _ (Nat.le_refl _), gb_alloc (gb_refl _ _) _⟩

def nl : ByteArray := ⟨#[10]⟩
def tokLine (x : ByteArray) : List ByteArray := (pieces x 32).filter fun p => !p.data.toList.isEmpty
def tokGo (i : Nat) : List ByteArray → List ByteArray
  | [] => []
  | x :: r => (if i = 0 then [] else [nl]) ++ (tokLine x ++ tokGo (i + 1) r)
def tokens (s : ByteArray) : List ByteArray := tokGo 0 (pieces s 10)
theorem tokGo_snoc (l : List ByteArray) (x : ByteArray) : ∀ i, tokGo i (l ++ [x]) = tokGo i l ++ ((if i + l.length = 0 then [] else [nl]) ++ tokLine x) := by
  induction l with
  | nil => intro i; simp [tokGo]
  | cons y r ih =>
    intro i
    simp only [List.cons_append, tokGo, ih (i + 1), List.length_cons]
    rw [show i + 1 + r.length = i + (r.length + 1) from by omega]
    simp
theorem tokLine_le (x : ByteArray) : (tokLine x).length ≤ x.size + 1 := Nat.le_trans (List.length_filter_le _ _) (pieces_le x 32)
theorem tokGo_le (N : Nat) : ∀ (l : List ByteArray) (i : Nat), (∀ x ∈ l, x.size ≤ N) → (tokGo i l).length ≤ l.length * (N + 2) := by
  intro l
  induction l with
  | nil => intro i _; simp [tokGo]
  | cons y r ih =>
    intro i h
    have h1 := tokLine_le y
    have h2 := h y (by simp)
    have h3 := ih (i + 1) (fun x hx => h x (by simp [hx]))
    simp only [tokGo, List.length_append, List.length_cons]
    rw [Nat.add_mul, Nat.one_mul]
    split <;> simp <;> omega
theorem tokens_le (s : ByteArray) : (tokens s).length ≤ (s.size + 1) * (s.size + 2) := by
  have h1 := tokGo_le s.size (pieces s 10) 0 (pieces_sz s 10)
  exact Nat.le_trans h1 (Nat.mul_le_mul_right _ (pieces_le s 10))

set_option maxRecDepth 100000 in
set_option maxHeartbeats 2000000 in
theorem tokens_any {lo : Nat} (s : ByteArray) (w : World) (he : Env lo w) (hs : s.size ≤ 1048576) : Calls Tryd.prog 29 #[.string s] w fun e w' =>
    ∃ A c, e = .returned (.slice A (tokens s).length c) ∧ (tokens s).length ≤ c ∧ Rd w' w.heap.size A ((tokens s).map .string) ∧ w.grownBy w' none := by
  go_enter Tryd.func29, Tryd.ntmps29
  go_wp2_with fail
  refine (split_any s 10 _ he (by omega)).mono ?_
  rintro e w1 ⟨A, cp, rfl, hcp, hr1, hg1⟩
  have hL := pieces_le s 10
  have hLs := Lib.hid (pieces_sz s 10)
  have HT : Hid (tokens s = tokGo 0 (pieces s 10)) := rfl
  generalize pieces s 10 = L at *
  go_wp2_with fail
  go_loopw [3, 11] (fun l i wr => ∃ k : Nat, i = .int .i64 k ∧ k ≤ L.length ∧ wr.ownsRow w1.heap.size 9 1 l (tokGo 0 (L.take k)).length ((tokGo 0 (L.take k)).map .string) ∧ w1.grownBy wr none) (fun _ i _ => L.length - (intOf i).toNat)
  case atStart => exact ⟨0, rfl, by omega, World.ownsRow_nil _ _ _ _, gb_refl _ _⟩
  case round =>
    obtain ⟨k, rfl, hk, hown, hg⟩ := hrel
    by_cases hlt : k < L.length
    · obtain ⟨b, off, rfl, hlo, hb, hcell⟩ := (hr1.pure hg).at_ (k := k) (by simpa using hlt)
      obtain ⟨x, hx⟩ : ∃ x, L[k] = x := ⟨_, rfl⟩
      rw [List.getElem_map, hx] at hcell
      have hxs : x.size ≤ s.size := hLs.out x (by rw [← hx]; exact List.getElem_mem _)
      have hn0 : tokGo 0 (L.take (k + 1)) = tokGo 0 (L.take k) ++ ((if k = 0 then [] else [nl]) ++ tokLine x) := by
        have hl : (L.take k).length = k := by rw [List.length_take]; omega
        rw [List.take_succ_eq_append_getElem hlt, hx, tokGo_snoc, hl, Nat.zero_add]
      have HN := Lib.hid hn0
      clear hx hn0
      have hTl : (tokGo 0 (L.take k)).length ≤ 1048577 * 1048578 := by
        have h1 := tokGo_le s.size (L.take k) 0 (fun y hy => hLs.out y (List.mem_of_mem_take hy))
        rw [List.length_take, Nat.min_eq_left (by omega)] at h1
        exact Nat.le_trans h1 (Nat.mul_le_mul (by omega) (by omega))
      have hsx : x.size ≤ 1048576 := by omega
      generalize tokGo 0 (L.take k) = T at *
      clear hr1
      by_cases hk0 : k = 0
      · have HN2 := Lib.hid (show tokGo 0 (L.take (k + 1)) = T ++ tokLine x from by rw [HN.out, if_pos hk0]; rfl)
        have hk00 : k ≤ 0 := by omega
        clear hk0
        go_wp2_with fail
        refine (split_any x 32 _ (((he.pure hg1).pure hg) : Env lo wr) (by omega)).mono ?_
        rintro e w4 ⟨A4, cp4, rfl, hcp4, hr4, hg4⟩
        have hP := pieces_le x 32
        have HTL : Hid (tokLine x = (pieces x 32).filter fun p => !p.data.toList.isEmpty) := rfl
        generalize pieces x 32 = Ps at *
        have hown4 := hown.kept hg4 (by cases (u3).ownBlock <;> simp)
        have hsep4 : RdS w4 u3 A4 (Ps.map .string) := RdS.of hr4 (fun b hb => (hown.lt b hb).2)
        have hg5 : w1.grownBy w4 none := gb_new hg hg4 (by simp)
        clear hr4
        go_wp2_with fail
        go_loopw [3, 24] (fun l i wr => ∃ j : Nat, i = .int .i64 j ∧ j ≤ Ps.length ∧ wr.ownsRow w1.heap.size 9 1 l (T ++ (Ps.take j).filter fun p => !p.data.toList.isEmpty).length ((T ++ (Ps.take j).filter fun p => !p.data.toList.isEmpty).map .string) ∧ RdS wr l A4 (Ps.map .string) ∧ w1.grownBy wr none) (fun _ i _ => Ps.length - (intOf i).toNat)
        case atStart => exact ⟨0, rfl, by omega, by simpa using hown4, hsep4, hg5⟩
        case round =>
          obtain ⟨j, rfl, hj, hownj, hsj, hgj⟩ := hrel
          by_cases hlj : j < Ps.length
          · obtain ⟨b2, off2, rfl, hb2, hcell2⟩ := hsj.at_ (k := j) (by simpa using hlj)
            obtain ⟨y, hy⟩ : ∃ y, Ps[j] = y := ⟨_, rfl⟩
            rw [List.getElem_map, hy] at hcell2
            have hfl : ((Ps.take j).filter fun p => !p.data.toList.isEmpty).length ≤ j := Nat.le_trans (List.length_filter_le _ _) (by simp; omega)
            cases hye : y.data.toList.isEmpty with
            | true =>
              have hj0 : (Ps.take (j + 1)).filter (fun p => !p.data.toList.isEmpty) = (Ps.take j).filter fun p => !p.data.toList.isEmpty := by
                rw [List.take_succ_eq_append_getElem hlj, hy, List.filter_append]; simpa using hye
              have HJ := Lib.hid hj0
              clear hj0
              clear hy
              have hy1 : y.toList = [] := by rw [ByteArray.toList_eq]; simpa using hye
              clear hye
              go_wp2_with fail
              exact ⟨⟨j + 1, by go_num, by omega, by rw [HJ.out]; exact hownj, hsj, hgj⟩, by simp [intOf]; omega⟩
            | false =>
              have hj0 : (Ps.take (j + 1)).filter (fun p => !p.data.toList.isEmpty) = ((Ps.take j).filter fun p => !p.data.toList.isEmpty) ++ [y] := by
                rw [List.take_succ_eq_append_getElem hlj, hy, List.filter_append, List.filter_cons_of_pos (by rw [hye]; rfl)]; rfl
              have HJ := Lib.hid hj0
              clear hj0
              clear hy
              have hy1 : y.toList.isEmpty = false := by rw [ByteArray.toList_eq]; exact hye
              have hy2 : ¬ y.toList = [] := by intro e; rw [e] at hy1; cases hy1
              clear hye
              generalize (Ps.take j).filter (fun p => !p.data.toList.isEmpty) = F at *
              have hb6 : (T ++ F).length ≤ 8000000000000 := by simp; omega
              go_wp2_with (at_builtin; go_must (refine app_str2 rfl _ _ rfl _ _ _ _ rfl hownj rfl hb6 hgj ?_); intro v6 w6 hown6 hg6 hs6)
              exact ⟨⟨j + 1, by go_num, by omega, by rw [HJ.out]; simpa [Nat.add_assoc] using hown6, hs6 _ _ hsj, hg6⟩, by simp [intOf]; omega⟩
          · have HJ : Hid (j = Ps.length) := Nat.le_antisymm hj (by omega)
            go_wp2_with fail
            refine ⟨⟨k + 1, by go_num, by omega, ?_, hgj⟩, by simp [intOf]; omega⟩
            rw [HN2.out, HTL.out]
            have hj2 := HJ.out
            subst hj2
            rw [List.take_of_length_le (Nat.le_refl _)] at hownj
            exact hownj

      · have HN2 := Lib.hid (show tokGo 0 (L.take (k + 1)) = (T ++ [nl]) ++ tokLine x from by rw [HN.out, if_neg hk0, List.append_assoc])
        have hkp : (0 : Int) < (k : Int) := by omega
        clear hk0
        go_wp2_with (at_builtin; refine app_str2 rfl _ _ rfl _ _ _ _ rfl hown rfl (by omega) hg ?_; intro v' w2 hown2 hg2 _)
        have hown3 : w2.ownsRow w1.heap.size 9 1 v' (T ++ [nl]).length ((T ++ [nl]).map .string) := by simpa [nl] using hown2
        clear hown2
        refine (split_any x 32 _ (((he.pure hg1).pure hg2) : Env lo w2) (by omega)).mono ?_
        rintro e w4 ⟨A4, cp4, rfl, hcp4, hr4, hg4⟩
        have hP := pieces_le x 32
        have HTL : Hid (tokLine x = (pieces x 32).filter fun p => !p.data.toList.isEmpty) := rfl
        generalize pieces x 32 = Ps at *
        have hown4 := hown3.kept hg4 (by cases (v').ownBlock <;> simp)
        have hsep4 : RdS w4 v' A4 (Ps.map .string) := RdS.of hr4 (fun b hb => (hown3.lt b hb).2)
        have hg5 : w1.grownBy w4 none := gb_new hg2 hg4 (by simp)
        clear hr4
        go_wp2_with fail
        go_loopw [3, 24] (fun l i wr => ∃ j : Nat, i = .int .i64 j ∧ j ≤ Ps.length ∧ wr.ownsRow w1.heap.size 9 1 l ((T ++ [nl]) ++ (Ps.take j).filter fun p => !p.data.toList.isEmpty).length (((T ++ [nl]) ++ (Ps.take j).filter fun p => !p.data.toList.isEmpty).map .string) ∧ RdS wr l A4 (Ps.map .string) ∧ w1.grownBy wr none) (fun _ i _ => Ps.length - (intOf i).toNat)
        case atStart => exact ⟨0, rfl, by omega, by simpa using hown4, hsep4, hg5⟩
        case round =>
          obtain ⟨j, rfl, hj, hownj, hsj, hgj⟩ := hrel
          by_cases hlj : j < Ps.length
          · obtain ⟨b2, off2, rfl, hb2, hcell2⟩ := hsj.at_ (k := j) (by simpa using hlj)
            obtain ⟨y, hy⟩ : ∃ y, Ps[j] = y := ⟨_, rfl⟩
            rw [List.getElem_map, hy] at hcell2
            have hfl : ((Ps.take j).filter fun p => !p.data.toList.isEmpty).length ≤ j := Nat.le_trans (List.length_filter_le _ _) (by simp; omega)
            cases hye : y.data.toList.isEmpty with
            | true =>
              have hj0 : (Ps.take (j + 1)).filter (fun p => !p.data.toList.isEmpty) = (Ps.take j).filter fun p => !p.data.toList.isEmpty := by
                rw [List.take_succ_eq_append_getElem hlj, hy, List.filter_append]; simpa using hye
              have HJ := Lib.hid hj0
              clear hj0
              clear hy
              have hy1 : y.toList = [] := by rw [ByteArray.toList_eq]; simpa using hye
              clear hye
              go_wp2_with fail
              exact ⟨⟨j + 1, by go_num, by omega, by rw [HJ.out]; exact hownj, hsj, hgj⟩, by simp [intOf]; omega⟩
            | false =>
              have hj0 : (Ps.take (j + 1)).filter (fun p => !p.data.toList.isEmpty) = ((Ps.take j).filter fun p => !p.data.toList.isEmpty) ++ [y] := by
                rw [List.take_succ_eq_append_getElem hlj, hy, List.filter_append, List.filter_cons_of_pos (by rw [hye]; rfl)]; rfl
              have HJ := Lib.hid hj0
              clear hj0
              clear hy
              have hy1 : y.toList.isEmpty = false := by rw [ByteArray.toList_eq]; exact hye
              have hy2 : ¬ y.toList = [] := by intro e; rw [e] at hy1; cases hy1
              clear hye
              generalize (Ps.take j).filter (fun p => !p.data.toList.isEmpty) = F at *
              have hb6 : ((T ++ [nl]) ++ F).length ≤ 8000000000000 := by simp; omega
              go_wp2_with (at_builtin; go_must (refine app_str2 rfl _ _ rfl _ _ _ _ rfl hownj rfl hb6 hgj ?_); intro v6 w6 hown6 hg6 hs6)
              exact ⟨⟨j + 1, by go_num, by omega, by rw [HJ.out]; simpa [Nat.add_assoc] using hown6, hs6 _ _ hsj, hg6⟩, by simp [intOf]; omega⟩
          · have HJ : Hid (j = Ps.length) := Nat.le_antisymm hj (by omega)
            go_wp2_with fail
            refine ⟨⟨k + 1, by go_num, by omega, ?_, hgj⟩, by simp [intOf]; omega⟩
            rw [HN2.out, HTL.out]
            have hj2 := HJ.out
            subst hj2
            rw [List.take_of_length_le (Nat.le_refl _)] at hownj
            exact hownj

    · have HK : Hid (k = L.length) := Nat.le_antisymm hk (by omega)
      go_wp2_with fail
      go_ret
      have hk2 := HK.out
      subst hk2
      rw [List.take_of_length_le (Nat.le_refl _), ← HT.out] at hown
      obtain ⟨A2, c2, rfl, hc2, hr2⟩ := own_slice hown
      exact ⟨A2, c2, rfl, hc2, hr2.lower hg1.size, hg1.trans hg⟩

set_option maxRecDepth 100000 in
set_option maxHeartbeats 2000000 in
theorem rtokens_any {lo : Nat} (s : ByteArray) (w : World) (he : Env lo w) (hs : s.size ≤ 1048576) : Calls Tryd.prog 32 #[.string s] w fun e w' =>
    ∃ A c, e = .returned (.slice A (tokens s).length c) ∧ (tokens s).length ≤ c ∧ Rd w' w.heap.size A ((tokens s).map .string) ∧ w.grownBy w' none := by
  go_enter Tryd.func32, Tryd.ntmps32
  go_wp2_with fail
  refine (split_any s 10 _ he (by omega)).mono ?_
  rintro e w1 ⟨A, cp, rfl, hcp, hr1, hg1⟩
  have hL := pieces_le s 10
  have hLs := Lib.hid (pieces_sz s 10)
  have HT : Hid (tokens s = tokGo 0 (pieces s 10)) := rfl
  generalize pieces s 10 = L at *
  go_wp2_with fail
  go_loopw [3, 11] (fun l i wr => ∃ k : Nat, i = .int .i64 k ∧ k ≤ L.length ∧ wr.ownsRow w1.heap.size 9 1 l (tokGo 0 (L.take k)).length ((tokGo 0 (L.take k)).map .string) ∧ w1.grownBy wr none) (fun _ i _ => L.length - (intOf i).toNat)
  case atStart => exact ⟨0, rfl, by omega, World.ownsRow_nil _ _ _ _, gb_refl _ _⟩
  case round =>
    obtain ⟨k, rfl, hk, hown, hg⟩ := hrel
    by_cases hlt : k < L.length
    · obtain ⟨b, off, rfl, hlo, hb, hcell⟩ := (hr1.pure hg).at_ (k := k) (by simpa using hlt)
      obtain ⟨x, hx⟩ : ∃ x, L[k] = x := ⟨_, rfl⟩
      rw [List.getElem_map, hx] at hcell
      have hxs : x.size ≤ s.size := hLs.out x (by rw [← hx]; exact List.getElem_mem _)
      have hn0 : tokGo 0 (L.take (k + 1)) = tokGo 0 (L.take k) ++ ((if k = 0 then [] else [nl]) ++ tokLine x) := by
        have hl : (L.take k).length = k := by rw [List.length_take]; omega
        rw [List.take_succ_eq_append_getElem hlt, hx, tokGo_snoc, hl, Nat.zero_add]
      have HN := Lib.hid hn0
      clear hx hn0
      have hTl : (tokGo 0 (L.take k)).length ≤ 1048577 * 1048578 := by
        have h1 := tokGo_le s.size (L.take k) 0 (fun y hy => hLs.out y (List.mem_of_mem_take hy))
        rw [List.length_take, Nat.min_eq_left (by omega)] at h1
        exact Nat.le_trans h1 (Nat.mul_le_mul (by omega) (by omega))
      have hsx : x.size ≤ 1048576 := by omega
      generalize tokGo 0 (L.take k) = T at *
      clear hr1
      by_cases hk0 : k = 0
      · have HN2 := Lib.hid (show tokGo 0 (L.take (k + 1)) = T ++ tokLine x from by rw [HN.out, if_pos hk0]; rfl)
        have hk00 : k ≤ 0 := by omega
        clear hk0
        go_wp2_with fail
        refine (split_any x 32 _ (((he.pure hg1).pure hg) : Env lo wr) (by omega)).mono ?_
        rintro e w4 ⟨A4, cp4, rfl, hcp4, hr4, hg4⟩
        have hP := pieces_le x 32
        have HTL : Hid (tokLine x = (pieces x 32).filter fun p => !p.data.toList.isEmpty) := rfl
        generalize pieces x 32 = Ps at *
        have hown4 := hown.kept hg4 (by cases (u3).ownBlock <;> simp)
        have hsep4 : RdS w4 u3 A4 (Ps.map .string) := RdS.of hr4 (fun b hb => (hown.lt b hb).2)
        have hg5 : w1.grownBy w4 none := gb_new hg hg4 (by simp)
        clear hr4
        go_wp2_with fail
        go_loopw [3, 24] (fun l i wr => ∃ j : Nat, i = .int .i64 j ∧ j ≤ Ps.length ∧ wr.ownsRow w1.heap.size 9 1 l (T ++ (Ps.take j).filter fun p => !p.data.toList.isEmpty).length ((T ++ (Ps.take j).filter fun p => !p.data.toList.isEmpty).map .string) ∧ RdS wr l A4 (Ps.map .string) ∧ w1.grownBy wr none) (fun _ i _ => Ps.length - (intOf i).toNat)
        case atStart => exact ⟨0, rfl, by omega, by simpa using hown4, hsep4, hg5⟩
        case round =>
          obtain ⟨j, rfl, hj, hownj, hsj, hgj⟩ := hrel
          by_cases hlj : j < Ps.length
          · obtain ⟨b2, off2, rfl, hb2, hcell2⟩ := hsj.at_ (k := j) (by simpa using hlj)
            obtain ⟨y, hy⟩ : ∃ y, Ps[j] = y := ⟨_, rfl⟩
            rw [List.getElem_map, hy] at hcell2
            have hfl : ((Ps.take j).filter fun p => !p.data.toList.isEmpty).length ≤ j := Nat.le_trans (List.length_filter_le _ _) (by simp; omega)
            cases hye : y.data.toList.isEmpty with
            | true =>
              have hj0 : (Ps.take (j + 1)).filter (fun p => !p.data.toList.isEmpty) = (Ps.take j).filter fun p => !p.data.toList.isEmpty := by
                rw [List.take_succ_eq_append_getElem hlj, hy, List.filter_append]; simpa using hye
              have HJ := Lib.hid hj0
              clear hj0
              clear hy
              have hy1 : y.toList = [] := by rw [ByteArray.toList_eq]; simpa using hye
              clear hye
              go_wp2_with fail
              exact ⟨⟨j + 1, by go_num, by omega, by rw [HJ.out]; exact hownj, hsj, hgj⟩, by simp [intOf]; omega⟩
            | false =>
              have hj0 : (Ps.take (j + 1)).filter (fun p => !p.data.toList.isEmpty) = ((Ps.take j).filter fun p => !p.data.toList.isEmpty) ++ [y] := by
                rw [List.take_succ_eq_append_getElem hlj, hy, List.filter_append, List.filter_cons_of_pos (by rw [hye]; rfl)]; rfl
              have HJ := Lib.hid hj0
              clear hj0
              clear hy
              have hy1 : y.toList.isEmpty = false := by rw [ByteArray.toList_eq]; exact hye
              have hy2 : ¬ y.toList = [] := by intro e; rw [e] at hy1; cases hy1
              clear hye
              generalize (Ps.take j).filter (fun p => !p.data.toList.isEmpty) = F at *
              have hb6 : (T ++ F).length ≤ 8000000000000 := by simp; omega
              go_wp2_with (at_builtin; go_must (refine app_str2 rfl _ _ rfl _ _ _ _ rfl hownj rfl hb6 hgj ?_); intro v6 w6 hown6 hg6 hs6)
              exact ⟨⟨j + 1, by go_num, by omega, by rw [HJ.out]; simpa [Nat.add_assoc] using hown6, hs6 _ _ hsj, hg6⟩, by simp [intOf]; omega⟩
          · have HJ : Hid (j = Ps.length) := Nat.le_antisymm hj (by omega)
            go_wp2_with fail
            refine ⟨⟨k + 1, by go_num, by omega, ?_, hgj⟩, by simp [intOf]; omega⟩
            rw [HN2.out, HTL.out]
            have hj2 := HJ.out
            subst hj2
            rw [List.take_of_length_le (Nat.le_refl _)] at hownj
            exact hownj

      · have HN2 := Lib.hid (show tokGo 0 (L.take (k + 1)) = (T ++ [nl]) ++ tokLine x from by rw [HN.out, if_neg hk0, List.append_assoc])
        have hkp : (0 : Int) < (k : Int) := by omega
        clear hk0
        go_wp2_with (at_builtin; refine app_str2 rfl _ _ rfl _ _ _ _ rfl hown rfl (by omega) hg ?_; intro v' w2 hown2 hg2 _)
        have hown3 : w2.ownsRow w1.heap.size 9 1 v' (T ++ [nl]).length ((T ++ [nl]).map .string) := by simpa [nl] using hown2
        clear hown2
        refine (split_any x 32 _ (((he.pure hg1).pure hg2) : Env lo w2) (by omega)).mono ?_
        rintro e w4 ⟨A4, cp4, rfl, hcp4, hr4, hg4⟩
        have hP := pieces_le x 32
        have HTL : Hid (tokLine x = (pieces x 32).filter fun p => !p.data.toList.isEmpty) := rfl
        generalize pieces x 32 = Ps at *
        have hown4 := hown3.kept hg4 (by cases (v').ownBlock <;> simp)
        have hsep4 : RdS w4 v' A4 (Ps.map .string) := RdS.of hr4 (fun b hb => (hown3.lt b hb).2)
        have hg5 : w1.grownBy w4 none := gb_new hg2 hg4 (by simp)
        clear hr4
        go_wp2_with fail
        go_loopw [3, 24] (fun l i wr => ∃ j : Nat, i = .int .i64 j ∧ j ≤ Ps.length ∧ wr.ownsRow w1.heap.size 9 1 l ((T ++ [nl]) ++ (Ps.take j).filter fun p => !p.data.toList.isEmpty).length (((T ++ [nl]) ++ (Ps.take j).filter fun p => !p.data.toList.isEmpty).map .string) ∧ RdS wr l A4 (Ps.map .string) ∧ w1.grownBy wr none) (fun _ i _ => Ps.length - (intOf i).toNat)
        case atStart => exact ⟨0, rfl, by omega, by simpa using hown4, hsep4, hg5⟩
        case round =>
          obtain ⟨j, rfl, hj, hownj, hsj, hgj⟩ := hrel
          by_cases hlj : j < Ps.length
          · obtain ⟨b2, off2, rfl, hb2, hcell2⟩ := hsj.at_ (k := j) (by simpa using hlj)
            obtain ⟨y, hy⟩ : ∃ y, Ps[j] = y := ⟨_, rfl⟩
            rw [List.getElem_map, hy] at hcell2
            have hfl : ((Ps.take j).filter fun p => !p.data.toList.isEmpty).length ≤ j := Nat.le_trans (List.length_filter_le _ _) (by simp; omega)
            cases hye : y.data.toList.isEmpty with
            | true =>
              have hj0 : (Ps.take (j + 1)).filter (fun p => !p.data.toList.isEmpty) = (Ps.take j).filter fun p => !p.data.toList.isEmpty := by
                rw [List.take_succ_eq_append_getElem hlj, hy, List.filter_append]; simpa using hye
              have HJ := Lib.hid hj0
              clear hj0
              clear hy
              have hy1 : y.toList = [] := by rw [ByteArray.toList_eq]; simpa using hye
              clear hye
              go_wp2_with fail
              exact ⟨⟨j + 1, by go_num, by omega, by rw [HJ.out]; exact hownj, hsj, hgj⟩, by simp [intOf]; omega⟩
            | false =>
              have hj0 : (Ps.take (j + 1)).filter (fun p => !p.data.toList.isEmpty) = ((Ps.take j).filter fun p => !p.data.toList.isEmpty) ++ [y] := by
                rw [List.take_succ_eq_append_getElem hlj, hy, List.filter_append, List.filter_cons_of_pos (by rw [hye]; rfl)]; rfl
              have HJ := Lib.hid hj0
              clear hj0
              clear hy
              have hy1 : y.toList.isEmpty = false := by rw [ByteArray.toList_eq]; exact hye
              have hy2 : ¬ y.toList = [] := by intro e; rw [e] at hy1; cases hy1
              clear hye
              generalize (Ps.take j).filter (fun p => !p.data.toList.isEmpty) = F at *
              have hb6 : ((T ++ [nl]) ++ F).length ≤ 8000000000000 := by simp; omega
              go_wp2_with (at_builtin; go_must (refine app_str2 rfl _ _ rfl _ _ _ _ rfl hownj rfl hb6 hgj ?_); intro v6 w6 hown6 hg6 hs6)
              exact ⟨⟨j + 1, by go_num, by omega, by rw [HJ.out]; simpa [Nat.add_assoc] using hown6, hs6 _ _ hsj, hg6⟩, by simp [intOf]; omega⟩
          · have HJ : Hid (j = Ps.length) := Nat.le_antisymm hj (by omega)
            go_wp2_with fail
            refine ⟨⟨k + 1, by go_num, by omega, ?_, hgj⟩, by simp [intOf]; omega⟩
            rw [HN2.out, HTL.out]
            have hj2 := HJ.out
            subst hj2
            rw [List.take_of_length_le (Nat.le_refl _)] at hownj
            exact hownj

    · have HK : Hid (k = L.length) := Nat.le_antisymm hk (by omega)
      go_wp2_with fail
      go_ret
      have hk2 := HK.out
      subst hk2
      rw [List.take_of_length_le (Nat.le_refl _), ← HT.out] at hown
      obtain ⟨A2, c2, rfl, hc2, hr2⟩ := own_slice hown
      exact ⟨A2, c2, rfl, hc2, hr2.lower hg1.size, hg1.trans hg⟩

end Go.Proofs.YtpddiepfolfnoaaDoor
