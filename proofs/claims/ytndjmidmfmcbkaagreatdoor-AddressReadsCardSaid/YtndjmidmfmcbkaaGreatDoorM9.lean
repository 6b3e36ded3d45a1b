
/- Own texts, put together: L4 L5 K4 K5 K6 L6. -/
import Derived.Test.YtndjmidmfmcbkaaGreatDoorM8
import Derived.Test.YtndjmidmfmcbkaaGreatDoorM3
import Derived.Test.YtndjmidmfmcbkaaGreatDoorM7
import Derived.Test.YtndjmidmfmcbkaaGreatDoorM6
/- Addresses, several: what stands between commas, on both sides. -/
namespace Go.Proofs.YtndjmidmfmcbkaaGreatDoor
open Go.Shelf Go.RowKit Go.Lib Go.Sort
set_option linter.unusedVariables false
set_option linter.unusedSimpArgs false
set_option linter.defProp false

section
variable {E : Envt} {L : Objs} {k : Key} {fr : List AV} {d : Option Nat} {is : List IOper} {Y : List PV} {K : List AV → Objs → Prop}
/-- The same, for elements of a kind: some elements of an owned row are struck out: what is left is plain, the row is gone. -/
theorem useDelG {α : Type} [Inhabited α] (v : α → List UInt8) (i : Nat) (l : List α) (zr : α) (hzr : v zr = []) (g : FuncId) (p : α → Bool) (hl : l ≠ []) (hlen : l.length ≤ 1000000000) (hlk : Zar L k = some (.row (strE (l.map v)) tStr 1 true)) (hfn : fnB Tryz.prog g = true) (hg : ∀ x w, Calls Tryz.prog g #[sE (v x)] w fun e w' => e = .returned (.bool (p x)) ∧ ∃ q, w' = w.drewN q)
    (hk : awpOps Tryz.prog E Y is (Zf (fr.map (·.kill (.l i))) d (.p (strs ((l.filter fun x => !p x).map v)))) (delO L k) K) : CallOp Tryz.prog E 92 [.row k, .fn g []] L d fr (contO Tryz.prog E Y is K) := by
  refine .inr (.inr ⟨i, ?_⟩)
  intro w X ι vs hs hX hE hEb hA
  simp only [ARepL, ARep] at hA
  obtain ⟨v1, r1, rfl, ⟨rfl, A, n, c, hv⟩, v2, r2, rfl, rfl, rfl⟩ := hA
  obtain ⟨us, u1, u2, u3, u4⟩ := hs.obj k _ hlk
  rw [strE_vals, List.map_map] at u3
  subst u3
  have hown := u1.owns
  rw [strE_len, List.length_map] at hown
  have hne : ι k ≠ .slice none 0 0 := by
    intro e
    rcases hown.2 with ⟨_, h0⟩ | ⟨q, cap, cur, h1, _⟩
    · exact hl (List.eq_nil_of_length_eq_zero h0)
    · rw [e] at h1; cases h1
  obtain ⟨b, cap, hvb, _, hlt, hnc, hcm, _, hH⟩ := Lib.holds_of_ownsRow (enc := sE ∘ v) hown hne
  rw [hvb] at hown
  have hOb : Own L ι b := ⟨k, _, hlk, by rw [hvb]; rfl⟩
  have hgv : ∀ (W : World) (x : α), FnGives Tryz.prog g #[] #[sE (v x)] (.bool (p x)) W := fun W x => hg x W
  have hcall := AnyE.slices_DeleteFunc Tryz.layDelStr (sE ∘ v) (fun _ => rfl) p g #[] (fun args w => run_enter hfn args w) zr (by show ∀ w, _ = Result.ok (sE (v zr)) w; rw [hzr]; exact (zero_of_info str_zero).1) b 0 cap l.toArray w (fun W x _ => hgv W x) (fun _ _ _ x _ => hgv _ x) hH (by simp; omega) (by simpa using hnc)
  simp only [List.size_toArray, List.toList_toArray] at hcall
  rw [hvb]
  refine hcall.mono ?_
  rintro e w' ⟨rfl, q, rfl⟩
  have hle : (l.filter fun x => !p x).length ≤ l.length := List.length_filter_le _ _
  have hown2 := Lib.ownsRow_putRow (q := q) (k := (l.filter fun x => !p x).length) (ys := (l.filter fun x => !p x) ++ List.replicate (l.length - (l.filter fun x => !p x).length) zr) hown (by simp; omega) hle
  rw [List.take_left' rfl] at hown2
  generalize hW : putRow (sE ∘ v) (Sort.ahead w q) b 0 ((l.filter fun x => !p x) ++ List.replicate (l.length - (l.filter fun x => !p x).length) zr).toArray = w1 at hown2 ⊢
  have hG : Grow w w1 (fun x => x = b) := by
    rw [← hW]
    refine ⟨rfl, rfl, rfl, by simp [putRow, mapBlock, Sort.ahead], fun x hx hn => ?_⟩
    simp [putRow, mapBlock, Sort.ahead, Array.getElem?_modify, show b ≠ x from fun e => hn e.symm]
  have hsub : ∀ j a, Zar (delO L k) j = some a → j ≠ k ∧ Zar L j = some a := by
    intro j a hj
    rw [look_delO] at hj
    by_cases e : j = k
    · rw [if_pos e] at hj; cases hj
    · rw [if_neg e] at hj; exact ⟨e, hj⟩
  have hown3 : ∀ x, Own (delO L k) ι x → Own L ι x := fun x ⟨j, a, h1, h2⟩ => ⟨j, a, (hsub j a h1).2, h2⟩
  have hnb : ¬ (Own (delO L k) ι b ∨ X b) := by
    rintro (⟨j, a, h1, h2⟩ | h)
    · obtain ⟨e, h3⟩ := hsub j a h1
      exact e (hs.inj j k a _ b h3 hlk h2 (by rw [hvb]; rfl))
    · exact (hX b h).2 hOb
  have hgrow : Grow w w1 (Own L ι) := ⟨hG.os, hG.tape, hG.output, hG.size, fun x hx hn => hG.block x hx (fun e => hn (by rw [e]; exact hOb))⟩
  have hkp : Keeps w w1 (fun x => Own L ι x ∨ X x) (fun x => Own (delO L k) ι x ∨ X x) := fun x hx hu => ⟨hgrow.block x hx (fun h => hu (.inl h)), fun h => hu (h.imp (hown3 x) id)⟩
  refine ⟨_, .p (strs ((l.filter fun x => !p x).map v)), delO L k, ι, rfl, hk, ?_, ⟨⟨?_, fun j j' a a' x h1 h2 h3 h4 => hs.inj j j' a a' x (hsub j a h1).2 (hsub j' a' h2).2 h3 h4⟩, hgrow, fun x h => .inl (hown3 x h), fun j _ => rfl, fun j hj => ?_⟩⟩
  · rw [strs_eq]
    show PRep w1 _ (.sl 1 (strE _)) _
    refine ⟨some ⟨b, 0, none⟩, cap, by rw [strE_len, List.length_map], by rw [strE_len, List.length_map]; omega, fun _ => ⟨b, 0, rfl, Nat.lt_of_lt_of_le hlt hG.size, hnb, repE_sE _ 0 fun j u hu => ?_⟩⟩
    rw [Nat.zero_add]
    rw [List.map_map] at hu
    have := hown2.cells (g := b) rfl j u hu
    rw [show ({ block := b, off := 0 } : Addr).add j = ⟨b, j, none⟩ from by cases j <;> simp [Addr.add]] at this
    exact this
  · intro j a h1
    obtain ⟨e, h2⟩ := hsub j a h1
    refine ObjOk.mono hkp (fun x hx => hG.block x ((hs.obj j a h2).blk_lt hx) (fun ex => ?_)) (hs.obj j a h2)
    subst ex
    exact e (hs.inj j k a _ x h2 hlk hx (by rw [hvb]; rfl))
  · obtain ⟨a, ha⟩ := Option.isSome_iff_exists.1 hj
    exact .inl (by rw [(hsub j a ha).2]; rfl)
end
theorem blank_any (x : List UInt8) (hx : x.length ≤ 1000000000) (w : World) : Calls Tryz.prog 93 #[sE x] w fun e w' => e = .returned (.bool (decide (Lib.trimS x [32] = []))) ∧ ∃ q, w' = w.drewN q := by
  unfold sE
  have hT := Any.strings_Trim_one Tryz.layTrim ⟨x.toArray⟩ 32 (by decide) w (by rw [ba_size]; omega)
  go_enter Tryz.func93, Tryz.ntmps93
  go_wp2_with (go_at_call 94; refine hT.mono ?_; rintro e w' ⟨rfl, hw⟩)
  go_ret
  refine ⟨by rw [Lib.trimS_one]; show Ending.returned (.bool (Lib.trimB x 32).isEmpty) = _; cases Lib.trimB x 32 <;> rfl, ?_⟩
  rcases hw with rfl | rfl
  · exact ⟨0, rfl⟩
  · exact ⟨1, rfl⟩
def smallS := { x : List UInt8 // x.length ≤ 1000000000 }
instance : Inhabited smallS := ⟨⟨[], by simp⟩⟩
theorem lift_small : ∀ (l : List (List UInt8)), (∀ x ∈ l, x.length ≤ 1000000000) → ∃ l' : List smallS, l'.map (fun x => x.1) = l
  | [], _ => ⟨[], rfl⟩
  | x :: r, h => by
    obtain ⟨r', hr⟩ := lift_small r (fun y hy => h y (by simp [hy]))
    exact ⟨⟨x, h x (by simp)⟩ :: r', congrArg (x :: ·) hr⟩
def blankT (x : List UInt8) : Bool := decide (Lib.trimS x [32] = [])
section
variable {L : Objs} {k : Key} {fr : List AV} {d : Option Nat} {is : List IOper} {Y : List PV} {K : List AV → Objs → Prop}
theorem useBlank (i : Nat) (l : List (List UInt8)) (hl : l ≠ []) (hlen : l.length ≤ 1000000000) (hb : ∀ x ∈ l, x.length ≤ 1000000000) (hlk : Zar L k = some (.row (strE l) tStr 1 true))
    (hk : awpOps Tryz.prog E0 Y is (Zf (fr.map (·.kill (.l i))) d (.p (strs (l.filter fun x => !blankT x)))) (delO L k) K) : CallOp Tryz.prog E0 92 [.row k, .fn 93 []] L d fr (contO Tryz.prog E0 Y is K) := by
  obtain ⟨l', rfl⟩ := lift_small l hb
  refine useDelG (α := smallS) (fun x => x.1) i l' ⟨[], by simp⟩ rfl 93 (fun x => blankT x.1) ?_ ?_ ?_ (by kernel_rfl) (fun x w => blank_any x.1 x.2 w) ?_
  · intro h; apply hl; rw [h]; rfl
  · rw [List.length_map] at hlen; exact hlen
  · exact hlk
  · rw [List.filter_map] at hk; exact hk
end
/-- The pieces of a list between commas and semicolons outside of quotes. -/
def cutP (s : List UInt8) (a b : Nat) : List UInt8 := (s.take b).drop a
def sepC (c : UInt8) : Bool := decide (c = 44) || decide (c = 59)
def stQ (s : List UInt8) : Nat → Bool × Nat × List (List UInt8)
  | 0 => (false, 0, [])
  | i + 1 => if s.getD i 0 = 34 then (!(stQ s i).1, (stQ s i).2.1, (stQ s i).2.2)
    else if (!(stQ s i).1 && sepC (s.getD i 0)) = true then ((stQ s i).1, i + 1, (stQ s i).2.2 ++ [cutP s (stQ s i).2.1 i])
    else stQ s i
def pieceA (s : List UInt8) : List (List UInt8) := (stQ s s.length).2.2 ++ [cutP s (stQ s s.length).2.1 s.length]
def pieceF (s : List UInt8) : List (List UInt8) := (pieceA s).filter fun x => !blankT x
theorem cutP_len (s : List UInt8) (a b : Nat) : (cutP s a b).length ≤ s.length := by unfold cutP; rw [List.length_drop, List.length_take]; omega
theorem stQ_inv (s : List UInt8) : ∀ i, (stQ s i).2.1 ≤ i ∧ (stQ s i).2.2.length ≤ i ∧ ∀ x ∈ (stQ s i).2.2, x.length ≤ s.length
  | 0 => ⟨by simp [stQ], by simp [stQ], by simp [stQ]⟩
  | i + 1 => by
    have ⟨h1, h2, h3⟩ := stQ_inv s i
    rw [stQ]
    split
    · exact ⟨by simp only; omega, by simp only; omega, h3⟩
    · split
      · refine ⟨by simp only; omega, by simp only [List.length_append, List.length_cons, List.length_nil]; omega, fun x hx => ?_⟩
        rcases List.mem_append.1 hx with hx | hx
        · exact h3 x hx
        · simp only [List.mem_singleton] at hx; subst hx; exact cutP_len _ _ _
      · exact ⟨by omega, by omega, h3⟩
def fltB (l : List (List UInt8)) : List (List UInt8) := l.filter fun x => !blankT x
theorem fltB_snoc (l : List (List UInt8)) (x : List UInt8) : fltB (l ++ [x]) = if blankT x = true then fltB l else fltB l ++ [x] := by
  unfold fltB
  rw [List.filter_append]
  by_cases h : blankT x = true
  · rw [if_pos h]; simp [h]
  · rw [if_neg h]; simp [h]
theorem fltB_len (l : List (List UInt8)) : (fltB l).length ≤ l.length := List.length_filter_le _ _
/- paperchase/thread.parts -/
def ir_thread_parts_L0 : IC :=
  (.seq (.reg [⟨some 13, .bin .lss (.t 12) (.t 11), none⟩])
    (.seq (.cond (.t 13) .skip (.exit 0))
    (.seq (.block 1 (.seq (.reg [⟨some 14, .mov (.t 12), none⟩,
      ⟨some 7, .mov (.t 14), none⟩])
    (.seq (.reg [⟨some 15, .ld 1 false (.t 1), none⟩,
      ⟨some 16, .mov (.t 7), none⟩,
      ⟨some 17, .idx (.t 15) (.t 16), none⟩,
      ⟨some 8, .mov (.t 17), none⟩])
    (.block 2 (.seq (.reg [⟨some 19, .mov (.t 8), none⟩,
      ⟨some 20, .bin .eql (.t 19) (.c (.int .u8 34)), none⟩,
      ⟨some 18, .mov (.t 20), none⟩])
    (.cond (.t 18) (.reg [⟨some 21, .mov (.t 4), none⟩,
      ⟨some 22, .not (.t 21), none⟩,
      ⟨some 4, .mov (.t 22), none⟩]) (.seq (.reg [⟨some 24, .mov (.t 4), none⟩,
      ⟨some 25, .not (.t 24), none⟩,
      ⟨some 26, .mov (.t 25), none⟩,
      ⟨some 27, .mov (.t 8), (some (26, true))⟩,
      ⟨some 28, .bin .eql (.t 27) (.c (.int .u8 44)), (some (26, true))⟩,
      ⟨some 29, .mov (.t 28), (some (26, true))⟩,
      ⟨some 30, .mov (.t 8), (some (29, false))⟩,
      ⟨some 31, .bin .eql (.t 30) (.c (.int .u8 59)), (some (29, false))⟩,
      ⟨some 32, .pick (.t 29) (.c (.bool true)) (.t 31), (some (26, true))⟩,
      ⟨some 33, .pick (.t 26) (.t 32) (.c (.bool false)), none⟩,
      ⟨some 23, .mov (.t 33), none⟩])
    (.cond (.t 23) (.reg [⟨some 34, .mov (.t 6), none⟩,
      ⟨some 35, .mov (.t 7), none⟩,
      ⟨some 36, .callv (.t 34) [.t 35], none⟩]) .skip))))))))
    (.cut (.reg [⟨some 37, .bin .add (.t 12) (.c (.int .i64 1)), none⟩,
      ⟨some 12, .mov (.t 37), none⟩])))))
def ir_thread_parts : IC :=
  (.seq (.reg [⟨some 1, .box 9 (.t 0), none⟩,
      ⟨some 2, .mov (.c (.nl 1)), none⟩])
    (.seq (.reg [⟨some 3, .alc 28 [.nl 1], none⟩])
    (.seq (.reg [⟨some 4, .mov (.c (.bool false)), none⟩])
    (.seq (.reg [⟨some 5, .alc 3 [.int .i64 0], none⟩,
      ⟨none, .st 1 (.t 5) (.c (.int .i64 0)), none⟩])
    (.seq (.reg [⟨some 9, .mkf 166 [.t 1, .t 5, .t 3], none⟩,
      ⟨some 6, .mov (.t 9), none⟩])
    (.seq (.seq (.reg [⟨some 10, .ld 1 false (.t 1), none⟩,
      ⟨some 11, .sln (.t 10), none⟩,
      ⟨some 12, .mov (.c (.int .i64 0)), none⟩])
    (.block 0 (.loop ir_thread_parts_L0)))
    (.seq (.reg [⟨some 38, .mov (.t 6), none⟩,
      ⟨some 39, .ld 1 false (.t 1), none⟩,
      ⟨some 40, .sln (.t 39), none⟩,
      ⟨some 41, .callv (.t 38) [.t 40], none⟩])
    (.seq (.reg [⟨some 42, .ld 1 false (.t 3), none⟩,
      ⟨some 2, .mov (.t 42), none⟩])
    .ret))))))))
def rs_thread_parts : List IRes := [.t 2]
theorem ck_thread_parts : chkF Tryz.prog Tryz.f91 ir_thread_parts rs_thread_parts 43 = true := by kernel_rfl
/- paperchase/thread.parts$1 -/
def ir_thread_parts_1 : IC :=
  (.seq (.seq (.reg [⟨some 6, .ld 1 false (.t 1), none⟩,
      ⟨some 7, .ld 1 false (.t 2), none⟩,
      ⟨some 8, .mov (.t 0), none⟩,
      ⟨some 9, .ssl (.t 6) (some (.t 7)) (some (.t 8)), none⟩,
      ⟨some 5, .mov (.t 9), none⟩])
    (.seq (.reg [⟨some 10, .mov (.t 5), none⟩,
      ⟨some 11, .call 94 [.t 10, .c (.str [32])], none⟩,
      ⟨some 12, .bin .neq (.t 11) (.c (.str [])), none⟩])
    (.cond (.t 12) (.reg [⟨some 13, .ld 1 false (.t 3), none⟩,
      ⟨some 14, .mov (.t 5), none⟩,
      ⟨some 15, .bsl 1 [.t 14], none⟩,
      ⟨some 16, .app 9 1 16 (.t 13) (.t 15), none⟩,
      ⟨none, .st 1 (.t 3) (.t 16), none⟩]) .skip)))
    (.cut (.reg [⟨some 17, .mov (.t 0), none⟩,
      ⟨some 18, .bin .add (.t 17) (.c (.int .i64 1)), none⟩,
      ⟨none, .st 1 (.t 2) (.t 18), none⟩])))
def rs_thread_parts_1 : List IRes := []
theorem ck_thread_parts_1 : chkF Tryz.prog Tryz.f166 ir_thread_parts_1 rs_thread_parts_1 19 = true := by kernel_rfl

abbrev tStrs2 : Nat := 28
abbrev tIntX : Nat := 3
/-- What the pieces that are found so far Zar like in memory. -/
def outS (l : List (List UInt8)) (s : List UInt8) (a : Nat) : Objs := match l with
  | [] => [(.l 1, .box [.p (.str s)] tStr), (.l 3, .box [.p (.nl 1)] tStrs2), (.l 5, .box [.p (int (a : Nat))] tIntX)]
  | x :: r => [(.l 1, .box [.p (.str s)] tStr), (.l 3, .box [.row (.l 100)] tStrs2), (.l 5, .box [.p (int (a : Nat))] tIntX), (.l 100, .row (strE (x :: r)) tStr 1 true)]
theorem outS_n (s : List UInt8) (a : Nat) : outS [] s a = [(.l 1, .box [.p (.str s)] tStr), (.l 3, .box [.p (.nl 1)] tStrs2), (.l 5, .box [.p (int (a : Nat))] tIntX)] := rfl
theorem outS_c (x : List UInt8) (r : List (List UInt8)) (s : List UInt8) (a : Nat) : outS (x :: r) s a = [(.l 1, .box [.p (.str s)] tStr), (.l 3, .box [.row (.l 100)] tStrs2), (.l 5, .box [.p (int (a : Nat))] tIntX), (.l 100, .row (strE (x :: r)) tStr 1 true)] := rfl
abbrev fPA : Nat := 166
theorem sepC_int (c : UInt8) : (decide ((c.toNat : Int) = 44) || decide ((c.toNat : Int) = 59)) = sepC c :=
  all256 (p := fun c => (decide ((c.toNat : Int) = 44) || decide ((c.toNat : Int) = 59)) = sepC c) (by decide +kernel) c
theorem sA1 (y : List UInt8) (r : List (List UInt8)) (x : List UInt8) : strE (y :: r) ++ [[.str x]] = strE (y :: (r ++ [x])) := by simp [strE]
theorem sA2 (y : List UInt8) (r : List (List UInt8)) (x : List UInt8) : strE (y :: r) ++ strE [x] = strE (y :: (r ++ [x])) := by simp [strE]
set_option maxHeartbeats 40000000 in
theorem parts_ok (s : List UInt8) (hs : s.length ≤ 900000) : PCall Tryz.prog E0 91 [.str s] (· = .sl 1 (strE (pieceF s))) := by
  refine pcallF mixed Tryz.func91 ck_thread_parts ?_
  simp only [a0, l0, OS.ao, List.map_cons, List.map_nil, List.length_cons, List.length_nil, List.cons_append, List.nil_append, Nat.reduceSub, Nat.reduceAdd, List.replicate_succ, List.replicate_zero, ir_thread_parts, rs_thread_parts, ZZ, YY, Zd, ite_true, ite_false, forall_const, reduceCtorEq, Nat.reduceAdd, Nat.reduceMul, Nat.reduceLeDiff, Nat.reduceLT, Nat.reduceEqDiff]
  have hcat : pieceF s = fltB ((stQ s s.length).2.2 ++ [cutP s (stQ s s.length).2.1 s.length]) := rfl
  refine loop_intro (fun n fr L => ∃ (k : Nat), k ≤ s.length ∧ n = s.length - k ∧ fr = [.any, .adr (.l 1) 0, .any, .adr (.l 3) 0, .p (.bool (stQ s k).1), .adr (.l 5) 0, .fn fPA [.l 1, .l 5, .l 3], .any, .any, .any, .any, .p (int (s.length : Nat)), .p (int (k : Nat)), .any, .any, .any, .any, .any, .any, .any, .any, .any, .any, .any, .any, .any, .any, .any, .any, .any, .any, .any, .any, .any, .any, .any, .any, .any, .any, .any, .any, .any, .any] ∧ L = outS (fltB (stQ s k).2.2) s (stQ s k).2.1) s.length [.any, .adr (.l 1) 0, .any, .adr (.l 3) 0, .p (.bool false), .adr (.l 5) 0, .fn fPA [.l 1, .l 5, .l 3], .any, .any, .any, .any, .p (int (s.length : Nat)), .p (int (0 : Nat)), .any, .any, .any, .any, .any, .any, .any, .any, .any, .any, .any, .any, .any, .any, .any, .any, .any, .any, .any, .any, .any, .any, .any, .any, .any, .any, .any, .any, .any, .any] (outS [] s 0) (by (simp only [ZZ, YY, Zd, ite_true, ite_false, forall_const, reduceCtorEq, Nat.reduceAdd, Nat.reduceMul, Nat.reduceLeDiff, Nat.reduceLT, Nat.reduceEqDiff]; try trivial)) (by rw [outS_n]; simp only [ZZ, YY, Zd, ite_true, ite_false, forall_const, reduceCtorEq, Nat.reduceAdd, Nat.reduceMul, Nat.reduceLeDiff, Nat.reduceLT, Nat.reduceEqDiff]; rfl) ⟨0, by omega, by omega, rfl, rfl⟩ ?_
  rintro n fr L ⟨k, hk, rfl, rfl, rfl⟩
  obtain ⟨hi1, hi2, hi3⟩ := stQ_inv s k
  have hst : stQ s (k + 1) = if s.getD k 0 = 34 then (!(stQ s k).1, (stQ s k).2.1, (stQ s k).2.2) else if (!(stQ s k).1 && sepC (s.getD k 0)) = true then ((stQ s k).1, k + 1, (stQ s k).2.2 ++ [cutP s (stQ s k).2.1 k]) else stQ s k := rfl
  have hend : k = s.length → pieceF s = fltB ((stQ s k).2.2 ++ [cutP s (stQ s k).2.1 k]) := by intro e; subst e; exact hcat
  generalize stQ s k = q at *
  obtain ⟨w, a, l⟩ := q
  simp only at hi1 hi2 hi3 hst hend
  have hfl := fltB_snoc l (cutP s a k)
  have hfn := fltB_len l
  generalize hf : fltB l = f at *
  rcases f with _ | ⟨y, r⟩
  · rw [outS_n]
    simp only [List.mem_cons, List.not_mem_nil, or_self, ir_thread_parts_L0, ZZ, YY, Zd, ite_true, ite_false, forall_const, reduceCtorEq, Nat.reduceAdd, Nat.reduceMul, Nat.reduceLeDiff, Nat.reduceLT, Nat.reduceEqDiff]
    refine br ?_ ?_
    · intro h
      have hlt : k < s.length := by have := of_decide_eq_true h; omega
      obtain ⟨c, hc⟩ : ∃ c, s[k]? = some c := ⟨_, List.getElem?_eq_getElem hlt⟩
      have hg : s.getD k 0 = c := by simp [List.getD, hc]
      rw [hg] at hst
      simp only [ZZ, YY, Zd, ite_true, ite_false, forall_const, reduceCtorEq, Nat.reduceAdd, Nat.reduceMul, Nat.reduceLeDiff, Nat.reduceLT, Nat.reduceEqDiff, hg, List.mem_cons, List.not_mem_nil, or_self]
      ((repeat' (with_reducible apply And.intro)) <;> try ((first | first | assumption | trivial | exact (fun hq => by rw [hq]; rfl) | exact i64_of (by omega) (by omega) | omega | (simp; done) | (simp; omega) | (intro hsc; have hs0 := hsc; (try have hsd := of_decide_eq_true hsc); (try simp only [Bool.not_eq_true', Bool.or_eq_false_iff, Bool.and_eq_true, Bool.or_eq_true, decide_eq_true_eq, decide_eq_false_iff_not] at hsc); (repeat' (with_reducible apply And.intro)) <;> (first | assumption | trivial | exact (fun hq => by rw [hq]; rfl) | exact i64_of (by omega) (by omega) | omega | (simp; done) | (simp; omega) | (intro hse; simp [hse, hs0]; done) | (intro hse; simp only [hse, hs0, Bool.true_and, Bool.and_true, Bool.not_false, Bool.not_true, Bool.and_self]; done))))))
      refine br ?_ ?_
      · intro h34
        have h34 : c = 34 := UInt8.toNat_inj.1 (show _ = 34 from by have := of_decide_eq_true h34; omega)
        rw [if_pos h34] at hst
        simp only [ZZ, YY, Zd, ite_true, ite_false, forall_const, reduceCtorEq, Nat.reduceAdd, Nat.reduceMul, Nat.reduceLeDiff, Nat.reduceLT, Nat.reduceEqDiff]
        refine cut_same (by simp only [ZZ, YY, Zd, ite_true, ite_false, forall_const, reduceCtorEq, Nat.reduceAdd, Nat.reduceMul, Nat.reduceLeDiff, Nat.reduceLT, Nat.reduceEqDiff]) ?_
        simp only [ZZ, YY, Zd, ite_true, ite_false, forall_const, reduceCtorEq, Nat.reduceAdd, Nat.reduceMul, Nat.reduceLeDiff, Nat.reduceLT, Nat.reduceEqDiff]
        refine ⟨i64_of (by omega) (by omega), ?_⟩
        refine end_round (s.length - (k + 1)) [.any, .adr (.l 1) 0, .any, .adr (.l 3) 0, .p (.bool (stQ s (k + 1)).1), .adr (.l 5) 0, .fn fPA [.l 1, .l 5, .l 3], .any, .any, .any, .any, .p (int (s.length : Nat)), .p (int ((k + 1) : Nat)), .any, .any, .any, .any, .any, .any, .any, .any, .any, .any, .any, .any, .any, .any, .any, .any, .any, .any, .any, .any, .any, .any, .any, .any, .any, .any, .any, .any, .any, .any] (outS (fltB (stQ s (k + 1)).2.2) s (stQ s (k + 1)).2.1) (by omega) (by rw [hst]; (simp only [ZZ, YY, Zd, ite_true, ite_false, forall_const, reduceCtorEq, Nat.reduceAdd, Nat.reduceMul, Nat.reduceLeDiff, Nat.reduceLT, Nat.reduceEqDiff]; try trivial)) (by rw [hst]; simp only; rw [hf, outS_n]; simp only [ZZ, YY, Zd, ite_true, ite_false, forall_const, reduceCtorEq, Nat.reduceAdd, Nat.reduceMul, Nat.reduceLeDiff, Nat.reduceLT, Nat.reduceEqDiff]; try trivial) ⟨k + 1, by omega, rfl, rfl, rfl⟩
      · intro h34
        have h34 : ¬ c = 34 := by rintro rfl; revert h34; decide
        rw [if_neg h34] at hst
        simp only [ZZ, YY, Zd, ite_true, ite_false, forall_const, reduceCtorEq, Nat.reduceAdd, Nat.reduceMul, Nat.reduceLeDiff, Nat.reduceLT, Nat.reduceEqDiff]
        ((repeat' (with_reducible apply And.intro)) <;> try ((first | first | assumption | trivial | exact (fun hq => by rw [hq]; rfl) | exact i64_of (by omega) (by omega) | omega | (simp; done) | (simp; omega) | (intro hsc; have hs0 := hsc; (try have hsd := of_decide_eq_true hsc); (try simp only [Bool.not_eq_true', Bool.or_eq_false_iff, Bool.and_eq_true, Bool.or_eq_true, decide_eq_true_eq, decide_eq_false_iff_not] at hsc); (repeat' (with_reducible apply And.intro)) <;> (first | assumption | trivial | exact (fun hq => by rw [hq]; rfl) | exact i64_of (by omega) (by omega) | omega | (simp; done) | (simp; omega) | (intro hse; simp [hse, hs0]; done) | (intro hse; simp only [hse, hs0, Bool.true_and, Bool.and_true, Bool.not_false, Bool.not_true, Bool.and_self]; done))))))
        have hB : (!w && (decide ((c.toNat : Int) = 44) || decide ((c.toNat : Int) = 59))) = (!w && sepC c) := by rw [sepC_int]
        rw [hB]
        refine br ?_ ?_
        · intro hsep
          rw [if_pos hsep] at hst
          simp only [ZZ, YY, Zd, ite_true, ite_false, forall_const, reduceCtorEq, Nat.reduceAdd, Nat.reduceMul, Nat.reduceLeDiff, Nat.reduceLT, Nat.reduceEqDiff, List.mem_cons, List.not_mem_nil, or_self]
          refine ⟨by kernel_rfl, ?_⟩
          refine useI mixed 100 Tryz.func166 ck_thread_parts_1 ?_
          simp only [List.map_cons, List.map_nil, List.length_cons, List.length_nil, List.cons_append, List.nil_append, Nat.reduceSub, Nat.reduceAdd, List.replicate_succ, List.replicate_zero, ir_thread_parts_1, rs_thread_parts_1, fwdI, renI, backL, renL, mapO, bwd, fwd, rk, uk, AV.ren, AO.ren, renKs, renCs, Option.isSome_some, Option.isSome_none, Option.some.injEq, not_true, not_false, false_and, and_false, true_and, and_true, Nat.reduceMod, Nat.reduceDiv, Nat.reduceBEq, Option.map_some, Zbd, Bool.false_eq_true, ZZ, YY, Zd, ite_true, ite_false, forall_const, reduceCtorEq, Nat.reduceAdd, Nat.reduceMul, Nat.reduceLeDiff, Nat.reduceLT, Nat.reduceEqDiff]
          refine ⟨⟨⟨by omega, by omega⟩, by omega, by omega⟩, ?_⟩
          rw [show List.drop a (List.take k s) = cutP s a k from rfl]
          have hpl := cutP_len s a k
          refine use1 (TrimSet_ok (cutP s a k) [32] (by omega) (by decide) (by decide)) rfl (.inl rfl) ?_
          have hbt : blankT (cutP s a k) = decide (Lib.trimS (cutP s a k) [32] = []) := rfl
          generalize cutP s a k = pc at *
          simp only [ZZ, YY, Zd, ite_true, ite_false, forall_const, reduceCtorEq, Nat.reduceAdd, Nat.reduceMul, Nat.reduceLeDiff, Nat.reduceLT, Nat.reduceEqDiff]
          refine br ?_ ?_
          · intro hb
            have hb : blankT pc = false := by rw [hbt]; simpa using hb
            rw [hb] at hfl
            simp only [if_true, Bool.false_eq_true, if_false] at hfl
            simp only [ZZ, YY, Zd, ite_true, ite_false, forall_const, reduceCtorEq, Nat.reduceAdd, Nat.reduceMul, Nat.reduceLeDiff, Nat.reduceLT, Nat.reduceEqDiff, strE_len]
            ((repeat' (with_reducible apply And.intro)) <;> try ((first | first | assumption | trivial | exact (fun hq => by rw [hq]; rfl) | exact i64_of (by omega) (by omega) | omega | (simp; done) | (simp; omega) | (intro hsc; have hs0 := hsc; (try have hsd := of_decide_eq_true hsc); (try simp only [Bool.not_eq_true', Bool.or_eq_false_iff, Bool.and_eq_true, Bool.or_eq_true, decide_eq_true_eq, decide_eq_false_iff_not] at hsc); (repeat' (with_reducible apply And.intro)) <;> (first | assumption | trivial | exact (fun hq => by rw [hq]; rfl) | exact i64_of (by omega) (by omega) | omega | (simp; done) | (simp; omega) | (intro hse; simp [hse, hs0]; done) | (intro hse; simp only [hse, hs0, Bool.true_and, Bool.and_true, Bool.not_false, Bool.not_true, Bool.and_self]; done))))))
            refine cut_same (by simp only [ZZ, YY, Zd, ite_true, ite_false, forall_const, reduceCtorEq, Nat.reduceAdd, Nat.reduceMul, Nat.reduceLeDiff, Nat.reduceLT, Nat.reduceEqDiff]) ?_
            simp only [ZZ, YY, Zd, ite_true, ite_false, forall_const, reduceCtorEq, Nat.reduceAdd, Nat.reduceMul, Nat.reduceLeDiff, Nat.reduceLT, Nat.reduceEqDiff]
            ((repeat' (with_reducible apply And.intro)) <;> try ((first | first | assumption | trivial | exact (fun hq => by rw [hq]; rfl) | exact i64_of (by omega) (by omega) | omega | (simp; done) | (simp; omega) | (intro hsc; have hs0 := hsc; (try have hsd := of_decide_eq_true hsc); (try simp only [Bool.not_eq_true', Bool.or_eq_false_iff, Bool.and_eq_true, Bool.or_eq_true, decide_eq_true_eq, decide_eq_false_iff_not] at hsc); (repeat' (with_reducible apply And.intro)) <;> (first | assumption | trivial | exact (fun hq => by rw [hq]; rfl) | exact i64_of (by omega) (by omega) | omega | (simp; done) | (simp; omega) | (intro hse; simp [hse, hs0]; done) | (intro hse; simp only [hse, hs0, Bool.true_and, Bool.and_true, Bool.not_false, Bool.not_true, Bool.and_self]; done))))))
            refine ⟨some 16, ?_⟩
            simp only [fwdI, renI, backL, renL, mapO, bwd, fwd, rk, uk, AV.ren, AO.ren, renKs, renCs, Option.isSome_some, Option.isSome_none, Option.some.injEq, not_true, not_false, false_and, and_false, true_and, and_true, Nat.reduceMod, Nat.reduceDiv, Nat.reduceBEq, Option.map_some, Zbd, Bool.false_eq_true, ZZ, YY, Zd, ite_true, ite_false, forall_const, reduceCtorEq, Nat.reduceAdd, Nat.reduceMul, Nat.reduceLeDiff, Nat.reduceLT, Nat.reduceEqDiff]
            simp only [ZZ, YY, Zd, ite_true, ite_false, forall_const, reduceCtorEq, Nat.reduceAdd, Nat.reduceMul, Nat.reduceLeDiff, Nat.reduceLT, Nat.reduceEqDiff, List.mem_cons, List.not_mem_nil, or_self]
            refine cut_same (by simp only [ZZ, YY, Zd, ite_true, ite_false, forall_const, reduceCtorEq, Nat.reduceAdd, Nat.reduceMul, Nat.reduceLeDiff, Nat.reduceLT, Nat.reduceEqDiff]) ?_
            simp only [ZZ, YY, Zd, ite_true, ite_false, forall_const, reduceCtorEq, Nat.reduceAdd, Nat.reduceMul, Nat.reduceLeDiff, Nat.reduceLT, Nat.reduceEqDiff]
            refine ⟨i64_of (by omega) (by omega), ?_⟩
            refine end_round (s.length - (k + 1)) [.any, .adr (.l 1) 0, .any, .adr (.l 3) 0, .p (.bool (stQ s (k + 1)).1), .adr (.l 5) 0, .fn fPA [.l 1, .l 5, .l 3], .any, .any, .any, .any, .p (int (s.length : Nat)), .p (int ((k + 1) : Nat)), .any, .any, .any, .any, .any, .any, .any, .any, .any, .any, .any, .any, .any, .any, .any, .any, .any, .any, .any, .any, .any, .any, .any, .any, .any, .any, .any, .any, .any, .any] (outS (fltB (stQ s (k + 1)).2.2) s (stQ s (k + 1)).2.1) (by omega) (by rw [hst]; (simp only [ZZ, YY, Zd, ite_true, ite_false, forall_const, reduceCtorEq, Nat.reduceAdd, Nat.reduceMul, Nat.reduceLeDiff, Nat.reduceLT, Nat.reduceEqDiff]; try trivial)) (by rw [hst]; simp only; rw [hfl, List.nil_append, outS_c]; simp only [ZZ, YY, Zd, ite_true, ite_false, forall_const, reduceCtorEq, Nat.reduceAdd, Nat.reduceMul, Nat.reduceLeDiff, Nat.reduceLT, Nat.reduceEqDiff, strE_one, sA1, sA2]; try trivial) ⟨k + 1, by omega, rfl, rfl, rfl⟩
          · intro hb
            have hb : blankT pc = true := by rw [hbt]; simpa using hb
            rw [hb] at hfl
            simp only [if_true, Bool.false_eq_true, if_false] at hfl
            simp only [ZZ, YY, Zd, ite_true, ite_false, forall_const, reduceCtorEq, Nat.reduceAdd, Nat.reduceMul, Nat.reduceLeDiff, Nat.reduceLT, Nat.reduceEqDiff, strE_len]
            refine cut_same (by simp only [ZZ, YY, Zd, ite_true, ite_false, forall_const, reduceCtorEq, Nat.reduceAdd, Nat.reduceMul, Nat.reduceLeDiff, Nat.reduceLT, Nat.reduceEqDiff]) ?_
            simp only [ZZ, YY, Zd, ite_true, ite_false, forall_const, reduceCtorEq, Nat.reduceAdd, Nat.reduceMul, Nat.reduceLeDiff, Nat.reduceLT, Nat.reduceEqDiff]
            ((repeat' (with_reducible apply And.intro)) <;> try ((first | first | assumption | trivial | exact (fun hq => by rw [hq]; rfl) | exact i64_of (by omega) (by omega) | omega | (simp; done) | (simp; omega) | (intro hsc; have hs0 := hsc; (try have hsd := of_decide_eq_true hsc); (try simp only [Bool.not_eq_true', Bool.or_eq_false_iff, Bool.and_eq_true, Bool.or_eq_true, decide_eq_true_eq, decide_eq_false_iff_not] at hsc); (repeat' (with_reducible apply And.intro)) <;> (first | assumption | trivial | exact (fun hq => by rw [hq]; rfl) | exact i64_of (by omega) (by omega) | omega | (simp; done) | (simp; omega) | (intro hse; simp [hse, hs0]; done) | (intro hse; simp only [hse, hs0, Bool.true_and, Bool.and_true, Bool.not_false, Bool.not_true, Bool.and_self]; done))))))
            refine ⟨none, ?_⟩
            simp only [fwdI, renI, backL, renL, mapO, bwd, fwd, rk, uk, AV.ren, AO.ren, renKs, renCs, Option.isSome_some, Option.isSome_none, Option.some.injEq, not_true, not_false, false_and, and_false, true_and, and_true, Nat.reduceMod, Nat.reduceDiv, Nat.reduceBEq, Option.map_some, Zbd, Bool.false_eq_true, ZZ, YY, Zd, ite_true, ite_false, forall_const, reduceCtorEq, Nat.reduceAdd, Nat.reduceMul, Nat.reduceLeDiff, Nat.reduceLT, Nat.reduceEqDiff]
            simp only [ZZ, YY, Zd, ite_true, ite_false, forall_const, reduceCtorEq, Nat.reduceAdd, Nat.reduceMul, Nat.reduceLeDiff, Nat.reduceLT, Nat.reduceEqDiff, List.mem_cons, List.not_mem_nil, or_self]
            refine cut_same (by simp only [ZZ, YY, Zd, ite_true, ite_false, forall_const, reduceCtorEq, Nat.reduceAdd, Nat.reduceMul, Nat.reduceLeDiff, Nat.reduceLT, Nat.reduceEqDiff]) ?_
            simp only [ZZ, YY, Zd, ite_true, ite_false, forall_const, reduceCtorEq, Nat.reduceAdd, Nat.reduceMul, Nat.reduceLeDiff, Nat.reduceLT, Nat.reduceEqDiff]
            refine ⟨i64_of (by omega) (by omega), ?_⟩
            refine end_round (s.length - (k + 1)) [.any, .adr (.l 1) 0, .any, .adr (.l 3) 0, .p (.bool (stQ s (k + 1)).1), .adr (.l 5) 0, .fn fPA [.l 1, .l 5, .l 3], .any, .any, .any, .any, .p (int (s.length : Nat)), .p (int ((k + 1) : Nat)), .any, .any, .any, .any, .any, .any, .any, .any, .any, .any, .any, .any, .any, .any, .any, .any, .any, .any, .any, .any, .any, .any, .any, .any, .any, .any, .any, .any, .any, .any] (outS (fltB (stQ s (k + 1)).2.2) s (stQ s (k + 1)).2.1) (by omega) (by rw [hst]; (simp only [ZZ, YY, Zd, ite_true, ite_false, forall_const, reduceCtorEq, Nat.reduceAdd, Nat.reduceMul, Nat.reduceLeDiff, Nat.reduceLT, Nat.reduceEqDiff]; try trivial)) (by rw [hst]; simp only; rw [hfl, outS_n]; simp only [ZZ, YY, Zd, ite_true, ite_false, forall_const, reduceCtorEq, Nat.reduceAdd, Nat.reduceMul, Nat.reduceLeDiff, Nat.reduceLT, Nat.reduceEqDiff, strE_one, sA1, sA2]; try trivial) ⟨k + 1, by omega, rfl, rfl, rfl⟩
        · intro hsep
          rw [if_neg (by simp [hsep])] at hst
          simp only [ZZ, YY, Zd, ite_true, ite_false, forall_const, reduceCtorEq, Nat.reduceAdd, Nat.reduceMul, Nat.reduceLeDiff, Nat.reduceLT, Nat.reduceEqDiff]
          refine cut_same (by simp only [ZZ, YY, Zd, ite_true, ite_false, forall_const, reduceCtorEq, Nat.reduceAdd, Nat.reduceMul, Nat.reduceLeDiff, Nat.reduceLT, Nat.reduceEqDiff]) ?_
          simp only [ZZ, YY, Zd, ite_true, ite_false, forall_const, reduceCtorEq, Nat.reduceAdd, Nat.reduceMul, Nat.reduceLeDiff, Nat.reduceLT, Nat.reduceEqDiff]
          refine ⟨i64_of (by omega) (by omega), ?_⟩
          refine end_round (s.length - (k + 1)) [.any, .adr (.l 1) 0, .any, .adr (.l 3) 0, .p (.bool (stQ s (k + 1)).1), .adr (.l 5) 0, .fn fPA [.l 1, .l 5, .l 3], .any, .any, .any, .any, .p (int (s.length : Nat)), .p (int ((k + 1) : Nat)), .any, .any, .any, .any, .any, .any, .any, .any, .any, .any, .any, .any, .any, .any, .any, .any, .any, .any, .any, .any, .any, .any, .any, .any, .any, .any, .any, .any, .any, .any] (outS (fltB (stQ s (k + 1)).2.2) s (stQ s (k + 1)).2.1) (by omega) (by rw [hst]; (simp only [ZZ, YY, Zd, ite_true, ite_false, forall_const, reduceCtorEq, Nat.reduceAdd, Nat.reduceMul, Nat.reduceLeDiff, Nat.reduceLT, Nat.reduceEqDiff]; try trivial)) (by rw [hst]; simp only; rw [hf, outS_n]; simp only [ZZ, YY, Zd, ite_true, ite_false, forall_const, reduceCtorEq, Nat.reduceAdd, Nat.reduceMul, Nat.reduceLeDiff, Nat.reduceLT, Nat.reduceEqDiff]; try trivial) ⟨k + 1, by omega, rfl, rfl, rfl⟩
    · intro h
      have hge : k = s.length := by have := of_decide_eq_false h; omega
      have hend := hend hge
      subst hge
      simp only [ZZ, YY, Zd, ite_true, ite_false, forall_const, reduceCtorEq, Nat.reduceAdd, Nat.reduceMul, Nat.reduceLeDiff, Nat.reduceLT, Nat.reduceEqDiff, List.mem_cons, List.not_mem_nil, or_self]
      refine ⟨by kernel_rfl, ?_⟩
      refine useI mixed 100 Tryz.func166 ck_thread_parts_1 ?_
      simp only [List.map_cons, List.map_nil, List.length_cons, List.length_nil, List.cons_append, List.nil_append, Nat.reduceSub, Nat.reduceAdd, List.replicate_succ, List.replicate_zero, ir_thread_parts_1, rs_thread_parts_1, fwdI, renI, backL, renL, mapO, bwd, fwd, rk, uk, AV.ren, AO.ren, renKs, renCs, Option.isSome_some, Option.isSome_none, Option.some.injEq, not_true, not_false, false_and, and_false, true_and, and_true, Nat.reduceMod, Nat.reduceDiv, Nat.reduceBEq, Option.map_some, Zbd, Bool.false_eq_true, ZZ, YY, Zd, ite_true, ite_false, forall_const, reduceCtorEq, Nat.reduceAdd, Nat.reduceMul, Nat.reduceLeDiff, Nat.reduceLT, Nat.reduceEqDiff]
      refine ⟨⟨⟨by omega, by omega⟩, by omega, by omega⟩, ?_⟩
      rw [show List.drop a (List.take s.length s) = cutP s a s.length from rfl]
      have hpl := cutP_len s a s.length
      refine use1 (TrimSet_ok (cutP s a s.length) [32] (by omega) (by decide) (by decide)) rfl (.inl rfl) ?_
      have hbt : blankT (cutP s a s.length) = decide (Lib.trimS (cutP s a s.length) [32] = []) := rfl
      generalize cutP s a s.length = pc at *
      simp only [ZZ, YY, Zd, ite_true, ite_false, forall_const, reduceCtorEq, Nat.reduceAdd, Nat.reduceMul, Nat.reduceLeDiff, Nat.reduceLT, Nat.reduceEqDiff]
      refine br ?_ ?_
      · intro hb
        have hb : blankT pc = false := by rw [hbt]; simpa using hb
        rw [hb] at hfl
        simp only [if_true, Bool.false_eq_true, if_false] at hfl
        simp only [ZZ, YY, Zd, ite_true, ite_false, forall_const, reduceCtorEq, Nat.reduceAdd, Nat.reduceMul, Nat.reduceLeDiff, Nat.reduceLT, Nat.reduceEqDiff, strE_len]
        ((repeat' (with_reducible apply And.intro)) <;> try ((first | first | assumption | trivial | exact (fun hq => by rw [hq]; rfl) | exact i64_of (by omega) (by omega) | omega | (simp; done) | (simp; omega) | (intro hsc; have hs0 := hsc; (try have hsd := of_decide_eq_true hsc); (try simp only [Bool.not_eq_true', Bool.or_eq_false_iff, Bool.and_eq_true, Bool.or_eq_true, decide_eq_true_eq, decide_eq_false_iff_not] at hsc); (repeat' (with_reducible apply And.intro)) <;> (first | assumption | trivial | exact (fun hq => by rw [hq]; rfl) | exact i64_of (by omega) (by omega) | omega | (simp; done) | (simp; omega) | (intro hse; simp [hse, hs0]; done) | (intro hse; simp only [hse, hs0, Bool.true_and, Bool.and_true, Bool.not_false, Bool.not_true, Bool.and_self]; done))))))
        refine cut_same (by simp only [ZZ, YY, Zd, ite_true, ite_false, forall_const, reduceCtorEq, Nat.reduceAdd, Nat.reduceMul, Nat.reduceLeDiff, Nat.reduceLT, Nat.reduceEqDiff]) ?_
        simp only [ZZ, YY, Zd, ite_true, ite_false, forall_const, reduceCtorEq, Nat.reduceAdd, Nat.reduceMul, Nat.reduceLeDiff, Nat.reduceLT, Nat.reduceEqDiff]
        ((repeat' (with_reducible apply And.intro)) <;> try ((first | first | assumption | trivial | exact (fun hq => by rw [hq]; rfl) | exact i64_of (by omega) (by omega) | omega | (simp; done) | (simp; omega) | (intro hsc; have hs0 := hsc; (try have hsd := of_decide_eq_true hsc); (try simp only [Bool.not_eq_true', Bool.or_eq_false_iff, Bool.and_eq_true, Bool.or_eq_true, decide_eq_true_eq, decide_eq_false_iff_not] at hsc); (repeat' (with_reducible apply And.intro)) <;> (first | assumption | trivial | exact (fun hq => by rw [hq]; rfl) | exact i64_of (by omega) (by omega) | omega | (simp; done) | (simp; omega) | (intro hse; simp [hse, hs0]; done) | (intro hse; simp only [hse, hs0, Bool.true_and, Bool.and_true, Bool.not_false, Bool.not_true, Bool.and_self]; done))))))
        refine ⟨some 16, ?_⟩
        simp only [fwdI, renI, backL, renL, mapO, bwd, fwd, rk, uk, AV.ren, AO.ren, renKs, renCs, Option.isSome_some, Option.isSome_none, Option.some.injEq, not_true, not_false, false_and, and_false, true_and, and_true, Nat.reduceMod, Nat.reduceDiv, Nat.reduceBEq, Option.map_some, Zbd, Bool.false_eq_true, ZZ, YY, Zd, ite_true, ite_false, forall_const, reduceCtorEq, Nat.reduceAdd, Nat.reduceMul, Nat.reduceLeDiff, Nat.reduceLT, Nat.reduceEqDiff]
        rw [hend, hfl]
        (try simp only [ZZ, YY, Zd, ite_true, ite_false, forall_const, reduceCtorEq, Nat.reduceAdd, Nat.reduceMul, Nat.reduceLeDiff, Nat.reduceLT, Nat.reduceEqDiff, List.mem_cons, List.not_mem_nil, or_self, strE_one, sA1, sA2])
        (try rfl)
      · intro hb
        have hb : blankT pc = true := by rw [hbt]; simpa using hb
        rw [hb] at hfl
        simp only [if_true, Bool.false_eq_true, if_false] at hfl
        simp only [ZZ, YY, Zd, ite_true, ite_false, forall_const, reduceCtorEq, Nat.reduceAdd, Nat.reduceMul, Nat.reduceLeDiff, Nat.reduceLT, Nat.reduceEqDiff, strE_len]
        refine cut_same (by simp only [ZZ, YY, Zd, ite_true, ite_false, forall_const, reduceCtorEq, Nat.reduceAdd, Nat.reduceMul, Nat.reduceLeDiff, Nat.reduceLT, Nat.reduceEqDiff]) ?_
        simp only [ZZ, YY, Zd, ite_true, ite_false, forall_const, reduceCtorEq, Nat.reduceAdd, Nat.reduceMul, Nat.reduceLeDiff, Nat.reduceLT, Nat.reduceEqDiff]
        ((repeat' (with_reducible apply And.intro)) <;> try ((first | first | assumption | trivial | exact (fun hq => by rw [hq]; rfl) | exact i64_of (by omega) (by omega) | omega | (simp; done) | (simp; omega) | (intro hsc; have hs0 := hsc; (try have hsd := of_decide_eq_true hsc); (try simp only [Bool.not_eq_true', Bool.or_eq_false_iff, Bool.and_eq_true, Bool.or_eq_true, decide_eq_true_eq, decide_eq_false_iff_not] at hsc); (repeat' (with_reducible apply And.intro)) <;> (first | assumption | trivial | exact (fun hq => by rw [hq]; rfl) | exact i64_of (by omega) (by omega) | omega | (simp; done) | (simp; omega) | (intro hse; simp [hse, hs0]; done) | (intro hse; simp only [hse, hs0, Bool.true_and, Bool.and_true, Bool.not_false, Bool.not_true, Bool.and_self]; done))))))
        refine ⟨none, ?_⟩
        simp only [fwdI, renI, backL, renL, mapO, bwd, fwd, rk, uk, AV.ren, AO.ren, renKs, renCs, Option.isSome_some, Option.isSome_none, Option.some.injEq, not_true, not_false, false_and, and_false, true_and, and_true, Nat.reduceMod, Nat.reduceDiv, Nat.reduceBEq, Option.map_some, Zbd, Bool.false_eq_true, ZZ, YY, Zd, ite_true, ite_false, forall_const, reduceCtorEq, Nat.reduceAdd, Nat.reduceMul, Nat.reduceLeDiff, Nat.reduceLT, Nat.reduceEqDiff]
        rw [hend, hfl]
        (try simp only [ZZ, YY, Zd, ite_true, ite_false, forall_const, reduceCtorEq, Nat.reduceAdd, Nat.reduceMul, Nat.reduceLeDiff, Nat.reduceLT, Nat.reduceEqDiff, List.mem_cons, List.not_mem_nil, or_self, strE_one, sA1, sA2])
        (try rfl)
  · rw [outS_c]
    have hrl : r.length ≤ 900000 := by rw [List.length_cons] at hfn; omega
    simp only [List.mem_cons, List.not_mem_nil, or_self, ir_thread_parts_L0, ZZ, YY, Zd, ite_true, ite_false, forall_const, reduceCtorEq, Nat.reduceAdd, Nat.reduceMul, Nat.reduceLeDiff, Nat.reduceLT, Nat.reduceEqDiff]
    refine br ?_ ?_
    · intro h
      have hlt : k < s.length := by have := of_decide_eq_true h; omega
      obtain ⟨c, hc⟩ : ∃ c, s[k]? = some c := ⟨_, List.getElem?_eq_getElem hlt⟩
      have hg : s.getD k 0 = c := by simp [List.getD, hc]
      rw [hg] at hst
      simp only [ZZ, YY, Zd, ite_true, ite_false, forall_const, reduceCtorEq, Nat.reduceAdd, Nat.reduceMul, Nat.reduceLeDiff, Nat.reduceLT, Nat.reduceEqDiff, hg, List.mem_cons, List.not_mem_nil, or_self]
      ((repeat' (with_reducible apply And.intro)) <;> try ((first | first | assumption | trivial | exact (fun hq => by rw [hq]; rfl) | exact i64_of (by omega) (by omega) | omega | (simp; done) | (simp; omega) | (intro hsc; have hs0 := hsc; (try have hsd := of_decide_eq_true hsc); (try simp only [Bool.not_eq_true', Bool.or_eq_false_iff, Bool.and_eq_true, Bool.or_eq_true, decide_eq_true_eq, decide_eq_false_iff_not] at hsc); (repeat' (with_reducible apply And.intro)) <;> (first | assumption | trivial | exact (fun hq => by rw [hq]; rfl) | exact i64_of (by omega) (by omega) | omega | (simp; done) | (simp; omega) | (intro hse; simp [hse, hs0]; done) | (intro hse; simp only [hse, hs0, Bool.true_and, Bool.and_true, Bool.not_false, Bool.not_true, Bool.and_self]; done))))))
      refine br ?_ ?_
      · intro h34
        have h34 : c = 34 := UInt8.toNat_inj.1 (show _ = 34 from by have := of_decide_eq_true h34; omega)
        rw [if_pos h34] at hst
        simp only [ZZ, YY, Zd, ite_true, ite_false, forall_const, reduceCtorEq, Nat.reduceAdd, Nat.reduceMul, Nat.reduceLeDiff, Nat.reduceLT, Nat.reduceEqDiff]
        refine cut_same (by simp only [ZZ, YY, Zd, ite_true, ite_false, forall_const, reduceCtorEq, Nat.reduceAdd, Nat.reduceMul, Nat.reduceLeDiff, Nat.reduceLT, Nat.reduceEqDiff]) ?_
        simp only [ZZ, YY, Zd, ite_true, ite_false, forall_const, reduceCtorEq, Nat.reduceAdd, Nat.reduceMul, Nat.reduceLeDiff, Nat.reduceLT, Nat.reduceEqDiff]
        refine ⟨i64_of (by omega) (by omega), ?_⟩
        refine end_round (s.length - (k + 1)) [.any, .adr (.l 1) 0, .any, .adr (.l 3) 0, .p (.bool (stQ s (k + 1)).1), .adr (.l 5) 0, .fn fPA [.l 1, .l 5, .l 3], .any, .any, .any, .any, .p (int (s.length : Nat)), .p (int ((k + 1) : Nat)), .any, .any, .any, .any, .any, .any, .any, .any, .any, .any, .any, .any, .any, .any, .any, .any, .any, .any, .any, .any, .any, .any, .any, .any, .any, .any, .any, .any, .any, .any] (outS (fltB (stQ s (k + 1)).2.2) s (stQ s (k + 1)).2.1) (by omega) (by rw [hst]; (simp only [ZZ, YY, Zd, ite_true, ite_false, forall_const, reduceCtorEq, Nat.reduceAdd, Nat.reduceMul, Nat.reduceLeDiff, Nat.reduceLT, Nat.reduceEqDiff]; try trivial)) (by rw [hst]; simp only; rw [hf, outS_c]; simp only [ZZ, YY, Zd, ite_true, ite_false, forall_const, reduceCtorEq, Nat.reduceAdd, Nat.reduceMul, Nat.reduceLeDiff, Nat.reduceLT, Nat.reduceEqDiff]; try trivial) ⟨k + 1, by omega, rfl, rfl, rfl⟩
      · intro h34
        have h34 : ¬ c = 34 := by rintro rfl; revert h34; decide
        rw [if_neg h34] at hst
        simp only [ZZ, YY, Zd, ite_true, ite_false, forall_const, reduceCtorEq, Nat.reduceAdd, Nat.reduceMul, Nat.reduceLeDiff, Nat.reduceLT, Nat.reduceEqDiff]
        ((repeat' (with_reducible apply And.intro)) <;> try ((first | first | assumption | trivial | exact (fun hq => by rw [hq]; rfl) | exact i64_of (by omega) (by omega) | omega | (simp; done) | (simp; omega) | (intro hsc; have hs0 := hsc; (try have hsd := of_decide_eq_true hsc); (try simp only [Bool.not_eq_true', Bool.or_eq_false_iff, Bool.and_eq_true, Bool.or_eq_true, decide_eq_true_eq, decide_eq_false_iff_not] at hsc); (repeat' (with_reducible apply And.intro)) <;> (first | assumption | trivial | exact (fun hq => by rw [hq]; rfl) | exact i64_of (by omega) (by omega) | omega | (simp; done) | (simp; omega) | (intro hse; simp [hse, hs0]; done) | (intro hse; simp only [hse, hs0, Bool.true_and, Bool.and_true, Bool.not_false, Bool.not_true, Bool.and_self]; done))))))
        have hB : (!w && (decide ((c.toNat : Int) = 44) || decide ((c.toNat : Int) = 59))) = (!w && sepC c) := by rw [sepC_int]
        rw [hB]
        refine br ?_ ?_
        · intro hsep
          rw [if_pos hsep] at hst
          simp only [ZZ, YY, Zd, ite_true, ite_false, forall_const, reduceCtorEq, Nat.reduceAdd, Nat.reduceMul, Nat.reduceLeDiff, Nat.reduceLT, Nat.reduceEqDiff, List.mem_cons, List.not_mem_nil, or_self]
          refine ⟨by kernel_rfl, ?_⟩
          refine useI mixed 100 Tryz.func166 ck_thread_parts_1 ?_
          simp only [List.map_cons, List.map_nil, List.length_cons, List.length_nil, List.cons_append, List.nil_append, Nat.reduceSub, Nat.reduceAdd, List.replicate_succ, List.replicate_zero, ir_thread_parts_1, rs_thread_parts_1, fwdI, renI, backL, renL, mapO, bwd, fwd, rk, uk, AV.ren, AO.ren, renKs, renCs, Option.isSome_some, Option.isSome_none, Option.some.injEq, not_true, not_false, false_and, and_false, true_and, and_true, Nat.reduceMod, Nat.reduceDiv, Nat.reduceBEq, Option.map_some, Zbd, Bool.false_eq_true, ZZ, YY, Zd, ite_true, ite_false, forall_const, reduceCtorEq, Nat.reduceAdd, Nat.reduceMul, Nat.reduceLeDiff, Nat.reduceLT, Nat.reduceEqDiff]
          refine ⟨⟨⟨by omega, by omega⟩, by omega, by omega⟩, ?_⟩
          rw [show List.drop a (List.take k s) = cutP s a k from rfl]
          have hpl := cutP_len s a k
          refine use1 (TrimSet_ok (cutP s a k) [32] (by omega) (by decide) (by decide)) rfl (.inl rfl) ?_
          have hbt : blankT (cutP s a k) = decide (Lib.trimS (cutP s a k) [32] = []) := rfl
          generalize cutP s a k = pc at *
          simp only [ZZ, YY, Zd, ite_true, ite_false, forall_const, reduceCtorEq, Nat.reduceAdd, Nat.reduceMul, Nat.reduceLeDiff, Nat.reduceLT, Nat.reduceEqDiff]
          refine br ?_ ?_
          · intro hb
            have hb : blankT pc = false := by rw [hbt]; simpa using hb
            rw [hb] at hfl
            simp only [if_true, Bool.false_eq_true, if_false] at hfl
            simp only [ZZ, YY, Zd, ite_true, ite_false, forall_const, reduceCtorEq, Nat.reduceAdd, Nat.reduceMul, Nat.reduceLeDiff, Nat.reduceLT, Nat.reduceEqDiff, strE_len]
            ((repeat' (with_reducible apply And.intro)) <;> try ((first | first | assumption | trivial | exact (fun hq => by rw [hq]; rfl) | exact i64_of (by omega) (by omega) | omega | (simp; done) | (simp; omega) | (intro hsc; have hs0 := hsc; (try have hsd := of_decide_eq_true hsc); (try simp only [Bool.not_eq_true', Bool.or_eq_false_iff, Bool.and_eq_true, Bool.or_eq_true, decide_eq_true_eq, decide_eq_false_iff_not] at hsc); (repeat' (with_reducible apply And.intro)) <;> (first | assumption | trivial | exact (fun hq => by rw [hq]; rfl) | exact i64_of (by omega) (by omega) | omega | (simp; done) | (simp; omega) | (intro hse; simp [hse, hs0]; done) | (intro hse; simp only [hse, hs0, Bool.true_and, Bool.and_true, Bool.not_false, Bool.not_true, Bool.and_self]; done))))))
            refine cut_same (by simp only [ZZ, YY, Zd, ite_true, ite_false, forall_const, reduceCtorEq, Nat.reduceAdd, Nat.reduceMul, Nat.reduceLeDiff, Nat.reduceLT, Nat.reduceEqDiff]) ?_
            simp only [ZZ, YY, Zd, ite_true, ite_false, forall_const, reduceCtorEq, Nat.reduceAdd, Nat.reduceMul, Nat.reduceLeDiff, Nat.reduceLT, Nat.reduceEqDiff]
            ((repeat' (with_reducible apply And.intro)) <;> try ((first | first | assumption | trivial | exact (fun hq => by rw [hq]; rfl) | exact i64_of (by omega) (by omega) | omega | (simp; done) | (simp; omega) | (intro hsc; have hs0 := hsc; (try have hsd := of_decide_eq_true hsc); (try simp only [Bool.not_eq_true', Bool.or_eq_false_iff, Bool.and_eq_true, Bool.or_eq_true, decide_eq_true_eq, decide_eq_false_iff_not] at hsc); (repeat' (with_reducible apply And.intro)) <;> (first | assumption | trivial | exact (fun hq => by rw [hq]; rfl) | exact i64_of (by omega) (by omega) | omega | (simp; done) | (simp; omega) | (intro hse; simp [hse, hs0]; done) | (intro hse; simp only [hse, hs0, Bool.true_and, Bool.and_true, Bool.not_false, Bool.not_true, Bool.and_self]; done))))))
            refine ⟨some 100, ?_⟩
            simp only [fwdI, renI, backL, renL, mapO, bwd, fwd, rk, uk, AV.ren, AO.ren, renKs, renCs, Option.isSome_some, Option.isSome_none, Option.some.injEq, not_true, not_false, false_and, and_false, true_and, and_true, Nat.reduceMod, Nat.reduceDiv, Nat.reduceBEq, Option.map_some, Zbd, Bool.false_eq_true, ZZ, YY, Zd, ite_true, ite_false, forall_const, reduceCtorEq, Nat.reduceAdd, Nat.reduceMul, Nat.reduceLeDiff, Nat.reduceLT, Nat.reduceEqDiff]
            simp only [ZZ, YY, Zd, ite_true, ite_false, forall_const, reduceCtorEq, Nat.reduceAdd, Nat.reduceMul, Nat.reduceLeDiff, Nat.reduceLT, Nat.reduceEqDiff, List.mem_cons, List.not_mem_nil, or_self]
            refine cut_same (by simp only [ZZ, YY, Zd, ite_true, ite_false, forall_const, reduceCtorEq, Nat.reduceAdd, Nat.reduceMul, Nat.reduceLeDiff, Nat.reduceLT, Nat.reduceEqDiff]) ?_
            simp only [ZZ, YY, Zd, ite_true, ite_false, forall_const, reduceCtorEq, Nat.reduceAdd, Nat.reduceMul, Nat.reduceLeDiff, Nat.reduceLT, Nat.reduceEqDiff]
            refine ⟨i64_of (by omega) (by omega), ?_⟩
            refine end_round (s.length - (k + 1)) [.any, .adr (.l 1) 0, .any, .adr (.l 3) 0, .p (.bool (stQ s (k + 1)).1), .adr (.l 5) 0, .fn fPA [.l 1, .l 5, .l 3], .any, .any, .any, .any, .p (int (s.length : Nat)), .p (int ((k + 1) : Nat)), .any, .any, .any, .any, .any, .any, .any, .any, .any, .any, .any, .any, .any, .any, .any, .any, .any, .any, .any, .any, .any, .any, .any, .any, .any, .any, .any, .any, .any, .any] (outS (fltB (stQ s (k + 1)).2.2) s (stQ s (k + 1)).2.1) (by omega) (by rw [hst]; (simp only [ZZ, YY, Zd, ite_true, ite_false, forall_const, reduceCtorEq, Nat.reduceAdd, Nat.reduceMul, Nat.reduceLeDiff, Nat.reduceLT, Nat.reduceEqDiff]; try trivial)) (by rw [hst]; simp only; rw [hfl, List.cons_append, outS_c]; simp only [ZZ, YY, Zd, ite_true, ite_false, forall_const, reduceCtorEq, Nat.reduceAdd, Nat.reduceMul, Nat.reduceLeDiff, Nat.reduceLT, Nat.reduceEqDiff, strE_one, sA1, sA2]; try trivial) ⟨k + 1, by omega, rfl, rfl, rfl⟩
          · intro hb
            have hb : blankT pc = true := by rw [hbt]; simpa using hb
            rw [hb] at hfl
            simp only [if_true, Bool.false_eq_true, if_false] at hfl
            simp only [ZZ, YY, Zd, ite_true, ite_false, forall_const, reduceCtorEq, Nat.reduceAdd, Nat.reduceMul, Nat.reduceLeDiff, Nat.reduceLT, Nat.reduceEqDiff, strE_len]
            refine cut_same (by simp only [ZZ, YY, Zd, ite_true, ite_false, forall_const, reduceCtorEq, Nat.reduceAdd, Nat.reduceMul, Nat.reduceLeDiff, Nat.reduceLT, Nat.reduceEqDiff]) ?_
            simp only [ZZ, YY, Zd, ite_true, ite_false, forall_const, reduceCtorEq, Nat.reduceAdd, Nat.reduceMul, Nat.reduceLeDiff, Nat.reduceLT, Nat.reduceEqDiff]
            ((repeat' (with_reducible apply And.intro)) <;> try ((first | first | assumption | trivial | exact (fun hq => by rw [hq]; rfl) | exact i64_of (by omega) (by omega) | omega | (simp; done) | (simp; omega) | (intro hsc; have hs0 := hsc; (try have hsd := of_decide_eq_true hsc); (try simp only [Bool.not_eq_true', Bool.or_eq_false_iff, Bool.and_eq_true, Bool.or_eq_true, decide_eq_true_eq, decide_eq_false_iff_not] at hsc); (repeat' (with_reducible apply And.intro)) <;> (first | assumption | trivial | exact (fun hq => by rw [hq]; rfl) | exact i64_of (by omega) (by omega) | omega | (simp; done) | (simp; omega) | (intro hse; simp [hse, hs0]; done) | (intro hse; simp only [hse, hs0, Bool.true_and, Bool.and_true, Bool.not_false, Bool.not_true, Bool.and_self]; done))))))
            refine ⟨some 100, ?_⟩
            simp only [fwdI, renI, backL, renL, mapO, bwd, fwd, rk, uk, AV.ren, AO.ren, renKs, renCs, Option.isSome_some, Option.isSome_none, Option.some.injEq, not_true, not_false, false_and, and_false, true_and, and_true, Nat.reduceMod, Nat.reduceDiv, Nat.reduceBEq, Option.map_some, Zbd, Bool.false_eq_true, ZZ, YY, Zd, ite_true, ite_false, forall_const, reduceCtorEq, Nat.reduceAdd, Nat.reduceMul, Nat.reduceLeDiff, Nat.reduceLT, Nat.reduceEqDiff]
            simp only [ZZ, YY, Zd, ite_true, ite_false, forall_const, reduceCtorEq, Nat.reduceAdd, Nat.reduceMul, Nat.reduceLeDiff, Nat.reduceLT, Nat.reduceEqDiff, List.mem_cons, List.not_mem_nil, or_self]
            refine cut_same (by simp only [ZZ, YY, Zd, ite_true, ite_false, forall_const, reduceCtorEq, Nat.reduceAdd, Nat.reduceMul, Nat.reduceLeDiff, Nat.reduceLT, Nat.reduceEqDiff]) ?_
            simp only [ZZ, YY, Zd, ite_true, ite_false, forall_const, reduceCtorEq, Nat.reduceAdd, Nat.reduceMul, Nat.reduceLeDiff, Nat.reduceLT, Nat.reduceEqDiff]
            refine ⟨i64_of (by omega) (by omega), ?_⟩
            refine end_round (s.length - (k + 1)) [.any, .adr (.l 1) 0, .any, .adr (.l 3) 0, .p (.bool (stQ s (k + 1)).1), .adr (.l 5) 0, .fn fPA [.l 1, .l 5, .l 3], .any, .any, .any, .any, .p (int (s.length : Nat)), .p (int ((k + 1) : Nat)), .any, .any, .any, .any, .any, .any, .any, .any, .any, .any, .any, .any, .any, .any, .any, .any, .any, .any, .any, .any, .any, .any, .any, .any, .any, .any, .any, .any, .any, .any] (outS (fltB (stQ s (k + 1)).2.2) s (stQ s (k + 1)).2.1) (by omega) (by rw [hst]; (simp only [ZZ, YY, Zd, ite_true, ite_false, forall_const, reduceCtorEq, Nat.reduceAdd, Nat.reduceMul, Nat.reduceLeDiff, Nat.reduceLT, Nat.reduceEqDiff]; try trivial)) (by rw [hst]; simp only; rw [hfl, outS_c]; simp only [ZZ, YY, Zd, ite_true, ite_false, forall_const, reduceCtorEq, Nat.reduceAdd, Nat.reduceMul, Nat.reduceLeDiff, Nat.reduceLT, Nat.reduceEqDiff, strE_one, sA1, sA2]; try trivial) ⟨k + 1, by omega, rfl, rfl, rfl⟩
        · intro hsep
          rw [if_neg (by simp [hsep])] at hst
          simp only [ZZ, YY, Zd, ite_true, ite_false, forall_const, reduceCtorEq, Nat.reduceAdd, Nat.reduceMul, Nat.reduceLeDiff, Nat.reduceLT, Nat.reduceEqDiff]
          refine cut_same (by simp only [ZZ, YY, Zd, ite_true, ite_false, forall_const, reduceCtorEq, Nat.reduceAdd, Nat.reduceMul, Nat.reduceLeDiff, Nat.reduceLT, Nat.reduceEqDiff]) ?_
          simp only [ZZ, YY, Zd, ite_true, ite_false, forall_const, reduceCtorEq, Nat.reduceAdd, Nat.reduceMul, Nat.reduceLeDiff, Nat.reduceLT, Nat.reduceEqDiff]
          refine ⟨i64_of (by omega) (by omega), ?_⟩
          refine end_round (s.length - (k + 1)) [.any, .adr (.l 1) 0, .any, .adr (.l 3) 0, .p (.bool (stQ s (k + 1)).1), .adr (.l 5) 0, .fn fPA [.l 1, .l 5, .l 3], .any, .any, .any, .any, .p (int (s.length : Nat)), .p (int ((k + 1) : Nat)), .any, .any, .any, .any, .any, .any, .any, .any, .any, .any, .any, .any, .any, .any, .any, .any, .any, .any, .any, .any, .any, .any, .any, .any, .any, .any, .any, .any, .any, .any] (outS (fltB (stQ s (k + 1)).2.2) s (stQ s (k + 1)).2.1) (by omega) (by rw [hst]; (simp only [ZZ, YY, Zd, ite_true, ite_false, forall_const, reduceCtorEq, Nat.reduceAdd, Nat.reduceMul, Nat.reduceLeDiff, Nat.reduceLT, Nat.reduceEqDiff]; try trivial)) (by rw [hst]; simp only; rw [hf, outS_c]; simp only [ZZ, YY, Zd, ite_true, ite_false, forall_const, reduceCtorEq, Nat.reduceAdd, Nat.reduceMul, Nat.reduceLeDiff, Nat.reduceLT, Nat.reduceEqDiff]; try trivial) ⟨k + 1, by omega, rfl, rfl, rfl⟩
    · intro h
      have hge : k = s.length := by have := of_decide_eq_false h; omega
      have hend := hend hge
      subst hge
      simp only [ZZ, YY, Zd, ite_true, ite_false, forall_const, reduceCtorEq, Nat.reduceAdd, Nat.reduceMul, Nat.reduceLeDiff, Nat.reduceLT, Nat.reduceEqDiff, List.mem_cons, List.not_mem_nil, or_self]
      refine ⟨by kernel_rfl, ?_⟩
      refine useI mixed 100 Tryz.func166 ck_thread_parts_1 ?_
      simp only [List.map_cons, List.map_nil, List.length_cons, List.length_nil, List.cons_append, List.nil_append, Nat.reduceSub, Nat.reduceAdd, List.replicate_succ, List.replicate_zero, ir_thread_parts_1, rs_thread_parts_1, fwdI, renI, backL, renL, mapO, bwd, fwd, rk, uk, AV.ren, AO.ren, renKs, renCs, Option.isSome_some, Option.isSome_none, Option.some.injEq, not_true, not_false, false_and, and_false, true_and, and_true, Nat.reduceMod, Nat.reduceDiv, Nat.reduceBEq, Option.map_some, Zbd, Bool.false_eq_true, ZZ, YY, Zd, ite_true, ite_false, forall_const, reduceCtorEq, Nat.reduceAdd, Nat.reduceMul, Nat.reduceLeDiff, Nat.reduceLT, Nat.reduceEqDiff]
      refine ⟨⟨⟨by omega, by omega⟩, by omega, by omega⟩, ?_⟩
      rw [show List.drop a (List.take s.length s) = cutP s a s.length from rfl]
      have hpl := cutP_len s a s.length
      refine use1 (TrimSet_ok (cutP s a s.length) [32] (by omega) (by decide) (by decide)) rfl (.inl rfl) ?_
      have hbt : blankT (cutP s a s.length) = decide (Lib.trimS (cutP s a s.length) [32] = []) := rfl
      generalize cutP s a s.length = pc at *
      simp only [ZZ, YY, Zd, ite_true, ite_false, forall_const, reduceCtorEq, Nat.reduceAdd, Nat.reduceMul, Nat.reduceLeDiff, Nat.reduceLT, Nat.reduceEqDiff]
      refine br ?_ ?_
      · intro hb
        have hb : blankT pc = false := by rw [hbt]; simpa using hb
        rw [hb] at hfl
        simp only [if_true, Bool.false_eq_true, if_false] at hfl
        simp only [ZZ, YY, Zd, ite_true, ite_false, forall_const, reduceCtorEq, Nat.reduceAdd, Nat.reduceMul, Nat.reduceLeDiff, Nat.reduceLT, Nat.reduceEqDiff, strE_len]
        ((repeat' (with_reducible apply And.intro)) <;> try ((first | first | assumption | trivial | exact (fun hq => by rw [hq]; rfl) | exact i64_of (by omega) (by omega) | omega | (simp; done) | (simp; omega) | (intro hsc; have hs0 := hsc; (try have hsd := of_decide_eq_true hsc); (try simp only [Bool.not_eq_true', Bool.or_eq_false_iff, Bool.and_eq_true, Bool.or_eq_true, decide_eq_true_eq, decide_eq_false_iff_not] at hsc); (repeat' (with_reducible apply And.intro)) <;> (first | assumption | trivial | exact (fun hq => by rw [hq]; rfl) | exact i64_of (by omega) (by omega) | omega | (simp; done) | (simp; omega) | (intro hse; simp [hse, hs0]; done) | (intro hse; simp only [hse, hs0, Bool.true_and, Bool.and_true, Bool.not_false, Bool.not_true, Bool.and_self]; done))))))
        refine cut_same (by simp only [ZZ, YY, Zd, ite_true, ite_false, forall_const, reduceCtorEq, Nat.reduceAdd, Nat.reduceMul, Nat.reduceLeDiff, Nat.reduceLT, Nat.reduceEqDiff]) ?_
        simp only [ZZ, YY, Zd, ite_true, ite_false, forall_const, reduceCtorEq, Nat.reduceAdd, Nat.reduceMul, Nat.reduceLeDiff, Nat.reduceLT, Nat.reduceEqDiff]
        ((repeat' (with_reducible apply And.intro)) <;> try ((first | first | assumption | trivial | exact (fun hq => by rw [hq]; rfl) | exact i64_of (by omega) (by omega) | omega | (simp; done) | (simp; omega) | (intro hsc; have hs0 := hsc; (try have hsd := of_decide_eq_true hsc); (try simp only [Bool.not_eq_true', Bool.or_eq_false_iff, Bool.and_eq_true, Bool.or_eq_true, decide_eq_true_eq, decide_eq_false_iff_not] at hsc); (repeat' (with_reducible apply And.intro)) <;> (first | assumption | trivial | exact (fun hq => by rw [hq]; rfl) | exact i64_of (by omega) (by omega) | omega | (simp; done) | (simp; omega) | (intro hse; simp [hse, hs0]; done) | (intro hse; simp only [hse, hs0, Bool.true_and, Bool.and_true, Bool.not_false, Bool.not_true, Bool.and_self]; done))))))
        refine ⟨some 100, ?_⟩
        simp only [fwdI, renI, backL, renL, mapO, bwd, fwd, rk, uk, AV.ren, AO.ren, renKs, renCs, Option.isSome_some, Option.isSome_none, Option.some.injEq, not_true, not_false, false_and, and_false, true_and, and_true, Nat.reduceMod, Nat.reduceDiv, Nat.reduceBEq, Option.map_some, Zbd, Bool.false_eq_true, ZZ, YY, Zd, ite_true, ite_false, forall_const, reduceCtorEq, Nat.reduceAdd, Nat.reduceMul, Nat.reduceLeDiff, Nat.reduceLT, Nat.reduceEqDiff]
        rw [hend, hfl]
        (try simp only [ZZ, YY, Zd, ite_true, ite_false, forall_const, reduceCtorEq, Nat.reduceAdd, Nat.reduceMul, Nat.reduceLeDiff, Nat.reduceLT, Nat.reduceEqDiff, List.mem_cons, List.not_mem_nil, or_self, strE_one, sA1, sA2])
        (try rfl)
      · intro hb
        have hb : blankT pc = true := by rw [hbt]; simpa using hb
        rw [hb] at hfl
        simp only [if_true, Bool.false_eq_true, if_false] at hfl
        simp only [ZZ, YY, Zd, ite_true, ite_false, forall_const, reduceCtorEq, Nat.reduceAdd, Nat.reduceMul, Nat.reduceLeDiff, Nat.reduceLT, Nat.reduceEqDiff, strE_len]
        refine cut_same (by simp only [ZZ, YY, Zd, ite_true, ite_false, forall_const, reduceCtorEq, Nat.reduceAdd, Nat.reduceMul, Nat.reduceLeDiff, Nat.reduceLT, Nat.reduceEqDiff]) ?_
        simp only [ZZ, YY, Zd, ite_true, ite_false, forall_const, reduceCtorEq, Nat.reduceAdd, Nat.reduceMul, Nat.reduceLeDiff, Nat.reduceLT, Nat.reduceEqDiff]
        ((repeat' (with_reducible apply And.intro)) <;> try ((first | first | assumption | trivial | exact (fun hq => by rw [hq]; rfl) | exact i64_of (by omega) (by omega) | omega | (simp; done) | (simp; omega) | (intro hsc; have hs0 := hsc; (try have hsd := of_decide_eq_true hsc); (try simp only [Bool.not_eq_true', Bool.or_eq_false_iff, Bool.and_eq_true, Bool.or_eq_true, decide_eq_true_eq, decide_eq_false_iff_not] at hsc); (repeat' (with_reducible apply And.intro)) <;> (first | assumption | trivial | exact (fun hq => by rw [hq]; rfl) | exact i64_of (by omega) (by omega) | omega | (simp; done) | (simp; omega) | (intro hse; simp [hse, hs0]; done) | (intro hse; simp only [hse, hs0, Bool.true_and, Bool.and_true, Bool.not_false, Bool.not_true, Bool.and_self]; done))))))
        refine ⟨some 100, ?_⟩
        simp only [fwdI, renI, backL, renL, mapO, bwd, fwd, rk, uk, AV.ren, AO.ren, renKs, renCs, Option.isSome_some, Option.isSome_none, Option.some.injEq, not_true, not_false, false_and, and_false, true_and, and_true, Nat.reduceMod, Nat.reduceDiv, Nat.reduceBEq, Option.map_some, Zbd, Bool.false_eq_true, ZZ, YY, Zd, ite_true, ite_false, forall_const, reduceCtorEq, Nat.reduceAdd, Nat.reduceMul, Nat.reduceLeDiff, Nat.reduceLT, Nat.reduceEqDiff]
        rw [hend, hfl]
        (try simp only [ZZ, YY, Zd, ite_true, ite_false, forall_const, reduceCtorEq, Nat.reduceAdd, Nat.reduceMul, Nat.reduceLeDiff, Nat.reduceLT, Nat.reduceEqDiff, List.mem_cons, List.not_mem_nil, or_self, strE_one, sA1, sA2])
        (try rfl)
end Go.Proofs.YtndjmidmfmcbkaaGreatDoor

/- Addresses, several: both sides. -/
namespace Go.Proofs.YtndjmidmfmcbkaaGreatDoor
open Go.RowKit
set_option linter.unusedVariables false
set_option linter.unusedSimpArgs false
set_option linter.defProp false

/- slices.IndexFunc[[]paperchase/api.Address,paperchase/api.Address] -/
def ir_slices_IndexFunc_api_Address_api_Address_L0 : IC :=
  (.seq (.reg [⟨some 9, .bin .lss (.t 8) (.t 7), none⟩])
    (.seq (.cond (.t 9) .skip (.exit 0))
    (.seq (.block 1 (.seq (.reg [⟨some 10, .mov (.t 8), none⟩,
      ⟨some 5, .mov (.t 10), none⟩])
    (.seq (.reg [⟨some 11, .mov (.t 1), none⟩,
      ⟨some 12, .mov (.t 0), none⟩,
      ⟨some 13, .mov (.t 5), none⟩,
      ⟨some 14, .ixa 2 (.t 12) (.t 13), none⟩,
      ⟨some 15, .ld 2 true (.t 14), none⟩,
      ⟨some 16, .callv (.t 11) [.t 15], none⟩])
    (.cond (.t 16) (.seq (.reg [⟨some 17, .mov (.t 5), none⟩,
      ⟨some 4, .mov (.t 17), none⟩])
    .ret) .skip))))
    (.reg [⟨some 18, .bin .add (.t 8) (.c (.int .i64 1)), none⟩,
      ⟨some 8, .mov (.t 18), none⟩]))))
def ir_slices_IndexFunc_api_Address_api_Address : IC :=
  (.seq (.reg [⟨some 4, .mov (.c (.int .i64 0)), none⟩])
    (.seq (.seq (.reg [⟨some 6, .mov (.t 0), none⟩,
      ⟨some 7, .len (.t 6), none⟩,
      ⟨some 8, .mov (.c (.int .i64 0)), none⟩])
    (.block 0 (.loop ir_slices_IndexFunc_api_Address_api_Address_L0)))
    (.seq (.reg [⟨some 4, .mov (.c (.int .i64 (-1))), none⟩])
    .ret)))
def rs_slices_IndexFunc_api_Address_api_Address : List IRes := [.t 4]
theorem ck_slices_IndexFunc_api_Address_api_Address : chkF Tryz.prog Tryz.f175 ir_slices_IndexFunc_api_Address_api_Address rs_slices_IndexFunc_api_Address_api_Address 19 = true := by kernel_rfl
/- slices.ContainsFunc[[]paperchase/api.Address,paperchase/api.Address] -/
def ir_slices_ContainsFunc_api_Address_api_Address : IC :=
  (.seq (.reg [⟨some 4, .mov (.c (.bool false)), none⟩])
    (.seq (.reg [⟨some 5, .mov (.t 0), none⟩,
      ⟨some 6, .mov (.t 1), none⟩,
      ⟨some 7, .call 175 [.t 5, .t 6], none⟩,
      ⟨some 8, .bin .geq (.t 7) (.c (.int .i64 0)), none⟩,
      ⟨some 4, .mov (.t 8), none⟩])
    .ret))
def rs_slices_ContainsFunc_api_Address_api_Address : List IRes := [.t 4]
theorem ck_slices_ContainsFunc_api_Address_api_Address : chkF Tryz.prog Tryz.f95 ir_slices_ContainsFunc_api_Address_api_Address rs_slices_ContainsFunc_api_Address_api_Address 9 = true := by kernel_rfl
/- slices.Equal[[]paperchase/api.Address,paperchase/api.Address] -/
def ir_slices_Equal_api_Address_api_Address_L0 : IC :=
  (.seq (.reg [⟨some 14, .bin .lss (.t 13) (.t 12), none⟩])
    (.seq (.cond (.t 14) .skip (.exit 0))
    (.seq (.block 1 (.seq (.reg [⟨some 15, .mov (.t 13), none⟩,
      ⟨some 5, .mov (.t 15), none⟩])
    (.seq (.drg [⟨some 16, .mov (.t 0), none⟩,
      ⟨some 17, .mov (.t 5), none⟩,
      ⟨some 18, .ixa 2 (.t 16) (.t 17), none⟩,
      ⟨some 19, .ld 2 true (.t 18), none⟩,
      ⟨some 20, .mov (.t 1), none⟩,
      ⟨some 21, .mov (.t 5), none⟩,
      ⟨some 22, .ixa 2 (.t 20) (.t 21), none⟩,
      ⟨some 23, .ld 2 true (.t 22), none⟩,
      ⟨some 24, .eqa true [.s, .s] (.t 19) (.t 23), none⟩])
    (.cond (.t 24) (.seq (.reg [⟨some 4, .mov (.c (.bool false)), none⟩])
    .ret) .skip))))
    (.reg [⟨some 25, .bin .add (.t 13) (.c (.int .i64 1)), none⟩,
      ⟨some 13, .mov (.t 25), none⟩]))))
def ir_slices_Equal_api_Address_api_Address : IC :=
  (.seq (.reg [⟨some 4, .mov (.c (.bool false)), none⟩])
    (.seq (.seq (.reg [⟨some 6, .mov (.t 0), none⟩,
      ⟨some 7, .len (.t 6), none⟩,
      ⟨some 8, .mov (.t 1), none⟩,
      ⟨some 9, .len (.t 8), none⟩,
      ⟨some 10, .bin .neq (.t 7) (.t 9), none⟩])
    (.cond (.t 10) (.seq (.reg [⟨some 4, .mov (.c (.bool false)), none⟩])
    .ret) .skip))
    (.seq (.seq (.reg [⟨some 11, .mov (.t 0), none⟩,
      ⟨some 12, .len (.t 11), none⟩,
      ⟨some 13, .mov (.c (.int .i64 0)), none⟩])
    (.block 0 (.loop ir_slices_Equal_api_Address_api_Address_L0)))
    (.seq (.reg [⟨some 4, .mov (.c (.bool true)), none⟩])
    .ret))))
def rs_slices_Equal_api_Address_api_Address : List IRes := [.t 4]
theorem ck_slices_Equal_api_Address_api_Address : chkF Tryz.prog Tryz.f26 ir_slices_Equal_api_Address_api_Address rs_slices_Equal_api_Address_api_Address 26 = true := by kernel_rfl
/- paperchase/chaseref1.AddressesOf$2 -/
def ir_chaseref1_AddressesOf_2 : IC :=
  (.seq (.reg [⟨some 2, .box 49 (.t 0), none⟩,
      ⟨some 3, .mov (.c (.bool false)), none⟩])
    (.seq (.reg [⟨some 4, .fla 1 (.t 2), none⟩,
      ⟨some 5, .ld 1 false (.t 4), none⟩,
      ⟨some 6, .fla 1 (.t 1), none⟩,
      ⟨some 7, .ld 1 false (.t 6), none⟩,
      ⟨some 8, .bin .eql (.t 5) (.t 7), none⟩,
      ⟨some 3, .mov (.t 8), none⟩])
    .ret))
def rs_chaseref1_AddressesOf_2 : List IRes := [.t 3]
theorem ck_chaseref1_AddressesOf_2 : chkF Tryz.prog Tryz.f96 ir_chaseref1_AddressesOf_2 rs_chaseref1_AddressesOf_2 9 = true := by kernel_rfl
/- paperchase/thread.Addresses -/
def ir_thread_Addresses_L0 : IC :=
  (.seq (.reg [⟨some 23, .bin .lss (.t 22) (.t 21), none⟩])
    (.seq (.cond (.t 23) .skip (.exit 0))
    (.seq (.block 1 (.seq (.reg [⟨some 24, .ixa 1 (.t 20) (.t 22), none⟩,
      ⟨some 25, .ld 1 false (.t 24), none⟩,
      ⟨some 8, .mov (.t 25), none⟩])
    (.seq (.reg [⟨some 27, .mov (.t 8), none⟩,
      ⟨some 28, .call 88 [.t 27], none⟩,
      ⟨some 26, .mov (.t 28), none⟩,
      ⟨some 29, .ext 0 (.t 26), none⟩,
      ⟨some 30, .ext 1 (.t 26), none⟩,
      ⟨some 9, .alc 49 [.str [], .str []], none⟩,
      ⟨none, .st 2 (.t 9) (.t 29), none⟩,
      ⟨some 10, .mov (.t 30), none⟩])
    (.seq (.seq (.reg [⟨some 31, .mov (.t 10), none⟩,
      ⟨some 32, .not (.t 31), none⟩])
    (.cond (.t 32) (.seq (.reg [⟨some 2, .mov (.c (.nl 2)), none⟩,
      ⟨some 3, .mov (.c (.int .i64 9)), none⟩])
    .ret) .skip))
    (.seq (.reg [⟨some 33, .mov (.t 6), none⟩,
      ⟨some 34, .fla 1 (.t 9), none⟩,
      ⟨some 35, .ld 1 false (.t 34), none⟩,
      ⟨some 36, .mpl false (.bool false) (.t 33) (.t 35), none⟩,
      ⟨some 37, .not (.t 36), none⟩])
    (.cond (.t 37) (.seq (.reg [⟨some 38, .mov (.t 6), none⟩,
      ⟨some 39, .fla 1 (.t 9), none⟩,
      ⟨some 40, .ld 1 false (.t 39), none⟩,
      ⟨none, .mpu (.t 38) (.t 40) (.c (.bool true)), none⟩])
    (.reg [⟨some 41, .mov (.t 5), none⟩,
      ⟨some 42, .ld 2 true (.t 9), none⟩,
      ⟨some 43, .bsl 2 [.t 42], none⟩,
      ⟨some 44, .app 49 2 32 (.t 41) (.t 43), none⟩,
      ⟨some 5, .mov (.t 44), none⟩])) .skip))))))
    (.cut (.reg [⟨some 45, .bin .add (.t 22) (.c (.int .i64 1)), none⟩,
      ⟨some 22, .mov (.t 45), none⟩])))))
def ir_thread_Addresses : IC :=
  (.seq (.reg [⟨some 2, .mov (.c (.nl 2)), none⟩,
      ⟨some 3, .mov (.c (.int .i64 0)), none⟩])
    (.seq (.seq (.reg [⟨some 11, .mov (.t 0), none⟩,
      ⟨some 12, .sln (.t 11), none⟩,
      ⟨some 13, .bin .gtr (.t 12) (.c (.int .i64 20000)), none⟩])
    (.cond (.t 13) (.seq (.reg [⟨some 2, .mov (.c (.nl 2)), none⟩,
      ⟨some 3, .mov (.c (.int .i64 2)), none⟩])
    .ret) .skip))
    (.seq (.reg [⟨some 14, .mov (.t 0), none⟩,
      ⟨some 15, .call 91 [.t 14], none⟩,
      ⟨some 4, .mov (.t 15), none⟩])
    (.seq (.seq (.reg [⟨some 16, .mov (.t 4), none⟩,
      ⟨some 17, .len (.t 16), none⟩,
      ⟨some 18, .bin .gtr (.t 17) (.c (.int .i64 100)), none⟩])
    (.cond (.t 18) (.seq (.reg [⟨some 2, .mov (.c (.nl 2)), none⟩,
      ⟨some 3, .mov (.c (.int .i64 2)), none⟩])
    .ret) .skip))
    (.seq (.reg [⟨some 5, .nilr 49 2, none⟩])
    (.seq (.reg [⟨some 19, .mkm 9 4, none⟩,
      ⟨some 6, .mov (.t 19), none⟩])
    (.seq (.seq (.reg [⟨some 20, .mov (.t 4), none⟩,
      ⟨some 21, .len (.t 20), none⟩,
      ⟨some 22, .mov (.c (.int .i64 0)), none⟩])
    (.block 0 (.loop ir_thread_Addresses_L0)))
    (.seq (.reg [⟨some 46, .mov (.t 5), none⟩,
      ⟨some 2, .mov (.t 46), none⟩,
      ⟨some 3, .mov (.c (.int .i64 0)), none⟩])
    .ret))))))))
def rs_thread_Addresses : List IRes := [.t 2, .t 3]
theorem ck_thread_Addresses : chkF Tryz.prog Tryz.f24 ir_thread_Addresses rs_thread_Addresses 47 = true := by kernel_rfl

abbrev tBoolA : Nat := 4
abbrev AdT := List UInt8 × List UInt8
def adC (q : AdT) : List PV := [.str q.1, .str q.2]
def adrE (l : List AdT) : List (List PV) := l.map adC
theorem adrE_len (l : List AdT) : (adrE l).length = l.length := by simp [adrE]
theorem adrE_get {l : List AdT} {k : Nat} {x : AdT} (h : l[k]? = some x) : (adrE l).getD k [] = [.str x.1, .str x.2] := getD_map h
theorem adrE_app (l : List AdT) (x : AdT) : adrE l ++ [[.str x.1, .str x.2]] = adrE (l ++ [x]) := by simp [adrE, adC]
section
variable {E : Envt}
theorem IndexFuncA_ok (l : List AdT) (f : FuncId) (ps : List PV) (q : AdT → Bool) (hl : l.length ≤ 1000000000) (hfn : Unit → fnB Tryz.prog f = true) (hps : Zk [] (ps.map .p) = true) (hf : ∀ x ∈ l, PCall Tryz.prog E f (.agg (adC x) :: ps) (· = .bool (q x))) (hn : ∀ x, Zba [] (.p (.agg (adC x)) :: ps.map .p) = some (.agg (adC x) :: ps)) (hr : ∀ x, Zbc (.p (.agg (adC x)) :: ps.map .p) = true) : PCall Tryz.prog E 175 [.sl 2 (adrE l), .clo f ps] (· = int (idxF q l)) := by
  refine pcallF mixed Tryz.func175 ck_slices_IndexFunc_api_Address_api_Address ?_
  simp only [a0, l0, OS.ao, List.map_cons, List.map_nil, List.length_cons, List.length_nil, List.cons_append, List.nil_append, Nat.reduceSub, Nat.reduceAdd, List.replicate_succ, List.replicate_zero, ir_slices_IndexFunc_api_Address_api_Address, rs_slices_IndexFunc_api_Address_api_Address, ZZ, YY, Zd, ite_true, ite_false, forall_const, reduceCtorEq, Nat.reduceAdd, Nat.reduceMul, Nat.reduceLeDiff, Nat.reduceLT, Nat.reduceEqDiff]
  simp only [ZZ, YY, Zd, ite_true, ite_false, forall_const, reduceCtorEq, Nat.reduceAdd, Nat.reduceMul, Nat.reduceLeDiff, Nat.reduceLT, Nat.reduceEqDiff, adrE_len]
  refine loop_intro (fun n fr L => ∃ (k : Nat), k ≤ l.length ∧ n = l.length - k ∧ (∀ x ∈ l.take k, q x = false) ∧ fr = [.p (.sl 2 (adrE l)), .p (.clo f ps), .any, .any, .any, .any, .any, .p (int (l.length : Nat)), .p (int (k : Nat)), .any, .any, .any, .any, .any, .any, .any, .any, .any, .any] ∧ L = []) (l.length) [.p (.sl 2 (adrE l)), .p (.clo f ps), .any, .any, .any, .any, .any, .p (int (l.length : Nat)), .p (int (0 : Nat)), .any, .any, .any, .any, .any, .any, .any, .any, .any, .any] [] (by simp only [adrE_len, ZZ, YY, Zd, ite_true, ite_false, forall_const, reduceCtorEq, Nat.reduceAdd, Nat.reduceMul, Nat.reduceLeDiff, Nat.reduceLT, Nat.reduceEqDiff]; try trivial) (by (simp only [ZZ, YY, Zd, ite_true, ite_false, forall_const, reduceCtorEq, Nat.reduceAdd, Nat.reduceMul, Nat.reduceLeDiff, Nat.reduceLT, Nat.reduceEqDiff]; try trivial)) ⟨0, by omega, by omega, by simp, rfl, rfl⟩ ?_
  rintro n fr L ⟨k, hk, rfl, hno, rfl, rfl⟩
  simp only [ir_slices_IndexFunc_api_Address_api_Address_L0, ZZ, YY, Zd, ite_true, ite_false, forall_const, reduceCtorEq, Nat.reduceAdd, Nat.reduceMul, Nat.reduceLeDiff, Nat.reduceLT, Nat.reduceEqDiff]
  refine br ?_ ?_
  · intro h
    have hlt : k < l.length := by have := of_decide_eq_true h; omega
    obtain ⟨x, hx⟩ : ∃ x, l[k]? = some x := ⟨_, List.getElem?_eq_getElem hlt⟩
    have hg := adrE_get hx
    simp only [ZZ, YY, Zd, ite_true, ite_false, forall_const, reduceCtorEq, Nat.reduceAdd, Nat.reduceMul, Nat.reduceLeDiff, Nat.reduceLT, Nat.reduceEqDiff, hg, adrE_len, hfn ()]
    refine ⟨⟨by omega, by omega⟩, by omega, hps, ?_⟩
    refine use1 (hf x (List.mem_of_getElem? hx)) (hn x) (.inl (hr x)) ?_
    simp only [ZZ, YY, Zd, ite_true, ite_false, forall_const, reduceCtorEq, Nat.reduceAdd, Nat.reduceMul, Nat.reduceLeDiff, Nat.reduceLT, Nat.reduceEqDiff]
    refine br ?_ ?_
    · intro hq
      simp only [ZZ, YY, Zd, ite_true, ite_false, forall_const, reduceCtorEq, Nat.reduceAdd, Nat.reduceMul, Nat.reduceLeDiff, Nat.reduceLT, Nat.reduceEqDiff]
      rw [idxF_hit hx hq hno]
    · intro hq
      simp only [ZZ, YY, Zd, ite_true, ite_false, forall_const, reduceCtorEq, Nat.reduceAdd, Nat.reduceMul, Nat.reduceLeDiff, Nat.reduceLT, Nat.reduceEqDiff]
      ((repeat' (with_reducible apply And.intro)) <;> try ((first | first | assumption | trivial | exact (fun hq => by rw [hq]; rfl) | exact i64_of (by omega) (by omega) | omega | (simp; done) | (simp; omega) | (intro hsc; have hs0 := hsc; (try have hsd := of_decide_eq_true hsc); (try simp only [Bool.not_eq_true', Bool.or_eq_false_iff, Bool.and_eq_true, Bool.or_eq_true, decide_eq_true_eq, decide_eq_false_iff_not] at hsc); (repeat' (with_reducible apply And.intro)) <;> (first | assumption | trivial | exact (fun hq => by rw [hq]; rfl) | exact i64_of (by omega) (by omega) | omega | (simp; done) | (simp; omega) | (intro hse; simp [hse, hs0]; done) | (intro hse; simp only [hse, hs0, Bool.true_and, Bool.and_true, Bool.not_false, Bool.not_true, Bool.and_self]; done))))))
      refine end_round (l.length - (k + 1)) [.p (.sl 2 (adrE l)), .p (.clo f ps), .any, .any, .any, .any, .any, .p (int (l.length : Nat)), .p (int ((k + 1) : Nat)), .any, .any, .any, .any, .any, .any, .any, .any, .any, .any] [] (by omega) (by (simp only [ZZ, YY, Zd, ite_true, ite_false, forall_const, reduceCtorEq, Nat.reduceAdd, Nat.reduceMul, Nat.reduceLeDiff, Nat.reduceLT, Nat.reduceEqDiff]; try trivial)) (by (simp only [ZZ, YY, Zd, ite_true, ite_false, forall_const, reduceCtorEq, Nat.reduceAdd, Nat.reduceMul, Nat.reduceLeDiff, Nat.reduceLT, Nat.reduceEqDiff]; try trivial)) ⟨k + 1, by omega, rfl, by rw [List.take_succ_eq_append_getElem hlt]; intro y hy; rcases List.mem_append.1 hy with hy | hy; exact hno y hy; rw [List.mem_singleton] at hy; rw [hy, (List.getElem?_eq_some_iff.1 hx).2]; exact hq, rfl, rfl⟩
  · intro h
    have hge : l.length ≤ k := by have := of_decide_eq_false h; omega
    rw [List.take_of_length_le hge] at hno
    simp only [ZZ, YY, Zd, ite_true, ite_false, forall_const, reduceCtorEq, Nat.reduceAdd, Nat.reduceMul, Nat.reduceLeDiff, Nat.reduceLT, Nat.reduceEqDiff]
    rw [idxF_none hno]
theorem ContainsFuncA_ok (l : List AdT) (f : FuncId) (ps : List PV) (q : AdT → Bool) (hl : l.length ≤ 1000000000) (hfn : Unit → fnB Tryz.prog f = true) (hps : Zk [] (ps.map .p) = true) (hf : ∀ x ∈ l, PCall Tryz.prog E f (.agg (adC x) :: ps) (· = .bool (q x))) (hn : ∀ x, Zba [] (.p (.agg (adC x)) :: ps.map .p) = some (.agg (adC x) :: ps)) (hr : ∀ x, Zbc (.p (.agg (adC x)) :: ps.map .p) = true) : PCall Tryz.prog E 95 [.sl 2 (adrE l), .clo f ps] (· = .bool (l.any q)) := by
  refine pcallF mixed Tryz.func95 ck_slices_ContainsFunc_api_Address_api_Address ?_
  simp only [a0, l0, OS.ao, List.map_cons, List.map_nil, List.length_cons, List.length_nil, List.cons_append, List.nil_append, Nat.reduceSub, Nat.reduceAdd, List.replicate_succ, List.replicate_zero, ir_slices_ContainsFunc_api_Address_api_Address, rs_slices_ContainsFunc_api_Address_api_Address, ZZ, YY, Zd, ite_true, ite_false, forall_const, reduceCtorEq, Nat.reduceAdd, Nat.reduceMul, Nat.reduceLeDiff, Nat.reduceLT, Nat.reduceEqDiff]
  refine use1 (IndexFuncA_ok l f ps q hl hfn hps hf hn hr) rfl (.inl rfl) ?_
  simp only [ZZ, YY, Zd, ite_true, ite_false, forall_const, reduceCtorEq, Nat.reduceAdd, Nat.reduceMul, Nat.reduceLeDiff, Nat.reduceLT, Nat.reduceEqDiff]
  rw [idxF_any]
theorem AddressesOf2_ok (x y : AdT) : PCall Tryz.prog E 96 [.agg (adC x), .ptr (adC y)] (· = .bool (decide (x.2 = y.2))) := by
  simp only [adC]
  refine pcallF mixed Tryz.func96 ck_chaseref1_AddressesOf_2 ?_
  simp only [a0, l0, OS.ao, List.map_cons, List.map_nil, List.length_cons, List.length_nil, List.cons_append, List.nil_append, Nat.reduceSub, Nat.reduceAdd, List.replicate_succ, List.replicate_zero, ir_chaseref1_AddressesOf_2, rs_chaseref1_AddressesOf_2, ZZ, YY, Zd, ite_true, ite_false, forall_const, reduceCtorEq, Nat.reduceAdd, Nat.reduceMul, Nat.reduceLeDiff, Nat.reduceLT, Nat.reduceEqDiff]
theorem EqualA_ok (l m : List AdT) (hl : l.length ≤ 1000000000) : PCall Tryz.prog E 26 [.sl 2 (adrE l), .sl 2 (adrE m)] (· = .bool (decide (l = m))) := by
  refine pcallF mixed Tryz.func26 ck_slices_Equal_api_Address_api_Address ?_
  simp only [a0, l0, OS.ao, List.map_cons, List.map_nil, List.length_cons, List.length_nil, List.cons_append, List.nil_append, Nat.reduceSub, Nat.reduceAdd, List.replicate_succ, List.replicate_zero, ir_slices_Equal_api_Address_api_Address, rs_slices_Equal_api_Address_api_Address, ZZ, YY, Zd, ite_true, ite_false, forall_const, reduceCtorEq, Nat.reduceAdd, Nat.reduceMul, Nat.reduceLeDiff, Nat.reduceLT, Nat.reduceEqDiff]
  simp only [ZZ, YY, Zd, ite_true, ite_false, forall_const, reduceCtorEq, Nat.reduceAdd, Nat.reduceMul, Nat.reduceLeDiff, Nat.reduceLT, Nat.reduceEqDiff, adrE_len]
  refine br ?_ ?_
  · intro h
    have : ¬ l = m := by rintro rfl; simp at h
    simp only [ZZ, YY, Zd, ite_true, ite_false, forall_const, reduceCtorEq, Nat.reduceAdd, Nat.reduceMul, Nat.reduceLeDiff, Nat.reduceLT, Nat.reduceEqDiff]
    simp [this]
  intro h
  have hlen : l.length = m.length := by have : (l.length : Int) = m.length := by simpa using h
                                        omega
  simp only [ZZ, YY, Zd, ite_true, ite_false, forall_const, reduceCtorEq, Nat.reduceAdd, Nat.reduceMul, Nat.reduceLeDiff, Nat.reduceLT, Nat.reduceEqDiff]
  refine loop_intro (fun n fr L => ∃ (k : Nat), k ≤ l.length ∧ n = l.length - k ∧ (l.take k = m.take k) ∧ fr = [.p (.sl 2 (adrE l)), .p (.sl 2 (adrE m)), .any, .any, .any, .any, .any, .any, .any, .any, .any, .any, .p (int (l.length : Nat)), .p (int (k : Nat)), .any, .any, .any, .any, .any, .any, .any, .any, .any, .any, .any, .any] ∧ L = []) (l.length) [.p (.sl 2 (adrE l)), .p (.sl 2 (adrE m)), .any, .any, .any, .any, .any, .any, .any, .any, .any, .any, .p (int (l.length : Nat)), .p (int (0 : Nat)), .any, .any, .any, .any, .any, .any, .any, .any, .any, .any, .any, .any] [] (by simp only [ZZ, YY, Zd, ite_true, ite_false, forall_const, reduceCtorEq, Nat.reduceAdd, Nat.reduceMul, Nat.reduceLeDiff, Nat.reduceLT, Nat.reduceEqDiff, adrE_len]; try trivial) (by (simp only [ZZ, YY, Zd, ite_true, ite_false, forall_const, reduceCtorEq, Nat.reduceAdd, Nat.reduceMul, Nat.reduceLeDiff, Nat.reduceLT, Nat.reduceEqDiff]; try trivial)) ⟨0, by omega, by omega, by simp, rfl, rfl⟩ ?_
  rintro n fr L ⟨k, hk, rfl, hf, rfl, rfl⟩
  simp only [ir_slices_Equal_api_Address_api_Address_L0, ZZ, YY, Zd, ite_true, ite_false, forall_const, reduceCtorEq, Nat.reduceAdd, Nat.reduceMul, Nat.reduceLeDiff, Nat.reduceLT, Nat.reduceEqDiff]
  refine br ?_ ?_
  · intro h
    have hlt : k < l.length := by have := of_decide_eq_true h; omega
    obtain ⟨x, hx⟩ : ∃ x, l[k]? = some x := ⟨_, List.getElem?_eq_getElem hlt⟩
    obtain ⟨y, hy⟩ : ∃ y, m[k]? = some y := ⟨_, List.getElem?_eq_getElem (by omega)⟩
    have hg := adrE_get hx
    have hg2 := adrE_get hy
    simp only [ZZ, YY, Zd, ite_true, ite_false, forall_const, reduceCtorEq, Nat.reduceAdd, Nat.reduceMul, Nat.reduceLeDiff, Nat.reduceLT, Nat.reduceEqDiff]
    refine drg0 ?_
    simp only [ZZ, YY, Zd, ite_true, ite_false, forall_const, reduceCtorEq, Nat.reduceAdd, Nat.reduceMul, Nat.reduceLeDiff, Nat.reduceLT, Nat.reduceEqDiff, hg, hg2, adrE_len]
    ((repeat' (with_reducible apply And.intro)) <;> try ((first | first | assumption | trivial | exact (fun hq => by rw [hq]; rfl) | exact i64_of (by omega) (by omega) | omega | (simp; done) | (simp; omega) | (intro hsc; have hs0 := hsc; (try have hsd := of_decide_eq_true hsc); (try simp only [Bool.not_eq_true', Bool.or_eq_false_iff, Bool.and_eq_true, Bool.or_eq_true, decide_eq_true_eq, decide_eq_false_iff_not] at hsc); (repeat' (with_reducible apply And.intro)) <;> (first | assumption | trivial | exact (fun hq => by rw [hq]; rfl) | exact i64_of (by omega) (by omega) | omega | (simp; done) | (simp; omega) | (intro hse; simp [hse, hs0]; done) | (intro hse; simp only [hse, hs0, Bool.true_and, Bool.and_true, Bool.not_false, Bool.not_true, Bool.and_self]; done))))))
    refine br ?_ ?_
    · intro h2
      have : ¬ l = m := by
        rintro rfl
        rw [hx] at hy
        cases hy
        simp at h2
      simp only [ZZ, YY, Zd, ite_true, ite_false, forall_const, reduceCtorEq, Nat.reduceAdd, Nat.reduceMul, Nat.reduceLeDiff, Nat.reduceLT, Nat.reduceEqDiff]
      simp [this]
    · intro h2
      have hxy : x = y := by
        simp only [Bool.not_eq_false', Bool.and_eq_true, decide_eq_true_eq] at h2
        exact Prod.ext h2.1 h2.2
      have hf2 : l.take (k + 1) = m.take (k + 1) := by
        rw [List.take_add_one, List.take_add_one, hf, hx, hy, hxy]
      simp only [ZZ, YY, Zd, ite_true, ite_false, forall_const, reduceCtorEq, Nat.reduceAdd, Nat.reduceMul, Nat.reduceLeDiff, Nat.reduceLT, Nat.reduceEqDiff]
      ((repeat' (with_reducible apply And.intro)) <;> try ((first | first | assumption | trivial | exact (fun hq => by rw [hq]; rfl) | exact i64_of (by omega) (by omega) | omega | (simp; done) | (simp; omega) | (intro hsc; have hs0 := hsc; (try have hsd := of_decide_eq_true hsc); (try simp only [Bool.not_eq_true', Bool.or_eq_false_iff, Bool.and_eq_true, Bool.or_eq_true, decide_eq_true_eq, decide_eq_false_iff_not] at hsc); (repeat' (with_reducible apply And.intro)) <;> (first | assumption | trivial | exact (fun hq => by rw [hq]; rfl) | exact i64_of (by omega) (by omega) | omega | (simp; done) | (simp; omega) | (intro hse; simp [hse, hs0]; done) | (intro hse; simp only [hse, hs0, Bool.true_and, Bool.and_true, Bool.not_false, Bool.not_true, Bool.and_self]; done))))))
      refine end_round (l.length - (k + 1)) [.p (.sl 2 (adrE l)), .p (.sl 2 (adrE m)), .any, .any, .any, .any, .any, .any, .any, .any, .any, .any, .p (int (l.length : Nat)), .p (int ((k + 1) : Nat)), .any, .any, .any, .any, .any, .any, .any, .any, .any, .any, .any, .any] [] (by omega) (by (simp only [ZZ, YY, Zd, ite_true, ite_false, forall_const, reduceCtorEq, Nat.reduceAdd, Nat.reduceMul, Nat.reduceLeDiff, Nat.reduceLT, Nat.reduceEqDiff]; try trivial)) (by (simp only [ZZ, YY, Zd, ite_true, ite_false, forall_const, reduceCtorEq, Nat.reduceAdd, Nat.reduceMul, Nat.reduceLeDiff, Nat.reduceLT, Nat.reduceEqDiff]; try trivial)) ⟨k + 1, by omega, rfl, hf2, rfl, rfl⟩
  · intro h
    have hge : l.length ≤ k := by have := of_decide_eq_false h; omega
    rw [List.take_of_length_le hge, List.take_of_length_le (by omega)] at hf
    simp only [ZZ, YY, Zd, ite_true, ite_false, forall_const, reduceCtorEq, Nat.reduceAdd, Nat.reduceMul, Nat.reduceLeDiff, Nat.reduceLT, Nat.reduceEqDiff]
    simp [hf]
end
/-- The addresses of pieces, each mail once. -/
def adsG : List (List UInt8) → List AdT → Option (List AdT)
  | [], o => some o
  | x :: r, o => match adP (Lib.trimS x [32]) with
    | none => none
    | some q => if o.any (fun z => decide (z.2 = q.2)) = true then adsG r o else adsG r (o ++ [q])
def adsE (q : Option (List AdT)) : List AdT × Int := match q with
  | none => ([], 9)
  | some o => (o, 0)
def adsF (s : List UInt8) : List AdT × Int := if 20000 < (s.length : Int) then ([], 2) else if 100 < ((pieceF s).length : Int) then ([], 2) else adsE (adsG (pieceF s) [])
theorem adsG_none {p : List (List UInt8)} {k : Nat} {x : List UInt8} {o : List AdT} (hx : p[k]? = some x) (ha : adP (Lib.trimS x [32]) = none) : adsG (p.drop k) o = none := by
  rw [List.drop_eq_getElem_cons (List.getElem?_eq_some_iff.1 hx).1, (List.getElem?_eq_some_iff.1 hx).2, adsG, ha]
theorem adsG_some {p : List (List UInt8)} {k : Nat} {x : List UInt8} {o : List AdT} {q : AdT} (hx : p[k]? = some x) (ha : adP (Lib.trimS x [32]) = some q) : adsG (p.drop k) o = if o.any (fun z => decide (z.2 = q.2)) = true then adsG (p.drop (k + 1)) o else adsG (p.drop (k + 1)) (o ++ [q]) := by
  rw [List.drop_eq_getElem_cons (List.getElem?_eq_some_iff.1 hx).1, (List.getElem?_eq_some_iff.1 hx).2, adsG, ha]
theorem any_mem (o : List AdT) (m : List UInt8) : o.any (fun z => decide (z.2 = m)) = decide (m ∈ o.map (·.2)) := by
  rw [Bool.eq_iff_iff]
  simp
theorem pieceF_len (s : List UInt8) : (pieceF s).length ≤ s.length + 1 ∧ ∀ x ∈ pieceF s, x.length ≤ s.length := by
  obtain ⟨h1, h2, h3⟩ := stQ_inv s s.length
  have hA : (pieceA s).length ≤ s.length + 1 := by unfold pieceA; rw [List.length_append, List.length_singleton]; omega
  refine ⟨Nat.le_trans (List.length_filter_le _ _) hA, fun x hx => ?_⟩
  have hx := (List.mem_filter.1 hx).1
  unfold pieceA at hx
  rcases List.mem_append.1 hx with hx | hx
  · exact h3 x hx
  · rw [List.mem_singleton] at hx; rw [hx]; exact cutP_len _ _ _
theorem Addresses_ok (s : List UInt8) (hs : s.length ≤ 900000) : PCall Tryz.prog E0 24 [.str s] (· = .tup [.sl 2 (adrE (adsF s).1), int (adsF s).2]) := by
  refine pcallF mixed Tryz.func24 ck_thread_Addresses ?_
  simp only [a0, l0, OS.ao, List.map_cons, List.map_nil, List.length_cons, List.length_nil, List.cons_append, List.nil_append, Nat.reduceSub, Nat.reduceAdd, List.replicate_succ, List.replicate_zero, ir_thread_Addresses, rs_thread_Addresses, ZZ, YY, Zd, ite_true, ite_false, forall_const, reduceCtorEq, Nat.reduceAdd, Nat.reduceMul, Nat.reduceLeDiff, Nat.reduceLT, Nat.reduceEqDiff]
  rw [adsF]
  refine br ?_ ?_
  · intro h
    rw [if_pos (of_decide_eq_true h)]
    simp only [ZZ, YY, Zd, ite_true, ite_false, forall_const, reduceCtorEq, Nat.reduceAdd, Nat.reduceMul, Nat.reduceLeDiff, Nat.reduceLT, Nat.reduceEqDiff]
    rfl
  intro h
  rw [if_neg (of_decide_eq_false h)]
  simp only [ZZ, YY, Zd, ite_true, ite_false, forall_const, reduceCtorEq, Nat.reduceAdd, Nat.reduceMul, Nat.reduceLeDiff, Nat.reduceLT, Nat.reduceEqDiff]
  refine use1 (parts_ok s hs) rfl (.inl rfl) ?_
  obtain ⟨hpl, hpb⟩ := pieceF_len s
  generalize pieceF s = p at *
  simp only [ZZ, YY, Zd, ite_true, ite_false, forall_const, reduceCtorEq, Nat.reduceAdd, Nat.reduceMul, Nat.reduceLeDiff, Nat.reduceLT, Nat.reduceEqDiff, strE_len]
  refine br ?_ ?_
  · intro h
    rw [if_pos (of_decide_eq_true h)]
    simp only [ZZ, YY, Zd, ite_true, ite_false, forall_const, reduceCtorEq, Nat.reduceAdd, Nat.reduceMul, Nat.reduceLeDiff, Nat.reduceLT, Nat.reduceEqDiff]
    rfl
  intro h
  rw [if_neg (of_decide_eq_false h)]
  simp only [ZZ, YY, Zd, ite_true, ite_false, forall_const, reduceCtorEq, Nat.reduceAdd, Nat.reduceMul, Nat.reduceLeDiff, Nat.reduceLT, Nat.reduceEqDiff, strE_len]
  refine loop_intro (fun n fr L => ∃ (k : Nat) (o : List AdT) (kv : List (List UInt8 × PV)), k ≤ p.length ∧ n = p.length - k ∧ (adsG (p.drop k) o = adsG p []) ∧ (setOf kv (o.map (·.2))) ∧ (o.length ≤ k) ∧ fr = [.any, .any, .any, .any, .any, .row (.l 5), .mp (.l 19), .any, .any, .any, .any, .any, .any, .any, .any, .any, .any, .any, .any, .any, .p (.sl 1 (strE p)), .p (int (p.length : Nat)), .p (int (k : Nat)), .any, .any, .any, .any, .any, .any, .any, .any, .any, .any, .any, .any, .any, .any, .any, .any, .any, .any, .any, .any, .any, .any, .any, .any] ∧ L = [(.l 5, .row (adrE o) tAddr 2 true), (.l 19, .map kv tStr tBoolA)]) (p.length) [.any, .any, .any, .any, .any, .row (.l 5), .mp (.l 19), .any, .any, .any, .any, .any, .any, .any, .any, .any, .any, .any, .any, .any, .p (.sl 1 (strE p)), .p (int (p.length : Nat)), .p (int (0 : Nat)), .any, .any, .any, .any, .any, .any, .any, .any, .any, .any, .any, .any, .any, .any, .any, .any, .any, .any, .any, .any, .any, .any, .any, .any] [(.l 5, .row (adrE []) tAddr 2 true), (.l 19, .map [] tStr tBoolA)] (by simp only [ZZ, YY, Zd, ite_true, ite_false, forall_const, reduceCtorEq, Nat.reduceAdd, Nat.reduceMul, Nat.reduceLeDiff, Nat.reduceLT, Nat.reduceEqDiff, strE_len]; try trivial) (by simp only [ZZ, YY, Zd, ite_true, ite_false, forall_const, reduceCtorEq, Nat.reduceAdd, Nat.reduceMul, Nat.reduceLeDiff, Nat.reduceLT, Nat.reduceEqDiff]; rfl) ⟨0, [], [], by omega, by omega, by simp, setOf_nil, by simp, rfl, rfl⟩ ?_
  rintro n fr L ⟨k, o, kv, hk, rfl, ho, hkv, hol, rfl, rfl⟩
  simp only [ir_thread_Addresses_L0, ZZ, YY, Zd, ite_true, ite_false, forall_const, reduceCtorEq, Nat.reduceAdd, Nat.reduceMul, Nat.reduceLeDiff, Nat.reduceLT, Nat.reduceEqDiff]
  refine br ?_ ?_
  · intro h
    have hlt : k < p.length := by have := of_decide_eq_true h; omega
    obtain ⟨x, hx⟩ : ∃ x, p[k]? = some x := ⟨_, List.getElem?_eq_getElem hlt⟩
    have hg := strE_get hx
    have hxb := hpb x (List.mem_of_getElem? hx)
    simp only [ZZ, YY, Zd, ite_true, ite_false, forall_const, reduceCtorEq, Nat.reduceAdd, Nat.reduceMul, Nat.reduceLeDiff, Nat.reduceLT, Nat.reduceEqDiff, hg, strE_len]
    ((repeat' (with_reducible apply And.intro)) <;> try ((first | first | assumption | trivial | exact (fun hq => by rw [hq]; rfl) | exact i64_of (by omega) (by omega) | omega | (simp; done) | (simp; omega) | (intro hsc; have hs0 := hsc; (try have hsd := of_decide_eq_true hsc); (try simp only [Bool.not_eq_true', Bool.or_eq_false_iff, Bool.and_eq_true, Bool.or_eq_true, decide_eq_true_eq, decide_eq_false_iff_not] at hsc); (repeat' (with_reducible apply And.intro)) <;> (first | assumption | trivial | exact (fun hq => by rw [hq]; rfl) | exact i64_of (by omega) (by omega) | omega | (simp; done) | (simp; omega) | (intro hse; simp [hse, hs0]; done) | (intro hse; simp only [hse, hs0, Bool.true_and, Bool.and_true, Bool.not_false, Bool.not_true, Bool.and_self]; done))))))
    refine use1 (address_ok x (by omega)) rfl (.inl rfl) ?_
    have hP := adQ_P (Lib.trimS x [32])
    generalize adQ (Lib.trimS x [32]) = q at *
    obtain ⟨n, m, b⟩ := q
    simp only at hP
    simp only [ZZ, YY, Zd, ite_true, ite_false, forall_const, reduceCtorEq, Nat.reduceAdd, Nat.reduceMul, Nat.reduceLeDiff, Nat.reduceLT, Nat.reduceEqDiff]
    refine br ?_ ?_
    · intro hb
      have hb : b = false := by simpa using hb
      rw [hb, if_neg (by simp)] at hP
      rw [adsG_none hx hP] at ho
      rw [← ho]
      simp only [ZZ, YY, Zd, ite_true, ite_false, forall_const, reduceCtorEq, Nat.reduceAdd, Nat.reduceMul, Nat.reduceLeDiff, Nat.reduceLT, Nat.reduceEqDiff]
      rfl
    intro hb
    have hb : b = true := by simpa using hb
    rw [hb, if_pos rfl] at hP
    have hstep := adsG_some (o := o) hx hP
    rw [ho, any_mem] at hstep
    have hkm := hkv m
    simp only [ZZ, YY, Zd, ite_true, ite_false, forall_const, reduceCtorEq, Nat.reduceAdd, Nat.reduceMul, Nat.reduceLeDiff, Nat.reduceLT, Nat.reduceEqDiff, hkm]
    refine br ?_ ?_
    · intro hm
      have hm : ¬ m ∈ o.map (·.2) := by simpa using hm
      rw [if_neg (by simpa using hm)] at hstep
      simp only [ZZ, YY, Zd, ite_true, ite_false, forall_const, reduceCtorEq, Nat.reduceAdd, Nat.reduceMul, Nat.reduceLeDiff, Nat.reduceLT, Nat.reduceEqDiff, adrE_len]
      refine ⟨by omega, ?_⟩
      refine cut_same (by simp only [ZZ, YY, Zd, ite_true, ite_false, forall_const, reduceCtorEq, Nat.reduceAdd, Nat.reduceMul, Nat.reduceLeDiff, Nat.reduceLT, Nat.reduceEqDiff]) ?_
      simp only [ZZ, YY, Zd, ite_true, ite_false, forall_const, reduceCtorEq, Nat.reduceAdd, Nat.reduceMul, Nat.reduceLeDiff, Nat.reduceLT, Nat.reduceEqDiff]
      refine ⟨i64_of (by omega) (by omega), ?_⟩
      rw [adrE_app o (n, m)]
      refine end_round (p.length - (k + 1)) [.any, .any, .any, .any, .any, .row (.l 5), .mp (.l 19), .any, .any, .any, .any, .any, .any, .any, .any, .any, .any, .any, .any, .any, .p (.sl 1 (strE p)), .p (int (p.length : Nat)), .p (int ((k + 1) : Nat)), .any, .any, .any, .any, .any, .any, .any, .any, .any, .any, .any, .any, .any, .any, .any, .any, .any, .any, .any, .any, .any, .any, .any, .any] [(.l 5, .row (adrE (o ++ [(n, m)])) tAddr 2 true), (.l 19, .map (mpS kv m (.bool true)) tStr tBoolA)] (by omega) (by (simp only [ZZ, YY, Zd, ite_true, ite_false, forall_const, reduceCtorEq, Nat.reduceAdd, Nat.reduceMul, Nat.reduceLeDiff, Nat.reduceLT, Nat.reduceEqDiff]; try trivial)) (by (simp only [ZZ, YY, Zd, ite_true, ite_false, forall_const, reduceCtorEq, Nat.reduceAdd, Nat.reduceMul, Nat.reduceLeDiff, Nat.reduceLT, Nat.reduceEqDiff]; try trivial)) ⟨k + 1, o ++ [(n, m)], mpS kv m (.bool true), by omega, rfl, hstep.symm, by rw [List.map_append]; exact setOf_put hkv m, by rw [List.length_append, List.length_singleton]; omega, rfl, rfl⟩
    · intro hm
      have hm : m ∈ o.map (·.2) := by simpa using hm
      rw [if_pos (by simpa using hm)] at hstep
      simp only [ZZ, YY, Zd, ite_true, ite_false, forall_const, reduceCtorEq, Nat.reduceAdd, Nat.reduceMul, Nat.reduceLeDiff, Nat.reduceLT, Nat.reduceEqDiff]
      refine cut_same (by simp only [ZZ, YY, Zd, ite_true, ite_false, forall_const, reduceCtorEq, Nat.reduceAdd, Nat.reduceMul, Nat.reduceLeDiff, Nat.reduceLT, Nat.reduceEqDiff]) ?_
      simp only [ZZ, YY, Zd, ite_true, ite_false, forall_const, reduceCtorEq, Nat.reduceAdd, Nat.reduceMul, Nat.reduceLeDiff, Nat.reduceLT, Nat.reduceEqDiff]
      refine ⟨i64_of (by omega) (by omega), ?_⟩
      refine end_round (p.length - (k + 1)) [.any, .any, .any, .any, .any, .row (.l 5), .mp (.l 19), .any, .any, .any, .any, .any, .any, .any, .any, .any, .any, .any, .any, .any, .p (.sl 1 (strE p)), .p (int (p.length : Nat)), .p (int ((k + 1) : Nat)), .any, .any, .any, .any, .any, .any, .any, .any, .any, .any, .any, .any, .any, .any, .any, .any, .any, .any, .any, .any, .any, .any, .any, .any] [(.l 5, .row (adrE (o)) tAddr 2 true), (.l 19, .map (kv) tStr tBoolA)] (by omega) (by (simp only [ZZ, YY, Zd, ite_true, ite_false, forall_const, reduceCtorEq, Nat.reduceAdd, Nat.reduceMul, Nat.reduceLeDiff, Nat.reduceLT, Nat.reduceEqDiff]; try trivial)) (by (simp only [ZZ, YY, Zd, ite_true, ite_false, forall_const, reduceCtorEq, Nat.reduceAdd, Nat.reduceMul, Nat.reduceLeDiff, Nat.reduceLT, Nat.reduceEqDiff]; try trivial)) ⟨k + 1, o, kv, by omega, rfl, hstep.symm, hkv, by omega, rfl, rfl⟩
  · intro h
    have hge : p.length ≤ k := by have := of_decide_eq_false h; omega
    rw [List.drop_eq_nil_of_le hge, adsG] at ho
    rw [← ho]
    simp only [ZZ, YY, Zd, ite_true, ite_false, forall_const, reduceCtorEq, Nat.reduceAdd, Nat.reduceMul, Nat.reduceLeDiff, Nat.reduceLT, Nat.reduceEqDiff]
    rfl
end Go.Proofs.YtndjmidmfmcbkaaGreatDoor

/- Subjects: their marks and their normal form, on both sides. -/
namespace Go.Proofs.YtndjmidmfmcbkaaGreatDoor
open Go.RowKit
set_option linter.unusedVariables false
set_option linter.unusedSimpArgs false
set_option linter.defProp false


section
variable {E : Envt}
end
end Go.Proofs.YtndjmidmfmcbkaaGreatDoor

/- Subjects: the reference's marks; the normal form, on both sides. -/
namespace Go.Proofs.YtndjmidmfmcbkaaGreatDoor
open Go.RowKit
set_option linter.unusedVariables false
set_option linter.unusedSimpArgs false
set_option linter.defProp false


end Go.Proofs.YtndjmidmfmcbkaaGreatDoor

/- Subjects that are made. -/
namespace Go.Proofs.YtndjmidmfmcbkaaGreatDoor
open Go.RowKit
set_option linter.unusedVariables false
set_option linter.unusedSimpArgs false
set_option linter.defProp false


section
variable {E : Envt}
theorem rep_len (c : UInt8) (n : Nat) : (Lib.repeatL [c] n).length = n := by
  induction n with
  | zero => rfl
  | succ n ih => simp only [Lib.repeatL, List.length_append, ih, List.length_cons, List.length_nil]; omega
end
end Go.Proofs.YtndjmidmfmcbkaaGreatDoor

/- Addresses, several: the reference's reading; what the makers make. -/
namespace Go.Proofs.YtndjmidmfmcbkaaGreatDoor
open Go.RowKit
set_option linter.unusedVariables false
set_option linter.unusedSimpArgs false
set_option linter.defProp false

/- paperchase/chaseref1.AddressesOf -/
def ir_chaseref1_AddressesOf_L1 : IC :=
  (.seq (.reg [⟨some 65, .bin .lss (.t 64) (.t 63), none⟩])
    (.seq (.cond (.t 65) .skip (.exit 2))
    (.seq (.block 3 (.seq (.reg [⟨some 66, .ixa 1 (.t 62) (.t 64), none⟩,
      ⟨some 67, .ld 1 false (.t 66), none⟩,
      ⟨some 10, .mov (.t 67), none⟩])
    (.seq (.reg [⟨some 69, .mov (.t 10), none⟩,
      ⟨some 70, .call 89 [.t 69], none⟩,
      ⟨some 68, .mov (.t 70), none⟩,
      ⟨some 71, .ext 0 (.t 68), none⟩,
      ⟨some 72, .ext 1 (.t 68), none⟩,
      ⟨some 11, .alc 49 [.str [], .str []], none⟩,
      ⟨none, .st 2 (.t 11) (.t 71), none⟩,
      ⟨some 12, .mov (.t 72), none⟩])
    (.seq (.seq (.reg [⟨some 73, .mov (.t 12), none⟩,
      ⟨some 74, .bin .neq (.t 73) (.c (.int .i64 0)), none⟩])
    (.cond (.t 74) (.seq (.reg [⟨some 2, .mov (.c (.nl 2)), none⟩,
      ⟨some 3, .mov (.c (.int .i64 9)), none⟩])
    .ret) .skip))
    (.seq (.reg [⟨some 75, .mov (.t 8), none⟩,
      ⟨some 76, .mkf 96 [.t 11], none⟩,
      ⟨some 77, .call 95 [.t 75, .t 76], none⟩,
      ⟨some 78, .not (.t 77), none⟩])
    (.cond (.t 78) (.reg [⟨some 79, .mov (.t 8), none⟩,
      ⟨some 80, .ld 2 true (.t 11), none⟩,
      ⟨some 81, .bsl 2 [.t 80], none⟩,
      ⟨some 82, .app 49 2 32 (.t 79) (.t 81), none⟩,
      ⟨some 8, .mov (.t 82), none⟩]) .skip))))))
    (.cut (.reg [⟨some 83, .bin .add (.t 64) (.c (.int .i64 1)), none⟩,
      ⟨some 64, .mov (.t 83), none⟩])))))
def ir_chaseref1_AddressesOf_L0 : IC :=
  (.seq (.seq (.reg [⟨some 16, .mov (.t 7), none⟩,
      ⟨some 17, .mov (.t 0), none⟩,
      ⟨some 18, .sln (.t 17), none⟩,
      ⟨some 19, .bin .leq (.t 16) (.t 18), none⟩])
    (.cond (.t 19) .skip (.exit 0)))
    (.seq (.block 1 (.seq (.seq (.reg [⟨some 22, .mov (.t 7), none⟩,
      ⟨some 23, .mov (.t 0), none⟩,
      ⟨some 24, .sln (.t 23), none⟩,
      ⟨some 25, .bin .eql (.t 22) (.t 24), none⟩,
      ⟨some 26, .mov (.t 25), none⟩,
      ⟨some 27, .mov (.t 5), (some (26, false))⟩,
      ⟨some 28, .not (.t 27), (some (26, false))⟩,
      ⟨some 29, .mov (.t 28), (some (26, false))⟩,
      ⟨some 30, .mov (.t 0), (some (29, true))⟩,
      ⟨some 31, .mov (.t 7), (some (29, true))⟩,
      ⟨some 32, .idx (.t 30) (.t 31), (some (29, true))⟩,
      ⟨some 33, .bin .eql (.t 32) (.c (.int .u8 44)), (some (29, true))⟩,
      ⟨some 34, .mov (.t 33), (some (29, true))⟩,
      ⟨some 35, .mov (.t 0), (some (34, false))⟩,
      ⟨some 36, .mov (.t 7), (some (34, false))⟩,
      ⟨some 37, .idx (.t 35) (.t 36), (some (34, false))⟩,
      ⟨some 38, .bin .eql (.t 37) (.c (.int .u8 59)), (some (34, false))⟩,
      ⟨some 39, .pick (.t 34) (.c (.bool true)) (.t 38), (some (29, true))⟩,
      ⟨some 40, .pick (.t 29) (.t 39) (.c (.bool false)), (some (26, false))⟩,
      ⟨some 41, .pick (.t 26) (.c (.bool true)) (.t 40), none⟩])
    (.cond (.t 41) (.seq (.reg [⟨some 42, .mov (.t 4), none⟩,
      ⟨some 43, .mov (.t 0), none⟩,
      ⟨some 44, .mov (.t 6), none⟩,
      ⟨some 45, .mov (.t 7), none⟩,
      ⟨some 46, .ssl (.t 43) (some (.t 44)) (some (.t 45)), none⟩,
      ⟨some 47, .bsl 1 [.t 46], none⟩,
      ⟨some 48, .app 9 1 16 (.t 42) (.t 47), none⟩,
      ⟨some 4, .mov (.t 48), none⟩])
    (.seq (.reg [⟨some 49, .mov (.t 7), none⟩,
      ⟨some 50, .bin .add (.t 49) (.c (.int .i64 1)), none⟩,
      ⟨some 6, .mov (.t 50), none⟩])
    (.exit 1))) .skip))
    (.seq (.reg [⟨some 51, .mov (.t 0), none⟩,
      ⟨some 52, .mov (.t 7), none⟩,
      ⟨some 53, .idx (.t 51) (.t 52), none⟩,
      ⟨some 54, .bin .eql (.t 53) (.c (.int .u8 34)), none⟩])
    (.cond (.t 54) (.reg [⟨some 55, .mov (.t 5), none⟩,
      ⟨some 56, .not (.t 55), none⟩,
      ⟨some 5, .mov (.t 56), none⟩]) .skip))))
    (.cut (.reg [⟨some 20, .mov (.t 7), none⟩,
      ⟨some 21, .bin .add (.t 20) (.c (.int .i64 1)), none⟩,
      ⟨some 7, .mov (.t 21), none⟩]))))
def ir_chaseref1_AddressesOf : IC :=
  (.seq (.reg [⟨some 2, .mov (.c (.nl 2)), none⟩,
      ⟨some 3, .mov (.c (.int .i64 0)), none⟩])
    (.seq (.seq (.reg [⟨some 13, .mov (.t 0), none⟩,
      ⟨some 14, .sln (.t 13), none⟩,
      ⟨some 15, .bin .gtr (.t 14) (.c (.int .i64 20000)), none⟩])
    (.cond (.t 15) (.seq (.reg [⟨some 2, .mov (.c (.nl 2)), none⟩,
      ⟨some 3, .mov (.c (.int .i64 2)), none⟩])
    .ret) .skip))
    (.seq (.reg [⟨some 4, .nilr 9 1, none⟩])
    (.seq (.reg [⟨some 5, .mov (.c (.bool false)), none⟩,
      ⟨some 6, .mov (.c (.int .i64 0)), none⟩])
    (.seq (.seq (.reg [⟨some 7, .mov (.c (.int .i64 0)), none⟩])
    (.block 0 (.loop ir_chaseref1_AddressesOf_L0)))
    (.seq (.reg [⟨some 57, .mov (.t 4), none⟩,
      ⟨some 58, .call 92 [.t 57, .f 93], none⟩,
      ⟨some 4, .mov (.t 58), none⟩])
    (.seq (.seq (.reg [⟨some 59, .mov (.t 4), none⟩,
      ⟨some 60, .len (.t 59), none⟩,
      ⟨some 61, .bin .gtr (.t 60) (.c (.int .i64 100)), none⟩])
    (.cond (.t 61) (.seq (.reg [⟨some 2, .mov (.c (.nl 2)), none⟩,
      ⟨some 3, .mov (.c (.int .i64 2)), none⟩])
    .ret) .skip))
    (.seq (.reg [⟨some 8, .nilr 49 2, none⟩])
    (.seq (.seq (.reg [⟨some 62, .mov (.t 4), none⟩,
      ⟨some 63, .len (.t 62), none⟩,
      ⟨some 64, .mov (.c (.int .i64 0)), none⟩])
    (.block 2 (.loop ir_chaseref1_AddressesOf_L1)))
    (.seq (.reg [⟨some 84, .mov (.t 8), none⟩,
      ⟨some 2, .mov (.t 84), none⟩,
      ⟨some 3, .mov (.c (.int .i64 0)), none⟩])
    .ret))))))))))
def rs_chaseref1_AddressesOf : List IRes := [.t 2, .t 3]
theorem ck_chaseref1_AddressesOf : chkF Tryz.prog Tryz.f25 ir_chaseref1_AddressesOf rs_chaseref1_AddressesOf 85 = true := by kernel_rfl

theorem stQ_toggle {s : List UInt8} {i : Nat} {c : UInt8} (hc : s.getD i 0 = c) (h : c = 34) : stQ s (i + 1) = (!(stQ s i).1, (stQ s i).2.1, (stQ s i).2.2) := by rw [stQ, hc, if_pos h]
theorem stQ_sep {s : List UInt8} {i : Nat} {c : UInt8} (hc : s.getD i 0 = c) (h : ¬ c = 34) (h2 : (!(stQ s i).1 && sepC c) = true) : stQ s (i + 1) = ((stQ s i).1, i + 1, (stQ s i).2.2 ++ [cutP s (stQ s i).2.1 i]) := by rw [stQ, hc, if_neg h, if_pos h2]
theorem stQ_on {s : List UInt8} {i : Nat} {c : UInt8} (hc : s.getD i 0 = c) (h : ¬ c = 34) (h2 : (!(stQ s i).1 && sepC c) = false) : stQ s (i + 1) = stQ s i := by rw [stQ, hc, if_neg h, if_neg (by rw [h2]; simp)]
theorem sep_34 {c : UInt8} (h : sepC c = true) : ¬ c = 34 := by rintro rfl; revert h; decide
theorem pieceA_bd (s : List UInt8) : pieceA s ≠ [] ∧ (pieceA s).length ≤ s.length + 1 ∧ ∀ x ∈ pieceA s, x.length ≤ s.length := by
  obtain ⟨h1, h2, h3⟩ := stQ_inv s s.length
  unfold pieceA
  refine ⟨by simp, by rw [List.length_append, List.length_singleton]; omega, fun x hx => ?_⟩
  rcases List.mem_append.1 hx with hx | hx
  · exact h3 x hx
  · rw [List.mem_singleton] at hx; rw [hx]; exact cutP_len _ _ _
theorem AddressesOf_ok (s : List UInt8) (hs : s.length ≤ 900000) : PCall Tryz.prog E0 25 [.str s] (· = .tup [.sl 2 (adrE (adsF s).1), int (adsF s).2]) := by
  refine pcallF mixed Tryz.func25 ck_chaseref1_AddressesOf ?_
  simp only [a0, l0, OS.ao, List.map_cons, List.map_nil, List.length_cons, List.length_nil, List.cons_append, List.nil_append, Nat.reduceSub, Nat.reduceAdd, List.replicate_succ, List.replicate_zero, ir_chaseref1_AddressesOf, rs_chaseref1_AddressesOf, ZZ, YY, Zd, ite_true, ite_false, forall_const, reduceCtorEq, Nat.reduceAdd, Nat.reduceMul, Nat.reduceLeDiff, Nat.reduceLT, Nat.reduceEqDiff]
  rw [adsF]
  refine br ?_ ?_
  · intro h
    rw [if_pos (of_decide_eq_true h)]
    simp only [ZZ, YY, Zd, ite_true, ite_false, forall_const, reduceCtorEq, Nat.reduceAdd, Nat.reduceMul, Nat.reduceLeDiff, Nat.reduceLT, Nat.reduceEqDiff]
    rfl
  intro h
  rw [if_neg (of_decide_eq_false h)]
  simp only [ZZ, YY, Zd, ite_true, ite_false, forall_const, reduceCtorEq, Nat.reduceAdd, Nat.reduceMul, Nat.reduceLeDiff, Nat.reduceLT, Nat.reduceEqDiff]
  refine loop_intro (fun n fr L => ∃ (i : Nat) (w : Bool) (b : Nat) (l : List (List UInt8)), s.length + 1 - i = n ∧ ((i ≤ s.length ∧ stQ s i = (w, b, l)) ∨ (i = s.length + 1 ∧ l = pieceA s)) ∧ fr = [.p (.str s), .any, .any, .any, .row (.l 4), .p (.bool w), .p (int (b : Nat)), .p (int (i : Nat)), .any, .any, .any, .any, .any, .any, .any, .any, .any, .any, .any, .any, .any, .any, .any, .any, .any, .any, .any, .any, .any, .any, .any, .any, .any, .any, .any, .any, .any, .any, .any, .any, .any, .any, .any, .any, .any, .any, .any, .any, .any, .any, .any, .any, .any, .any, .any, .any, .any, .any, .any, .any, .any, .any, .any, .any, .any, .any, .any, .any, .any, .any, .any, .any, .any, .any, .any, .any, .any, .any, .any, .any, .any, .any, .any, .any, .any] ∧ L = [(.l 4, .row (strE l) tStr 1 true)]) (s.length + 1 - 0) [.p (.str s), .any, .any, .any, .row (.l 4), .p (.bool false), .p (int (0 : Nat)), .p (int (0 : Nat)), .any, .any, .any, .any, .any, .any, .any, .any, .any, .any, .any, .any, .any, .any, .any, .any, .any, .any, .any, .any, .any, .any, .any, .any, .any, .any, .any, .any, .any, .any, .any, .any, .any, .any, .any, .any, .any, .any, .any, .any, .any, .any, .any, .any, .any, .any, .any, .any, .any, .any, .any, .any, .any, .any, .any, .any, .any, .any, .any, .any, .any, .any, .any, .any, .any, .any, .any, .any, .any, .any, .any, .any, .any, .any, .any, .any, .any] [(.l 4, .row (strE []) tStr 1 true)] (by (simp only [ZZ, YY, Zd, ite_true, ite_false, forall_const, reduceCtorEq, Nat.reduceAdd, Nat.reduceMul, Nat.reduceLeDiff, Nat.reduceLT, Nat.reduceEqDiff]; try trivial)) (by simp only [ZZ, YY, Zd, ite_true, ite_false, forall_const, reduceCtorEq, Nat.reduceAdd, Nat.reduceMul, Nat.reduceLeDiff, Nat.reduceLT, Nat.reduceEqDiff]; rfl) ⟨0, false, 0, [], rfl, (.inl ⟨by omega, rfl⟩), rfl, rfl⟩ ?_
  rintro n fr L ⟨i, w, b, l, rfl, hst, rfl, rfl⟩
  simp only [ir_chaseref1_AddressesOf_L0, ZZ, YY, Zd, ite_true, ite_false, forall_const, reduceCtorEq, Nat.reduceAdd, Nat.reduceMul, Nat.reduceLeDiff, Nat.reduceLT, Nat.reduceEqDiff]
  refine br ?_ ?_
  · intro h
    have hle : i ≤ s.length := by have := of_decide_eq_true h; omega
    have hq : stQ s i = (w, b, l) := by
      rcases hst with h | h
      · exact h.2
      · omega
    have hinv := stQ_inv s i
    rw [hq] at hinv
    simp only at hinv
    obtain ⟨hi1, hi2, hi3⟩ := hinv
    obtain ⟨c, hc⟩ : ∃ c, s.getD i 0 = c := ⟨_, rfl⟩
    simp only [ZZ, YY, Zd, ite_true, ite_false, forall_const, reduceCtorEq, Nat.reduceAdd, Nat.reduceMul, Nat.reduceLeDiff, Nat.reduceLT, Nat.reduceEqDiff, hc]
    have hA : decide ((i : Int) = s.length) = false → (i : Int) < s.length := fun h => by have := of_decide_eq_false h; omega
    have hE2 : decide ((i : Int) = s.length) = true → i = s.length := fun h => by have := of_decide_eq_true h; omega
    have hV := sepC_int c
    generalize decide ((i : Int) = s.length) = e at *
    generalize decide ((c.toNat : Int) = 44) = u at *
    generalize decide ((c.toNat : Int) = 59) = v at *
    refine ⟨fun h => ⟨h, h, by omega, hA (by revert h; cases e <;> simp)⟩, fun h => ⟨h, h, by omega, hA (by revert h; cases e <;> simp)⟩, fun h => ⟨h, fun hu => by revert h; rw [hu]; cases e <;> cases w <;> simp⟩, fun h => ⟨h, fun hw => by rw [h, hw]; rfl⟩, fun h => by rw [h]; rfl, ?_⟩
    rw [hV]
    refine br ?_ ?_
    · intro hb
      have hnx : (i + 1 ≤ s.length ∧ stQ s (i + 1) = (w, i + 1, l ++ [cutP s b i])) ∨ (i + 1 = s.length + 1 ∧ l ++ [cutP s b i] = pieceA s) := by
        by_cases he : e = true
        · have hi := hE2 he
          refine .inr ⟨by omega, ?_⟩
          unfold pieceA
          rw [← hi, hq]
        · have he : e = false := by simpa using he
          rw [he, Bool.false_or] at hb
          have hs := hb
          simp only [Bool.and_eq_true] at hs
          have := hA he
          refine .inl ⟨by omega, ?_⟩
          rw [stQ_sep hc (sep_34 hs.2) (by rw [hq]; exact hb), hq]
      simp only [ZZ, YY, Zd, ite_true, ite_false, forall_const, reduceCtorEq, Nat.reduceAdd, Nat.reduceMul, Nat.reduceLeDiff, Nat.reduceLT, Nat.reduceEqDiff, strE_len]
      refine ⟨⟨⟨by omega, by omega⟩, by omega, by omega⟩, by omega, i64_of (by omega) (by omega), ?_⟩
      refine cut_same (by simp only [ZZ, YY, Zd, ite_true, ite_false, forall_const, reduceCtorEq, Nat.reduceAdd, Nat.reduceMul, Nat.reduceLeDiff, Nat.reduceLT, Nat.reduceEqDiff]) ?_
      simp only [ZZ, YY, Zd, ite_true, ite_false, forall_const, reduceCtorEq, Nat.reduceAdd, Nat.reduceMul, Nat.reduceLeDiff, Nat.reduceLT, Nat.reduceEqDiff]
      refine ⟨i64_of (by omega) (by omega), ?_⟩
      rw [show List.drop b (List.take i s) = cutP s b i from rfl, strE_one, ← strE_app]
      refine end_round (s.length + 1 - (i + 1)) [.p (.str s), .any, .any, .any, .row (.l 4), .p (.bool (w)), .p (int ((i + 1) : Nat)), .p (int ((i + 1) : Nat)), .any, .any, .any, .any, .any, .any, .any, .any, .any, .any, .any, .any, .any, .any, .any, .any, .any, .any, .any, .any, .any, .any, .any, .any, .any, .any, .any, .any, .any, .any, .any, .any, .any, .any, .any, .any, .any, .any, .any, .any, .any, .any, .any, .any, .any, .any, .any, .any, .any, .any, .any, .any, .any, .any, .any, .any, .any, .any, .any, .any, .any, .any, .any, .any, .any, .any, .any, .any, .any, .any, .any, .any, .any, .any, .any, .any, .any] [(.l 4, .row (strE (l ++ [cutP s b i])) tStr 1 true)] (by omega) (by (simp only [ZZ, YY, Zd, ite_true, ite_false, forall_const, reduceCtorEq, Nat.reduceAdd, Nat.reduceMul, Nat.reduceLeDiff, Nat.reduceLT, Nat.reduceEqDiff]; try trivial)) (by (simp only [ZZ, YY, Zd, ite_true, ite_false, forall_const, reduceCtorEq, Nat.reduceAdd, Nat.reduceMul, Nat.reduceLeDiff, Nat.reduceLT, Nat.reduceEqDiff]; try trivial)) ⟨i + 1, w, i + 1, l ++ [cutP s b i], rfl, hnx, rfl, rfl⟩
    · intro hb
      have hb : e = false ∧ (!w && sepC c) = false := by revert hb; cases e <;> simp
      have hil := hA hb.1
      simp only [ZZ, YY, Zd, ite_true, ite_false, forall_const, reduceCtorEq, Nat.reduceAdd, Nat.reduceMul, Nat.reduceLeDiff, Nat.reduceLT, Nat.reduceEqDiff, hc]
      refine ⟨⟨by omega, by omega⟩, ?_⟩
      refine br ?_ ?_
      · intro h34
        have h34 : c = 34 := UInt8.toNat_inj.1 (show _ = 34 from by have := of_decide_eq_true h34; omega)
        have hnx := stQ_toggle hc h34
        rw [hq] at hnx
        simp only [ZZ, YY, Zd, ite_true, ite_false, forall_const, reduceCtorEq, Nat.reduceAdd, Nat.reduceMul, Nat.reduceLeDiff, Nat.reduceLT, Nat.reduceEqDiff]
        refine cut_same (by simp only [ZZ, YY, Zd, ite_true, ite_false, forall_const, reduceCtorEq, Nat.reduceAdd, Nat.reduceMul, Nat.reduceLeDiff, Nat.reduceLT, Nat.reduceEqDiff]) ?_
        simp only [ZZ, YY, Zd, ite_true, ite_false, forall_const, reduceCtorEq, Nat.reduceAdd, Nat.reduceMul, Nat.reduceLeDiff, Nat.reduceLT, Nat.reduceEqDiff]
        refine ⟨i64_of (by omega) (by omega), ?_⟩
        refine end_round (s.length + 1 - (i + 1)) [.p (.str s), .any, .any, .any, .row (.l 4), .p (.bool (!w)), .p (int ((b) : Nat)), .p (int ((i + 1) : Nat)), .any, .any, .any, .any, .any, .any, .any, .any, .any, .any, .any, .any, .any, .any, .any, .any, .any, .any, .any, .any, .any, .any, .any, .any, .any, .any, .any, .any, .any, .any, .any, .any, .any, .any, .any, .any, .any, .any, .any, .any, .any, .any, .any, .any, .any, .any, .any, .any, .any, .any, .any, .any, .any, .any, .any, .any, .any, .any, .any, .any, .any, .any, .any, .any, .any, .any, .any, .any, .any, .any, .any, .any, .any, .any, .any, .any, .any] [(.l 4, .row (strE (l)) tStr 1 true)] (by omega) (by (simp only [ZZ, YY, Zd, ite_true, ite_false, forall_const, reduceCtorEq, Nat.reduceAdd, Nat.reduceMul, Nat.reduceLeDiff, Nat.reduceLT, Nat.reduceEqDiff]; try trivial)) (by (simp only [ZZ, YY, Zd, ite_true, ite_false, forall_const, reduceCtorEq, Nat.reduceAdd, Nat.reduceMul, Nat.reduceLeDiff, Nat.reduceLT, Nat.reduceEqDiff]; try trivial)) ⟨i + 1, !w, b, l, rfl, .inl ⟨by omega, hnx⟩, rfl, rfl⟩
      · intro h34
        have h34 : ¬ c = 34 := by rintro rfl; revert h34; decide
        have hnx := stQ_on hc h34 (by rw [hq]; exact hb.2)
        rw [hq] at hnx
        simp only [ZZ, YY, Zd, ite_true, ite_false, forall_const, reduceCtorEq, Nat.reduceAdd, Nat.reduceMul, Nat.reduceLeDiff, Nat.reduceLT, Nat.reduceEqDiff]
        refine cut_same (by simp only [ZZ, YY, Zd, ite_true, ite_false, forall_const, reduceCtorEq, Nat.reduceAdd, Nat.reduceMul, Nat.reduceLeDiff, Nat.reduceLT, Nat.reduceEqDiff]) ?_
        simp only [ZZ, YY, Zd, ite_true, ite_false, forall_const, reduceCtorEq, Nat.reduceAdd, Nat.reduceMul, Nat.reduceLeDiff, Nat.reduceLT, Nat.reduceEqDiff]
        refine ⟨i64_of (by omega) (by omega), ?_⟩
        refine end_round (s.length + 1 - (i + 1)) [.p (.str s), .any, .any, .any, .row (.l 4), .p (.bool (w)), .p (int ((b) : Nat)), .p (int ((i + 1) : Nat)), .any, .any, .any, .any, .any, .any, .any, .any, .any, .any, .any, .any, .any, .any, .any, .any, .any, .any, .any, .any, .any, .any, .any, .any, .any, .any, .any, .any, .any, .any, .any, .any, .any, .any, .any, .any, .any, .any, .any, .any, .any, .any, .any, .any, .any, .any, .any, .any, .any, .any, .any, .any, .any, .any, .any, .any, .any, .any, .any, .any, .any, .any, .any, .any, .any, .any, .any, .any, .any, .any, .any, .any, .any, .any, .any, .any, .any] [(.l 4, .row (strE (l)) tStr 1 true)] (by omega) (by (simp only [ZZ, YY, Zd, ite_true, ite_false, forall_const, reduceCtorEq, Nat.reduceAdd, Nat.reduceMul, Nat.reduceLeDiff, Nat.reduceLT, Nat.reduceEqDiff]; try trivial)) (by (simp only [ZZ, YY, Zd, ite_true, ite_false, forall_const, reduceCtorEq, Nat.reduceAdd, Nat.reduceMul, Nat.reduceLeDiff, Nat.reduceLT, Nat.reduceEqDiff]; try trivial)) ⟨i + 1, w, b, l, rfl, .inl ⟨by omega, hnx⟩, rfl, rfl⟩
  · intro h
    have hgt : s.length < i := by have := of_decide_eq_false h; omega
    have hq : l = pieceA s := by
      rcases hst with h | h
      · omega
      · exact h.2
    obtain ⟨hp1, hp2, hp3⟩ := pieceA_bd s
    subst hq
    simp only [ZZ, YY, Zd, ite_true, ite_false, forall_const, reduceCtorEq, Nat.reduceAdd, Nat.reduceMul, Nat.reduceLeDiff, Nat.reduceLT, Nat.reduceEqDiff]
    refine useBlank 1000 (pieceA s) hp1 (by omega) (fun x hx => by have := hp3 x hx; omega) rfl ?_
    rw [show (pieceA s).filter (fun x => !blankT x) = pieceF s from rfl, strs_eq]
    obtain ⟨hpl, hpb⟩ := pieceF_len s
    generalize pieceF s = p at *
    simp only [ZZ, YY, Zd, ite_true, ite_false, forall_const, reduceCtorEq, Nat.reduceAdd, Nat.reduceMul, Nat.reduceLeDiff, Nat.reduceLT, Nat.reduceEqDiff, strE_len]
    refine br ?_ ?_
    · intro h
      rw [if_pos (of_decide_eq_true h)]
      simp only [ZZ, YY, Zd, ite_true, ite_false, forall_const, reduceCtorEq, Nat.reduceAdd, Nat.reduceMul, Nat.reduceLeDiff, Nat.reduceLT, Nat.reduceEqDiff]
      rfl
    intro h
    rw [if_neg (of_decide_eq_false h)]
    simp only [ZZ, YY, Zd, ite_true, ite_false, forall_const, reduceCtorEq, Nat.reduceAdd, Nat.reduceMul, Nat.reduceLeDiff, Nat.reduceLT, Nat.reduceEqDiff, strE_len]
    refine loop_intro (fun n fr L => ∃ (k : Nat) (o : List AdT), k ≤ p.length ∧ n = p.length - k ∧ (adsG (p.drop k) o = adsG p []) ∧ (o.length ≤ k) ∧ fr = [.any, .any, .any, .any, .any, .any, .any, .any, .row (.l 8), .any, .any, .any, .any, .any, .any, .any, .any, .any, .any, .any, .any, .any, .any, .any, .any, .any, .any, .any, .any, .any, .any, .any, .any, .any, .any, .any, .any, .any, .any, .any, .any, .any, .any, .any, .any, .any, .any, .any, .any, .any, .any, .any, .any, .any, .any, .any, .any, .any, .any, .any, .any, .any, .p (.sl 1 (strE p)), .p (int (p.length : Nat)), .p (int (k : Nat)), .any, .any, .any, .any, .any, .any, .any, .any, .any, .any, .any, .any, .any, .any, .any, .any, .any, .any, .any, .any] ∧ L = [(.l 8, .row (adrE o) tAddr 2 true)]) (p.length) [.any, .any, .any, .any, .any, .any, .any, .any, .row (.l 8), .any, .any, .any, .any, .any, .any, .any, .any, .any, .any, .any, .any, .any, .any, .any, .any, .any, .any, .any, .any, .any, .any, .any, .any, .any, .any, .any, .any, .any, .any, .any, .any, .any, .any, .any, .any, .any, .any, .any, .any, .any, .any, .any, .any, .any, .any, .any, .any, .any, .any, .any, .any, .any, .p (.sl 1 (strE p)), .p (int (p.length : Nat)), .p (int (0 : Nat)), .any, .any, .any, .any, .any, .any, .any, .any, .any, .any, .any, .any, .any, .any, .any, .any, .any, .any, .any, .any] [(.l 8, .row (adrE []) tAddr 2 true)] (by simp only [ZZ, YY, Zd, ite_true, ite_false, forall_const, reduceCtorEq, Nat.reduceAdd, Nat.reduceMul, Nat.reduceLeDiff, Nat.reduceLT, Nat.reduceEqDiff, strE_len]; try trivial) (by simp only [ZZ, YY, Zd, ite_true, ite_false, forall_const, reduceCtorEq, Nat.reduceAdd, Nat.reduceMul, Nat.reduceLeDiff, Nat.reduceLT, Nat.reduceEqDiff]; rfl) ⟨0, [], by omega, by omega, by simp, by simp, rfl, rfl⟩ ?_
    rintro n fr L ⟨k, o, hk, rfl, ho, hol, rfl, rfl⟩
    simp only [ir_chaseref1_AddressesOf_L1, ZZ, YY, Zd, ite_true, ite_false, forall_const, reduceCtorEq, Nat.reduceAdd, Nat.reduceMul, Nat.reduceLeDiff, Nat.reduceLT, Nat.reduceEqDiff]
    refine br ?_ ?_
    · intro h
      have hlt : k < p.length := by have := of_decide_eq_true h; omega
      obtain ⟨x, hx⟩ : ∃ x, p[k]? = some x := ⟨_, List.getElem?_eq_getElem hlt⟩
      have hg := strE_get hx
      have hxb := hpb x (List.mem_of_getElem? hx)
      simp only [ZZ, YY, Zd, ite_true, ite_false, forall_const, reduceCtorEq, Nat.reduceAdd, Nat.reduceMul, Nat.reduceLeDiff, Nat.reduceLT, Nat.reduceEqDiff, hg, strE_len]
      ((repeat' (with_reducible apply And.intro)) <;> try ((first | first | assumption | trivial | exact (fun hq => by rw [hq]; rfl) | exact i64_of (by omega) (by omega) | omega | (simp; done) | (simp; omega) | (intro hsc; have hs0 := hsc; (try have hsd := of_decide_eq_true hsc); (try simp only [Bool.not_eq_true', Bool.or_eq_false_iff, Bool.and_eq_true, Bool.or_eq_true, decide_eq_true_eq, decide_eq_false_iff_not] at hsc); (repeat' (with_reducible apply And.intro)) <;> (first | assumption | trivial | exact (fun hq => by rw [hq]; rfl) | exact i64_of (by omega) (by omega) | omega | (simp; done) | (simp; omega) | (intro hse; simp [hse, hs0]; done) | (intro hse; simp only [hse, hs0, Bool.true_and, Bool.and_true, Bool.not_false, Bool.not_true, Bool.and_self]; done))))))
      refine use1 (addressIn_ok x (by omega)) rfl (.inl rfl) ?_
      cases hP : adP (Lib.trimS x [32]) with
      | none =>
        rw [adE_none]
        simp only [ZZ, YY, Zd, ite_true, ite_false, forall_const, reduceCtorEq, Nat.reduceAdd, Nat.reduceMul, Nat.reduceLeDiff, Nat.reduceLT, Nat.reduceEqDiff]
        refine br (fun _ => ?_) (fun h => by simp at h)
        rw [adsG_none hx hP] at ho
        rw [← ho]
        simp only [ZZ, YY, Zd, ite_true, ite_false, forall_const, reduceCtorEq, Nat.reduceAdd, Nat.reduceMul, Nat.reduceLeDiff, Nat.reduceLT, Nat.reduceEqDiff]
        rfl
      | some q =>
        rw [adE_some]
        obtain ⟨n, m⟩ := q
        simp only [ZZ, YY, Zd, ite_true, ite_false, forall_const, reduceCtorEq, Nat.reduceAdd, Nat.reduceMul, Nat.reduceLeDiff, Nat.reduceLT, Nat.reduceEqDiff]
        refine br (fun h => by simp at h) (fun _ => ?_)
        have hstep := adsG_some (o := o) hx hP
        rw [ho] at hstep
        simp only [ZZ, YY, Zd, ite_true, ite_false, forall_const, reduceCtorEq, Nat.reduceAdd, Nat.reduceMul, Nat.reduceLeDiff, Nat.reduceLT, Nat.reduceEqDiff]
        refine use1 (ContainsFuncA_ok o 96 [.ptr (adC (n, m))] (fun z => decide (z.2 = m)) (by omega) (fun _ => by kernel_rfl) rfl (fun y _ => AddressesOf2_ok y (n, m)) (fun _ => rfl) (fun _ => rfl)) rfl (.inr rfl) ?_
        simp only [ZZ, YY, Zd, ite_true, ite_false, forall_const, reduceCtorEq, Nat.reduceAdd, Nat.reduceMul, Nat.reduceLeDiff, Nat.reduceLT, Nat.reduceEqDiff]
        refine br ?_ ?_
        · intro hm
          have hm : ¬ o.any (fun z => decide (z.2 = m)) = true := by rw [Bool.not_eq_true'] at hm; rw [hm]; simp
          rw [if_neg hm] at hstep
          simp only [ZZ, YY, Zd, ite_true, ite_false, forall_const, reduceCtorEq, Nat.reduceAdd, Nat.reduceMul, Nat.reduceLeDiff, Nat.reduceLT, Nat.reduceEqDiff, adrE_len]
          refine ⟨by omega, ?_⟩
          refine cut_same (by simp only [ZZ, YY, Zd, ite_true, ite_false, forall_const, reduceCtorEq, Nat.reduceAdd, Nat.reduceMul, Nat.reduceLeDiff, Nat.reduceLT, Nat.reduceEqDiff]) ?_
          simp only [ZZ, YY, Zd, ite_true, ite_false, forall_const, reduceCtorEq, Nat.reduceAdd, Nat.reduceMul, Nat.reduceLeDiff, Nat.reduceLT, Nat.reduceEqDiff]
          refine ⟨i64_of (by omega) (by omega), ?_⟩
          rw [adrE_app o (n, m)]
          refine end_round (p.length - (k + 1)) [.any, .any, .any, .any, .any, .any, .any, .any, .row (.l 8), .any, .any, .any, .any, .any, .any, .any, .any, .any, .any, .any, .any, .any, .any, .any, .any, .any, .any, .any, .any, .any, .any, .any, .any, .any, .any, .any, .any, .any, .any, .any, .any, .any, .any, .any, .any, .any, .any, .any, .any, .any, .any, .any, .any, .any, .any, .any, .any, .any, .any, .any, .any, .any, .p (.sl 1 (strE p)), .p (int (p.length : Nat)), .p (int ((k + 1) : Nat)), .any, .any, .any, .any, .any, .any, .any, .any, .any, .any, .any, .any, .any, .any, .any, .any, .any, .any, .any, .any] [(.l 8, .row (adrE (o ++ [(n, m)])) tAddr 2 true)] (by omega) (by (simp only [ZZ, YY, Zd, ite_true, ite_false, forall_const, reduceCtorEq, Nat.reduceAdd, Nat.reduceMul, Nat.reduceLeDiff, Nat.reduceLT, Nat.reduceEqDiff]; try trivial)) (by (simp only [ZZ, YY, Zd, ite_true, ite_false, forall_const, reduceCtorEq, Nat.reduceAdd, Nat.reduceMul, Nat.reduceLeDiff, Nat.reduceLT, Nat.reduceEqDiff]; try trivial)) ⟨k + 1, o ++ [(n, m)], by omega, rfl, hstep.symm, by rw [List.length_append, List.length_singleton]; omega, rfl, rfl⟩
        · intro hm
          have hm : o.any (fun z => decide (z.2 = m)) = true := by simpa using hm
          rw [if_pos hm] at hstep
          simp only [ZZ, YY, Zd, ite_true, ite_false, forall_const, reduceCtorEq, Nat.reduceAdd, Nat.reduceMul, Nat.reduceLeDiff, Nat.reduceLT, Nat.reduceEqDiff]
          refine cut_same (by simp only [ZZ, YY, Zd, ite_true, ite_false, forall_const, reduceCtorEq, Nat.reduceAdd, Nat.reduceMul, Nat.reduceLeDiff, Nat.reduceLT, Nat.reduceEqDiff]) ?_
          simp only [ZZ, YY, Zd, ite_true, ite_false, forall_const, reduceCtorEq, Nat.reduceAdd, Nat.reduceMul, Nat.reduceLeDiff, Nat.reduceLT, Nat.reduceEqDiff]
          refine ⟨i64_of (by omega) (by omega), ?_⟩
          refine end_round (p.length - (k + 1)) [.any, .any, .any, .any, .any, .any, .any, .any, .row (.l 8), .any, .any, .any, .any, .any, .any, .any, .any, .any, .any, .any, .any, .any, .any, .any, .any, .any, .any, .any, .any, .any, .any, .any, .any, .any, .any, .any, .any, .any, .any, .any, .any, .any, .any, .any, .any, .any, .any, .any, .any, .any, .any, .any, .any, .any, .any, .any, .any, .any, .any, .any, .any, .any, .p (.sl 1 (strE p)), .p (int (p.length : Nat)), .p (int ((k + 1) : Nat)), .any, .any, .any, .any, .any, .any, .any, .any, .any, .any, .any, .any, .any, .any, .any, .any, .any, .any, .any, .any] [(.l 8, .row (adrE (o)) tAddr 2 true)] (by omega) (by (simp only [ZZ, YY, Zd, ite_true, ite_false, forall_const, reduceCtorEq, Nat.reduceAdd, Nat.reduceMul, Nat.reduceLeDiff, Nat.reduceLT, Nat.reduceEqDiff]; try trivial)) (by (simp only [ZZ, YY, Zd, ite_true, ite_false, forall_const, reduceCtorEq, Nat.reduceAdd, Nat.reduceMul, Nat.reduceLeDiff, Nat.reduceLT, Nat.reduceEqDiff]; try trivial)) ⟨k + 1, o, by omega, rfl, hstep.symm, by omega, rfl, rfl⟩
    · intro h
      have hge : p.length ≤ k := by have := of_decide_eq_false h; omega
      rw [List.drop_eq_nil_of_le hge, adsG] at ho
      rw [← ho]
      simp only [ZZ, YY, Zd, ite_true, ite_false, forall_const, reduceCtorEq, Nat.reduceAdd, Nat.reduceMul, Nat.reduceLeDiff, Nat.reduceLT, Nat.reduceEqDiff]
      rfl
end Go.Proofs.YtndjmidmfmcbkaaGreatDoor
