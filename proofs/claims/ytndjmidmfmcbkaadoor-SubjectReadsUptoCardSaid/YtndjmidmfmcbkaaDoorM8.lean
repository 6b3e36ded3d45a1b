
/- Own texts, put together: G7 K3 I8 K5 K6. -/
import Derived.Test.YtndjmidmfmcbkaaDoorM6
import Derived.Test.YtndjmidmfmcbkaaDoorM7
import Derived.Test.YtndjmidmfmcbkaaDoorM5
import Derived.Test.YtndjmidmfmcbkaaDoorM3
import Derived.Test.YtndjmidmfmcbkaaDoorLayDelStr
import Derived.Lib.OwnBridge
import Derived.WalkKit
/- Terms: their checks, on both sides; the terms of a string. -/
namespace Go.Proofs.YtndjmidmfmcbkaaDoor
open Go.RowKit
set_option linter.unusedVariables false
set_option linter.unusedSimpArgs false
set_option linter.defProp false

def joinF (l : List (List UInt8)) : List UInt8 := Lib.join l [32]
theorem JoinF_ok {E : Envt} (l : List (List UInt8)) (hl : l.length ≤ 1000000000) (hlen : (joinF l).length ≤ 1000000000) : PCall Tryd.prog E 44 [.sl 1 (strE l), .str [32]] (· = .str (joinF l)) := Join_ok l [32] hl hlen
section
end
end Go.Proofs.YtndjmidmfmcbkaaDoor

/- Pieces of strings between bytes, in plain Lean. -/
namespace Go.Proofs.YtndjmidmfmcbkaaDoor
open Go.RowKit
set_option linter.unusedVariables false
set_option linter.unusedSimpArgs false
set_option linter.defProp false

/-- The pieces of a string between bytes c. -/
def sp (c : UInt8) : List UInt8 → List (List UInt8)
  | [] => [[]]
  | x :: s => if x = c then [] :: sp c s else (x :: (sp c s).headD []) :: (sp c s).tail
theorem sp_ne (c : UInt8) (s : List UInt8) : sp c s ≠ [] := by
  cases s with
  | nil => simp [sp]
  | cons x s => unfold sp; split <;> simp
theorem split_miss {s : List UInt8} {c : UInt8} (h : Lib.index s [c] = -1) : Lib.split s [c] = [s] := by
  unfold Lib.split
  rw [Lib.count_miss h]
  rfl
theorem split_hit {s : List UInt8} {c : UInt8} {i : Nat} (h : Lib.index s [c] = i) : Lib.split s [c] = s.take i :: Lib.split (s.drop (i + 1)) [c] := by
  unfold Lib.split
  rw [Lib.count_hit (by simp) h, Nat.add_comm, Lib.splitK, if_neg (by rw [h]; simp), h]
  simp
theorem split_sp (c : UInt8) : ∀ s : List UInt8, Lib.split s [c] = sp c s := by
  intro s
  induction s with
  | nil => rw [split_miss (by rfl)]; rfl
  | cons x s ih =>
    by_cases hx : x = c
    · subst hx
      have h0 : Lib.index (x :: s) [x] = ((0 : Nat) : Int) := by rw [Lib.index_one]; simp [Lib.indexByte]
      rw [split_hit h0, sp, if_pos rfl, ← ih]
      simp
    · have hi : Lib.index (x :: s) [c] = if Lib.index s [c] = -1 then -1 else Lib.index s [c] + 1 := by
        rw [Lib.index_one, Lib.index_one, Lib.indexByte]
        simp [hx]
      rw [sp, if_neg hx, ← ih]
      by_cases hm : Lib.index s [c] = -1
      · rw [if_pos hm] at hi
        rw [split_miss hi, split_miss hm]
        rfl
      · rw [if_neg hm] at hi
        have hge := Lib.indexByte_ge s c
        rw [← Lib.index_one] at hge
        obtain ⟨i, hi2⟩ : ∃ i : Nat, Lib.index s [c] = i := ⟨(Lib.index s [c]).toNat, by omega⟩
        rw [hi2] at hi
        rw [split_hit (i := i + 1) (by rw [hi]; simp), split_hit hi2]
        simp
theorem splF_sp (s : List UInt8) (c : UInt8) : splF s c = sp c s := by
  rw [← split_sp]
  unfold splF Lib.split
  rw [Lib.splitB_data]
/-- What pieces weigh: their bytes, and one more for each. -/
def wgt : List (List UInt8) → Nat
  | [] => 0
  | x :: r => x.length + 1 + wgt r
theorem wgt_filter (p : List UInt8 → Bool) (a : List (List UInt8)) : wgt (a.filter p) ≤ wgt a := by
  induction a with
  | nil => simp [wgt]
  | cons x a ih =>
    rw [List.filter_cons]
    split
    · simp only [wgt]; omega
    · simp only [wgt]; omega
theorem wgt_len (a : List (List UInt8)) : a.length ≤ wgt a := by
  induction a with
  | nil => simp
  | cons x a ih => simp only [wgt, List.length_cons]; omega
theorem sp_wgt (c : UInt8) : ∀ s : List UInt8, wgt (sp c s) = s.length + 1 := by
  intro s
  induction s with
  | nil => simp [sp, wgt]
  | cons y s ih =>
    rw [sp]
    split
    · simp only [wgt, ih, List.length_cons, List.length_nil]; omega
    · cases h : sp c s with
      | nil => exact absurd h (sp_ne c s)
      | cons z r =>
        rw [h] at ih
        simp only [wgt, List.headD_cons, List.tail_cons, List.length_cons] at ih ⊢
        omega
theorem joinF_cons (x y : List UInt8) (r : List (List UInt8)) : joinF (x :: y :: r) = x ++ 32 :: joinF (y :: r) := by
  unfold joinF
  rw [Lib.join_cons, Lib.join_cons]
  simp [Lib.joinTail]
theorem joinF_wgt : ∀ (l : List (List UInt8)), (joinF l).length ≤ wgt l - 1
  | [] => by simp [joinF, Lib.join_nil]
  | [x] => by simp [joinF, Lib.join_one, wgt]
  | x :: y :: r => by
    have := joinF_wgt (y :: r)
    rw [joinF_cons]
    simp only [wgt, List.length_append, List.length_cons] at this ⊢
    omega
end Go.Proofs.YtndjmidmfmcbkaaDoor

/- slices.DeleteFunc of the strings that a call owns; strings without more blanks than one. -/
namespace Go.Proofs.YtndjmidmfmcbkaaDoor
open Go.Shelf Go.RowKit Go.Lib Go.Sort
set_option linter.unusedVariables false
set_option linter.unusedSimpArgs false
set_option linter.defProp false

def sE (l : List UInt8) : Value := .string ⟨l.toArray⟩
theorem sE_one : OneCell sE := fun _ => rfl
theorem strE_vals {w : World} {U : Nat → Prop} : ∀ {l : List (List UInt8)} {vs : List Value}, PRepL w U (strE l).flatten vs ↔ vs = l.map sE
  | [], vs => by simp [strE, PRepL]
  | c :: r, vs => by
    have ih : ∀ vs, PRepL w U (strE r).flatten vs ↔ vs = r.map sE := fun vs => strE_vals
    simp only [strE, List.map_cons, List.flatten_cons, List.cons_append, List.nil_append, PRepL, PRep] at ih ⊢
    constructor
    · rintro ⟨v, r', rfl, rfl, h⟩
      rw [(ih r').1 h]
      rfl
    · rintro rfl
      exact ⟨_, _, rfl, rfl, (ih _).2 rfl⟩
theorem repE_sE {w : World} {U : Nat → Prop} {b : Nat} : ∀ (l : List (List UInt8)) (off : Nat), (∀ i u, (l.map sE)[i]? = some u → w.cell? ⟨b, off + i, none⟩ = some u) → PRepE w U b 1 off (strE l)
  | [], off, h => trivial
  | x :: r, off, h => by
    refine ⟨rfl, ⟨⟨.string ⟨x.toArray⟩, by simpa [sE] using h 0 _ rfl, rfl, rfl⟩, trivial⟩, repE_sE r (off + 1) fun i u hu => ?_⟩
    have := h (i + 1) u (by simpa using hu)
    rwa [show off + (i + 1) = off + 1 + i from by omega] at this
/-- A split as a row of one's own. -/
theorem SplitR_ok (s : List UInt8) (c : UInt8) (hs : s.length ≤ 1000000000) : FCall Tryd.prog E0 101 [.str s, .str [c]] tStr 1 (· = strE (splF s c)) := by
  intro w U vs v0 hU hE hEb hA _
  obtain ⟨_, m, hm⟩ := hE
  simp only [PRepL, PRep] at hA
  obtain ⟨v, r, rfl, rfl, v2, r2, rfl, rfl, rfl⟩ := hA
  refine (Any.strings_Split Tryd.laySplit splInfo ⟨s.toArray⟩ ⟨#[c]⟩ m w (by rw [ba_size]; omega) hm (Nat.le_refl 1)).mono ?_
  rintro e w' ⟨rfl, rfl⟩
  have hl := Lib.splitB_all ⟨#[c]⟩ (Nat.le_refl 1) 0 _ (⟨s.toArray⟩ : ByteArray) rfl
  have hle := Lib.countB_le ⟨#[c]⟩ (Nat.le_refl 1) (⟨s.toArray⟩ : ByteArray).size ⟨s.toArray⟩ (Nat.le_refl _)
  rw [ba_size] at hle
  have hln : (strE (splF s c)).length = Lib.countB ⟨s.toArray⟩ ⟨#[c]⟩ + 1 := by simp [splF, hl, strE]
  have hv : ((Lib.splitB ⟨#[c]⟩ 0 (Lib.countB ⟨s.toArray⟩ ⟨#[c]⟩) ⟨s.toArray⟩).map Value.string) = (splF s c).map sE := by simp [splF, sE, Function.comp_def]
  refine ⟨_, .fr (strE (splF s c)) tStr 1, noOS, rfl, ⟨_, rfl, rfl⟩, ⟨(splF s c).map sE, ⟨by rw [hln]; simp [splF, hl], .inr ⟨w.heap.size, Lib.countB ⟨s.toArray⟩ ⟨#[c]⟩ + 1, _, (0, 0), by rw [hln], heap_alloc_new w _, by omega, ?_, ?_, ?_, .inl rfl⟩⟩, ?_, strE_vals.2 rfl, ?_, ?_⟩, ⟨rfl, rfl, rfl, by simp, fun k hk _ => Lib.alloc_old w _ k hk⟩⟩
  · unfold maxLen; omega
  · simp [hl]
  · rw [hv]
    simp only [Nat.mul_one]
    exact List.take_of_length_le (by simp [strE])
  · intro u hu
    simp only [List.mem_map] at hu
    obtain ⟨x, _, rfl⟩ := hu
    rfl
  · intro x hx
    simp only [strE, List.mem_map] at hx
    obtain ⟨y, _, rfl⟩ := hx
    rfl
  · intro b hb
    simp [blk] at hb
    omega

theorem sq1_any (x : List UInt8) (w : World) : Calls Tryd.prog 117 #[sE x] w fun e w' => e = .returned (.bool x.isEmpty) ∧ w' = w := by
  unfold sE
  go_enter Tryd.func117, Tryd.ntmps117
  go_wp2
  go_ret
  exact ⟨rfl, rfl⟩
theorem str_zero : (Tryd.prog.info? 9).map (fun i => (i.zero, i.size)) = some (some (.string ByteArray.empty), 1) := by kernel_rfl
section
variable {E : Envt} {L : Objs} {k : Key} {fr : List AV} {d : Option Nat} {is : List IOper} {Y : List PV} {K : List AV → Objs → Prop}
/-- Some elements of an owned row are struck out: what is left is plain, the row is gone. -/
theorem useDel (i : Nat) (l : List (List UInt8)) (g : FuncId) (p : List UInt8 → Bool) (hl : l ≠ []) (hlen : l.length ≤ 1000000000) (hlk : Zar L k = some (.row (strE l) tStr 1 true)) (hfn : fnB Tryd.prog g = true) (hg : ∀ x w, Calls Tryd.prog g #[sE x] w fun e w' => e = .returned (.bool (p x)) ∧ w' = w)
    (hk : awpOps Tryd.prog E Y is (Zf (fr.map (·.kill (.l i))) d (.p (strs (l.filter fun x => !p x)))) (delO L k) K) : CallOp Tryd.prog E 116 [.row k, .fn g []] L d fr (contO Tryd.prog E Y is K) := by
  refine .inr (.inr ⟨i, ?_⟩)
  intro w X ι vs hs hX hE hEb hA
  simp only [ARepL, ARep] at hA
  obtain ⟨v1, r1, rfl, ⟨rfl, A, n, c, hv⟩, v2, r2, rfl, rfl, rfl⟩ := hA
  obtain ⟨us, u1, u2, u3, u4⟩ := hs.obj k _ hlk
  rw [strE_vals] at u3
  subst u3
  have hown := u1.owns
  rw [strE_len] at hown
  have hne : ι k ≠ .slice none 0 0 := by
    intro e
    rcases hown.2 with ⟨_, h0⟩ | ⟨q, cap, cur, h1, _⟩
    · exact hl (List.eq_nil_of_length_eq_zero h0)
    · rw [e] at h1; cases h1
  obtain ⟨b, cap, hvb, _, hlt, hnc, hcm, _, hH⟩ := Lib.holds_of_ownsRow (enc := sE) hown hne
  rw [hvb] at hown
  have hOb : Own L ι b := ⟨k, _, hlk, by rw [hvb]; rfl⟩
  have hgv : ∀ (W : World) (x : List UInt8), FnGives Tryd.prog g #[] #[sE x] (.bool (p x)) W := fun W x => (hg x W).mono fun e w' ⟨h1, h2⟩ => ⟨h1, 0, by rw [h2]; rfl⟩
  have hcall := AnyE.slices_DeleteFunc Tryd.layDelStr sE sE_one p g #[] (fun args w => run_enter hfn args w) [] (zero_of_info str_zero).1 b 0 cap l.toArray w (fun W x _ => hgv W x) (fun _ _ _ x _ => hgv _ x) hH (by simp; omega) (by simpa using hnc)
  simp only [List.size_toArray, List.toList_toArray] at hcall
  rw [hvb]
  refine hcall.mono ?_
  rintro e w' ⟨rfl, q, rfl⟩
  have hle : (l.filter fun x => !p x).length ≤ l.length := List.length_filter_le _ _
  have hown2 := Lib.ownsRow_putRow (q := q) (k := (l.filter fun x => !p x).length) (ys := (l.filter fun x => !p x) ++ List.replicate (l.length - (l.filter fun x => !p x).length) []) hown (by simp; omega) hle
  rw [List.take_left' rfl] at hown2
  generalize hW : putRow sE (Sort.ahead w q) b 0 ((l.filter fun x => !p x) ++ List.replicate (l.length - (l.filter fun x => !p x).length) []).toArray = w1 at hown2 ⊢
  have hG : Grow w w1 (fun x => x = b) := by
    rw [← hW]
    refine ⟨rfl, rfl, rfl, by simp [putRow, mapBlock, Sort.ahead], fun x hx hn => ?_⟩
    simp [putRow, mapBlock, Sort.ahead, Array.getElem?_modify, show b ≠ x from fun e => hn e.symm]
  have hsub : ∀ j a, Zar (delO L k) j = some a → j ≠ k ∧ Zar L j = some a := by
    intro j a hj
    rw [look_delO] at hj
    by_cases e : j = k
    · rw [if_pos e] at hj; cases hj
    · rw [if_neg e] at hj; exact ⟨e, hj⟩
  have hown3 : ∀ x, Own (delO L k) ι x → Own L ι x := fun x ⟨j, a, h1, h2⟩ => ⟨j, a, (hsub j a h1).2, h2⟩
  have hnb : ¬ (Own (delO L k) ι b ∨ X b) := by
    rintro (⟨j, a, h1, h2⟩ | h)
    · obtain ⟨e, h3⟩ := hsub j a h1
      exact e (hs.inj j k a _ b h3 hlk h2 (by rw [hvb]; rfl))
    · exact (hX b h).2 hOb
  have hgrow : Grow w w1 (Own L ι) := ⟨hG.os, hG.tape, hG.output, hG.size, fun x hx hn => hG.block x hx (fun e => hn (by rw [e]; exact hOb))⟩
  have hkp : Keeps w w1 (fun x => Own L ι x ∨ X x) (fun x => Own (delO L k) ι x ∨ X x) := fun x hx hu => ⟨hgrow.block x hx (fun h => hu (.inl h)), fun h => hu (h.imp (hown3 x) id)⟩
  refine ⟨_, .p (strs (l.filter fun x => !p x)), delO L k, ι, rfl, hk, ?_, ⟨⟨?_, fun j j' a a' x h1 h2 h3 h4 => hs.inj j j' a a' x (hsub j a h1).2 (hsub j' a' h2).2 h3 h4⟩, hgrow, fun x h => .inl (hown3 x h), fun j _ => rfl, fun j hj => ?_⟩⟩
  · rw [strs_eq]
    show PRep w1 _ (.sl 1 (strE _)) _
    refine ⟨some ⟨b, 0, none⟩, cap, by rw [strE_len], by rw [strE_len]; omega, fun _ => ⟨b, 0, rfl, Nat.lt_of_lt_of_le hlt hG.size, hnb, repE_sE _ 0 fun j u hu => ?_⟩⟩
    rw [Nat.zero_add]
    have := hown2.cells (g := b) rfl j u hu
    rw [show ({ block := b, off := 0 } : Addr).add j = ⟨b, j, none⟩ from by cases j <;> simp [Addr.add]] at this
    exact this
  · intro j a h1
    obtain ⟨e, h2⟩ := hsub j a h1
    refine ObjOk.mono hkp (fun x hx => hG.block x ((hs.obj j a h2).blk_lt hx) (fun ex => ?_)) (hs.obj j a h2)
    subst ex
    exact e (hs.inj j k a _ x h2 hlk hx (by rw [hvb]; rfl))
  · obtain ⟨a, ha⟩ := Option.isSome_iff_exists.1 hj
    exact .inl (by rw [(hsub j a ha).2]; rfl)
end
/- paperchase/chaseref1.squeezed -/
def ir_chaseref1_squeezed : IC :=
  (.seq (.reg [⟨some 2, .mov (.c (.str [])), none⟩])
    (.seq (.reg [⟨some 3, .mov (.t 0), none⟩,
      ⟨some 4, .call 101 [.t 3, .c (.str [32])], none⟩,
      ⟨some 5, .call 116 [.t 4, .f 117], none⟩,
      ⟨some 6, .call 44 [.t 5, .c (.str [32])], none⟩,
      ⟨some 2, .mov (.t 6), none⟩])
    .ret))
def rs_chaseref1_squeezed : List IRes := [.t 2]
theorem ck_chaseref1_squeezed : chkF Tryd.prog Tryd.f71 ir_chaseref1_squeezed rs_chaseref1_squeezed 7 = true := by kernel_rfl
/- paperchase/base.Single -/
def ir_base_Single_L0 : IC :=
  (.seq (.reg [⟨some 10, .bin .lss (.t 9) (.t 8), none⟩])
    (.seq (.cond (.t 10) .skip (.exit 0))
    (.seq (.block 1 (.seq (.reg [⟨some 11, .ixa 1 (.t 7) (.t 9), none⟩,
      ⟨some 12, .ld 1 false (.t 11), none⟩,
      ⟨some 5, .mov (.t 12), none⟩])
    (.seq (.reg [⟨some 13, .mov (.t 5), none⟩,
      ⟨some 14, .bin .neq (.t 13) (.c (.str [])), none⟩])
    (.cond (.t 14) (.reg [⟨some 15, .mov (.t 3), none⟩,
      ⟨some 16, .mov (.t 5), none⟩,
      ⟨some 17, .bsl 1 [.t 16], none⟩,
      ⟨some 18, .app 9 1 16 (.t 15) (.t 17), none⟩,
      ⟨some 3, .mov (.t 18), none⟩]) .skip))))
    (.cut (.reg [⟨some 19, .bin .add (.t 9) (.c (.int .i64 1)), none⟩,
      ⟨some 9, .mov (.t 19), none⟩])))))
def ir_base_Single : IC :=
  (.seq (.reg [⟨some 2, .mov (.c (.str [])), none⟩])
    (.seq (.reg [⟨some 3, .nilr 9 1, none⟩])
    (.seq (.seq (.reg [⟨some 6, .mov (.t 0), none⟩,
      ⟨some 7, .call 101 [.t 6, .c (.str [32])], none⟩,
      ⟨some 8, .len (.t 7), none⟩,
      ⟨some 9, .mov (.c (.int .i64 0)), none⟩])
    (.block 0 (.loop ir_base_Single_L0)))
    (.seq (.reg [⟨some 20, .mov (.t 3), none⟩,
      ⟨some 21, .call 44 [.t 20, .c (.str [32])], none⟩,
      ⟨some 2, .mov (.t 21), none⟩])
    .ret))))
def rs_base_Single : List IRes := [.t 2]
theorem ck_base_Single : chkF Tryd.prog Tryd.f68 ir_base_Single rs_base_Single 22 = true := by kernel_rfl

/-- The words of a string between blanks. -/
def bits (s : List UInt8) : List (List UInt8) := (splF s 32).filter fun x => !x.isEmpty
def sqF (s : List UInt8) : List UInt8 := joinF (bits s)
theorem splF_ne (s : List UInt8) (c : UInt8) : splF s c ≠ [] := by
  have hl := Lib.splitB_all ⟨#[c]⟩ (Nat.le_refl 1) 0 _ (⟨s.toArray⟩ : ByteArray) rfl
  intro h
  have := congrArg List.length h
  simp [splF, hl] at this
theorem bits_bd (s : List UInt8) (hs : s.length ≤ 100000000) : (bits s).length ≤ 100000001 ∧ (joinF (bits s)).length ≤ 900000000 := by
  have h1 : wgt (bits s) ≤ s.length + 1 := by rw [← sp_wgt 32 s, ← splF_sp]; exact wgt_filter _ _
  have h2 := joinF_wgt (bits s)
  have h3 := wgt_len (bits s)
  omega
theorem squeezed_ok (s : List UInt8) (hs : s.length ≤ 100000000) : PCall Tryd.prog E0 71 [.str s] (· = .str (sqF s)) := by
  refine pcallF mixed Tryd.func71 ck_chaseref1_squeezed ?_
  simp only [a0, l0, OS.ao, List.map_cons, List.map_nil, List.length_cons, List.length_nil, List.cons_append, List.nil_append, Nat.reduceSub, Nat.reduceAdd, List.replicate_succ, List.replicate_zero, ir_chaseref1_squeezed, rs_chaseref1_squeezed, ZZ, YY, Zd, ite_true, ite_false, forall_const, reduceCtorEq, Nat.reduceAdd, Nat.reduceMul, Nat.reduceLeDiff, Nat.reduceLT, Nat.reduceEqDiff]
  refine useF (SplitR_ok s 32 (by omega)) rfl rfl ?_
  rintro es rfl
  simp only [ZZ, YY, Zd, ite_true, ite_false, forall_const, reduceCtorEq, Nat.reduceAdd, Nat.reduceMul, Nat.reduceLeDiff, Nat.reduceLT, Nat.reduceEqDiff]
  refine useDel 1000 (splF s 32) 117 List.isEmpty (splF_ne s 32) (by have := splF_len s 32; omega) rfl (by kernel_rfl) sq1_any ?_
  rw [strs_eq]
  simp only [ZZ, YY, Zd, ite_true, ite_false, forall_const, reduceCtorEq, Nat.reduceAdd, Nat.reduceMul, Nat.reduceLeDiff, Nat.reduceLT, Nat.reduceEqDiff]
  refine use1 (JoinF_ok (bits s) (by have := bits_bd s hs; omega) (by have := bits_bd s hs; omega)) rfl (.inl rfl) ?_
  simp only [ZZ, YY, Zd, ite_true, ite_false, forall_const, reduceCtorEq, Nat.reduceAdd, Nat.reduceMul, Nat.reduceLeDiff, Nat.reduceLT, Nat.reduceEqDiff]
  rfl
theorem Single_ok (s : List UInt8) (hs : s.length ≤ 100000000) : PCall Tryd.prog E0 68 [.str s] (· = .str (sqF s)) := by
  refine pcallF mixed Tryd.func68 ck_base_Single ?_
  simp only [a0, l0, OS.ao, List.map_cons, List.map_nil, List.length_cons, List.length_nil, List.cons_append, List.nil_append, Nat.reduceSub, Nat.reduceAdd, List.replicate_succ, List.replicate_zero, ir_base_Single, rs_base_Single, ZZ, YY, Zd, ite_true, ite_false, forall_const, reduceCtorEq, Nat.reduceAdd, Nat.reduceMul, Nat.reduceLeDiff, Nat.reduceLT, Nat.reduceEqDiff]
  refine use1 (Split_ok s 32 (by omega)) rfl (.inl rfl) ?_
  rw [strs_eq]
  have hlen := splF_len s 32
  have hB : sqF s = joinF ((splF s 32).filter fun x => !x.isEmpty) := rfl
  have hbd := bits_bd s hs
  unfold bits at hbd
  rw [hB]
  generalize splF s 32 = ls at *
  simp only [ZZ, YY, Zd, ite_true, ite_false, forall_const, reduceCtorEq, Nat.reduceAdd, Nat.reduceMul, Nat.reduceLeDiff, Nat.reduceLT, Nat.reduceEqDiff, strE_len]
  refine loop_intro (fun n fr L => ∃ (k : Nat) (l : List (List UInt8)), k ≤ ls.length ∧ n = ls.length - k ∧ (l = (ls.take k).filter (fun x => !x.isEmpty)) ∧ fr = [.any, .any, .any, .row (.l 3), .any, .any, .any, .p (.sl 1 (strE ls)), .p (int (ls.length : Nat)), .p (int (k : Nat)), .any, .any, .any, .any, .any, .any, .any, .any, .any, .any, .any, .any] ∧ L = [(.l 3, .row (strE l) tStr 1 true)]) (ls.length) [.any, .any, .any, .row (.l 3), .any, .any, .any, .p (.sl 1 (strE ls)), .p (int (ls.length : Nat)), .p (int (0 : Nat)), .any, .any, .any, .any, .any, .any, .any, .any, .any, .any, .any, .any] [(.l 3, .row (strE []) tStr 1 true)] (by simp only [ZZ, YY, Zd, ite_true, ite_false, forall_const, reduceCtorEq, Nat.reduceAdd, Nat.reduceMul, Nat.reduceLeDiff, Nat.reduceLT, Nat.reduceEqDiff, strE_len]; try trivial) (by (simp only [ZZ, YY, Zd, ite_true, ite_false, forall_const, reduceCtorEq, Nat.reduceAdd, Nat.reduceMul, Nat.reduceLeDiff, Nat.reduceLT, Nat.reduceEqDiff]; try trivial)) ⟨0, [], by omega, by omega, by simp, rfl, rfl⟩ ?_
  rintro n fr L ⟨k, l, hk, rfl, hl2, rfl, rfl⟩
  simp only [ir_base_Single_L0, ZZ, YY, Zd, ite_true, ite_false, forall_const, reduceCtorEq, Nat.reduceAdd, Nat.reduceMul, Nat.reduceLeDiff, Nat.reduceLT, Nat.reduceEqDiff]
  refine br ?_ ?_
  · intro h
    have hlt : k < ls.length := by have := of_decide_eq_true h; omega
    obtain ⟨x, hx⟩ : ∃ x, ls[k]? = some x := ⟨_, List.getElem?_eq_getElem hlt⟩
    have hg := strE_get hx
    have hlk : l.length ≤ ls.length := by rw [hl2]; exact Nat.le_trans (List.length_filter_le _ _) (by simp; omega)
    have hnx : (ls.take (k + 1)).filter (fun x => !x.isEmpty) = if x = [] then l else l ++ [x] := by
      rw [List.take_succ_eq_append_getElem hlt, List.filter_append, ← hl2, (List.getElem?_eq_some_iff.1 hx).2]
      cases x <;> simp
    simp only [ZZ, YY, Zd, ite_true, ite_false, forall_const, reduceCtorEq, Nat.reduceAdd, Nat.reduceMul, Nat.reduceLeDiff, Nat.reduceLT, Nat.reduceEqDiff, hg, strE_len]
    ((repeat' (with_reducible apply And.intro)) <;> try ((first | first | assumption | trivial | exact (fun hq => by rw [hq]; rfl) | exact i64_of (by omega) (by omega) | omega | (simp; done) | (simp; omega) | (intro hsc; have hs0 := hsc; (try have hsd := of_decide_eq_true hsc); (try simp only [Bool.not_eq_true', Bool.or_eq_false_iff, Bool.and_eq_true, Bool.or_eq_true, decide_eq_true_eq, decide_eq_false_iff_not] at hsc); (repeat' (with_reducible apply And.intro)) <;> (first | assumption | trivial | exact (fun hq => by rw [hq]; rfl) | exact i64_of (by omega) (by omega) | omega | (simp; done) | (simp; omega) | (intro hse; simp [hse, hs0]; done) | (intro hse; simp only [hse, hs0, Bool.true_and, Bool.and_true, Bool.not_false, Bool.not_true, Bool.and_self]; done))))))
    refine br ?_ ?_
    · intro hm
      have hm : ¬ x = [] := by simpa using hm
      simp only [ZZ, YY, Zd, ite_true, ite_false, forall_const, reduceCtorEq, Nat.reduceAdd, Nat.reduceMul, Nat.reduceLeDiff, Nat.reduceLT, Nat.reduceEqDiff, strE_len]
      refine ⟨by omega, ?_⟩
      refine cut_same (by simp only [ZZ, YY, Zd, ite_true, ite_false, forall_const, reduceCtorEq, Nat.reduceAdd, Nat.reduceMul, Nat.reduceLeDiff, Nat.reduceLT, Nat.reduceEqDiff]) ?_
      simp only [ZZ, YY, Zd, ite_true, ite_false, forall_const, reduceCtorEq, Nat.reduceAdd, Nat.reduceMul, Nat.reduceLeDiff, Nat.reduceLT, Nat.reduceEqDiff]
      refine ⟨i64_of (by omega) (by omega), ?_⟩
      rw [strE_one, ← strE_app]
      refine end_round (ls.length - (k + 1)) [.any, .any, .any, .row (.l 3), .any, .any, .any, .p (.sl 1 (strE ls)), .p (int (ls.length : Nat)), .p (int ((k + 1) : Nat)), .any, .any, .any, .any, .any, .any, .any, .any, .any, .any, .any, .any] [(.l 3, .row (strE (l ++ [x])) tStr 1 true)] (by omega) (by (simp only [ZZ, YY, Zd, ite_true, ite_false, forall_const, reduceCtorEq, Nat.reduceAdd, Nat.reduceMul, Nat.reduceLeDiff, Nat.reduceLT, Nat.reduceEqDiff]; try trivial)) (by (simp only [ZZ, YY, Zd, ite_true, ite_false, forall_const, reduceCtorEq, Nat.reduceAdd, Nat.reduceMul, Nat.reduceLeDiff, Nat.reduceLT, Nat.reduceEqDiff]; try trivial)) ⟨k + 1, l ++ [x], by omega, rfl, by rw [hnx, if_neg hm], rfl, rfl⟩
    · intro hm
      have hm : x = [] := by simpa using hm
      simp only [ZZ, YY, Zd, ite_true, ite_false, forall_const, reduceCtorEq, Nat.reduceAdd, Nat.reduceMul, Nat.reduceLeDiff, Nat.reduceLT, Nat.reduceEqDiff]
      refine cut_same (by simp only [ZZ, YY, Zd, ite_true, ite_false, forall_const, reduceCtorEq, Nat.reduceAdd, Nat.reduceMul, Nat.reduceLeDiff, Nat.reduceLT, Nat.reduceEqDiff]) ?_
      simp only [ZZ, YY, Zd, ite_true, ite_false, forall_const, reduceCtorEq, Nat.reduceAdd, Nat.reduceMul, Nat.reduceLeDiff, Nat.reduceLT, Nat.reduceEqDiff]
      refine ⟨i64_of (by omega) (by omega), ?_⟩
      refine end_round (ls.length - (k + 1)) [.any, .any, .any, .row (.l 3), .any, .any, .any, .p (.sl 1 (strE ls)), .p (int (ls.length : Nat)), .p (int ((k + 1) : Nat)), .any, .any, .any, .any, .any, .any, .any, .any, .any, .any, .any, .any] [(.l 3, .row (strE l) tStr 1 true)] (by omega) (by (simp only [ZZ, YY, Zd, ite_true, ite_false, forall_const, reduceCtorEq, Nat.reduceAdd, Nat.reduceMul, Nat.reduceLeDiff, Nat.reduceLT, Nat.reduceEqDiff]; try trivial)) (by (simp only [ZZ, YY, Zd, ite_true, ite_false, forall_const, reduceCtorEq, Nat.reduceAdd, Nat.reduceMul, Nat.reduceLeDiff, Nat.reduceLT, Nat.reduceEqDiff]; try trivial)) ⟨k + 1, l, by omega, rfl, by rw [hnx, if_pos hm], rfl, rfl⟩
  · intro h
    have hge : k = ls.length := by have := of_decide_eq_false h; omega
    subst hge
    rw [List.take_length] at hl2
    subst hl2
    simp only [ZZ, YY, Zd, ite_true, ite_false, forall_const, reduceCtorEq, Nat.reduceAdd, Nat.reduceMul, Nat.reduceLeDiff, Nat.reduceLT, Nat.reduceEqDiff]
    refine use1 (JoinF_ok (ls.filter fun x => !x.isEmpty) (by omega) (by omega)) rfl (.inr rfl) ?_
    simp only [ZZ, YY, Zd, ite_true, ite_false, forall_const, reduceCtorEq, Nat.reduceAdd, Nat.reduceMul, Nat.reduceLeDiff, Nat.reduceLT, Nat.reduceEqDiff]
end Go.Proofs.YtndjmidmfmcbkaaDoor

/- Subjects: the reference's marks; the normal form, on both sides. -/
namespace Go.Proofs.YtndjmidmfmcbkaaDoor
open Go.RowKit
set_option linter.unusedVariables false
set_option linter.unusedSimpArgs false
set_option linter.defProp false

/- paperchase/thread.Subject -/
def ir_thread_Subject_L0 : IC :=
  (.block 1 (.seq (.reg [⟨some 7, .mov (.t 0), none⟩,
      ⟨some 8, .call 65 [.t 7, .c (.str [32])], none⟩,
      ⟨some 0, .mov (.t 8), none⟩])
    (.seq (.reg [⟨some 10, .mov (.t 0), none⟩,
      ⟨some 11, .call 66 [.t 10], none⟩,
      ⟨some 9, .mov (.t 11), none⟩,
      ⟨some 12, .ext 0 (.t 9), none⟩,
      ⟨some 13, .ext 1 (.t 9), none⟩,
      ⟨some 5, .mov (.t 12), none⟩,
      ⟨some 6, .mov (.t 13), none⟩])
    (.seq (.seq (.reg [⟨some 14, .mov (.t 5), none⟩,
      ⟨some 15, .bin .eql (.t 14) (.c (.int .i64 0)), none⟩])
    (.cond (.t 15) (.seq (.reg [⟨some 16, .mov (.t 0), none⟩,
      ⟨some 17, .call 68 [.t 16], none⟩,
      ⟨some 18, .call 67 [.t 17], none⟩,
      ⟨some 19, .mov (.t 4), none⟩,
      ⟨some 2, .mov (.t 18), none⟩,
      ⟨some 3, .mov (.t 19), none⟩])
    .ret) .skip))
    (.reg [⟨some 20, .mov (.t 0), none⟩,
      ⟨some 21, .mov (.t 5), none⟩,
      ⟨some 22, .ssl (.t 20) (some (.t 21)) none, none⟩,
      ⟨some 23, .mov (.t 4), none⟩,
      ⟨some 24, .mov (.t 6), none⟩,
      ⟨some 25, .bin .add (.t 23) (.t 24), none⟩,
      ⟨some 0, .mov (.t 22), none⟩,
      ⟨some 4, .mov (.t 25), none⟩])))))
def ir_thread_Subject : IC :=
  (.seq (.reg [⟨some 2, .mov (.c (.str [])), none⟩,
      ⟨some 3, .mov (.c (.int .i64 0)), none⟩])
    (.seq (.reg [⟨some 4, .mov (.c (.int .i64 0)), none⟩])
    (.block 0 (.loop ir_thread_Subject_L0))))
def rs_thread_Subject : List IRes := [.t 2, .t 3]
theorem ck_thread_Subject : chkF Tryd.prog Tryd.f28 ir_thread_Subject rs_thread_Subject 26 = true := by kernel_rfl
/- paperchase/chaseref1.mark -/
def ir_chaseref1_mark_L0 : IC :=
  (.seq (.reg [⟨some 22, .bin .lss (.t 21) (.t 20), none⟩])
    (.seq (.cond (.t 22) .skip (.exit 0))
    (.seq (.block 1 (.seq (.reg [⟨some 23, .ixa 1 (.t 19) (.t 21), none⟩,
      ⟨some 24, .ld 1 false (.t 23), none⟩,
      ⟨some 6, .mov (.t 24), none⟩])
    (.seq (.reg [⟨some 26, .mov (.t 4), none⟩,
      ⟨some 27, .mov (.t 6), none⟩,
      ⟨some 28, .call 109 [.t 26, .t 27], none⟩,
      ⟨some 25, .mov (.t 28), none⟩,
      ⟨some 29, .ext 0 (.t 25), none⟩,
      ⟨some 30, .ext 1 (.t 25), none⟩,
      ⟨some 7, .mov (.t 29), none⟩,
      ⟨some 8, .mov (.t 30), none⟩])
    (.seq (.seq (.reg [⟨some 31, .mov (.t 8), none⟩,
      ⟨some 32, .not (.t 31), none⟩])
    (.cond (.t 32) (.exit 1) .skip))
    (.seq (.seq (.reg [⟨some 33, .mov (.t 7), none⟩,
      ⟨some 34, .call 88 [.t 33, .c (.str [58])], none⟩])
    (.cond (.t 34) (.seq (.reg [⟨some 35, .mov (.t 6), none⟩,
      ⟨some 36, .sln (.t 35), none⟩,
      ⟨some 37, .bin .add (.t 36) (.c (.int .i64 1)), none⟩,
      ⟨some 2, .mov (.t 37), none⟩,
      ⟨some 3, .mov (.c (.bool true)), none⟩])
    .ret) .skip))
    (.seq (.reg [⟨some 39, .mov (.t 7), none⟩,
      ⟨some 40, .call 113 [.t 39, .c (.str [91])], none⟩,
      ⟨some 41, .call 112 [.t 40, .c (.str [93, 58])], none⟩,
      ⟨some 38, .mov (.t 41), none⟩,
      ⟨some 42, .ext 0 (.t 38), none⟩,
      ⟨some 43, .ext 1 (.t 38), none⟩,
      ⟨some 44, .ext 2 (.t 38), none⟩,
      ⟨some 9, .mov (.t 42), none⟩,
      ⟨some 10, .mov (.t 43), none⟩,
      ⟨some 11, .mov (.t 44), none⟩])
    (.seq (.reg [⟨some 45, .mov (.t 11), none⟩,
      ⟨some 46, .mov (.t 45), none⟩,
      ⟨some 47, .mov (.t 7), (some (46, true))⟩,
      ⟨some 48, .idx (.t 47) (.c (.int .i64 0)), (some (46, true))⟩,
      ⟨some 49, .bin .eql (.t 48) (.c (.int .u8 91)), (some (46, true))⟩,
      ⟨some 50, .pick (.t 46) (.t 49) (.c (.bool false)), none⟩,
      ⟨some 51, .mov (.t 50), none⟩,
      ⟨some 52, .mov (.t 9), (some (51, true))⟩,
      ⟨some 53, .bin .neq (.t 52) (.c (.str [])), (some (51, true))⟩,
      ⟨some 54, .pick (.t 51) (.t 53) (.c (.bool false)), none⟩,
      ⟨some 55, .mov (.t 54), none⟩,
      ⟨some 56, .mov (.t 9), (some (55, true))⟩,
      ⟨some 57, .call 114 [.t 56, .c (.str [48, 49, 50, 51, 52, 53, 54, 55, 56, 57])], (some (55, true))⟩,
      ⟨some 58, .pick (.t 55) (.t 57) (.c (.bool false)), none⟩])
    (.cond (.t 58) (.seq (.reg [⟨some 59, .mov (.t 0), none⟩,
      ⟨some 60, .sln (.t 59), none⟩,
      ⟨some 61, .mov (.t 10), none⟩,
      ⟨some 62, .sln (.t 61), none⟩,
      ⟨some 63, .bin .sub (.t 60) (.t 62), none⟩,
      ⟨some 2, .mov (.t 63), none⟩,
      ⟨some 3, .mov (.c (.bool true)), none⟩])
    .ret) .skip))))))))
    (.cut (.reg [⟨some 64, .bin .add (.t 21) (.c (.int .i64 1)), none⟩,
      ⟨some 21, .mov (.t 64), none⟩])))))
def ir_chaseref1_mark : IC :=
  (.seq (.reg [⟨some 2, .mov (.c (.int .i64 0)), none⟩,
      ⟨some 3, .mov (.c (.bool false)), none⟩])
    (.seq (.reg [⟨some 17, .mov (.t 0), none⟩,
      ⟨some 18, .call 70 [.t 17], none⟩,
      ⟨some 4, .mov (.t 18), none⟩])
    (.seq (.seq (.reg [⟨some 19, .bsl 1 [.c (.str [114, 101]), .c (.str [102, 119, 100]), .c (.str [102, 119]), .c (.str [97, 119]), .c (.str [119, 103])], none⟩,
      ⟨some 20, .len (.t 19), none⟩,
      ⟨some 21, .mov (.c (.int .i64 0)), none⟩])
    (.block 0 (.loop ir_chaseref1_mark_L0)))
    (.seq (.seq (.reg [⟨some 66, .mov (.t 0), none⟩,
      ⟨some 67, .call 109 [.t 66, .c (.str [91])], none⟩,
      ⟨some 65, .mov (.t 67), none⟩,
      ⟨some 68, .ext 0 (.t 65), none⟩,
      ⟨some 69, .ext 1 (.t 65), none⟩,
      ⟨some 12, .mov (.t 68), none⟩,
      ⟨some 13, .mov (.t 69), none⟩])
    (.seq (.reg [⟨some 70, .mov (.t 13), none⟩])
    (.cond (.t 70) (.seq (.reg [⟨some 72, .mov (.t 12), none⟩,
      ⟨some 73, .call 112 [.t 72, .c (.str [93])], none⟩,
      ⟨some 71, .mov (.t 73), none⟩,
      ⟨some 74, .ext 0 (.t 71), none⟩,
      ⟨some 75, .ext 1 (.t 71), none⟩,
      ⟨some 76, .ext 2 (.t 71), none⟩,
      ⟨some 14, .mov (.t 74), none⟩,
      ⟨some 15, .mov (.t 75), none⟩,
      ⟨some 16, .mov (.t 76), none⟩])
    (.seq (.reg [⟨some 77, .mov (.t 16), none⟩,
      ⟨some 78, .mov (.t 77), none⟩,
      ⟨some 79, .mov (.t 14), (some (78, true))⟩,
      ⟨some 80, .sln (.t 79), (some (78, true))⟩,
      ⟨some 81, .bin .leq (.t 80) (.c (.int .i64 20)), (some (78, true))⟩,
      ⟨some 82, .pick (.t 78) (.t 81) (.c (.bool false)), none⟩,
      ⟨some 83, .mov (.t 82), none⟩,
      ⟨some 84, .mov (.t 14), (some (83, true))⟩,
      ⟨some 85, .call 53 [.t 84, .c (.str [91])], (some (83, true))⟩,
      ⟨some 86, .not (.t 85), (some (83, true))⟩,
      ⟨some 87, .pick (.t 83) (.t 86) (.c (.bool false)), none⟩])
    (.cond (.t 87) (.seq (.reg [⟨some 88, .mov (.t 0), none⟩,
      ⟨some 89, .sln (.t 88), none⟩,
      ⟨some 90, .mov (.t 15), none⟩,
      ⟨some 91, .sln (.t 90), none⟩,
      ⟨some 92, .bin .sub (.t 89) (.t 91), none⟩,
      ⟨some 2, .mov (.t 92), none⟩,
      ⟨some 3, .mov (.c (.bool false)), none⟩])
    .ret) .skip))) .skip)))
    (.cut (.seq (.reg [⟨some 2, .mov (.c (.int .i64 0)), none⟩,
      ⟨some 3, .mov (.c (.bool false)), none⟩])
    .ret))))))
def rs_chaseref1_mark : List IRes := [.t 2, .t 3]
theorem ck_chaseref1_mark : chkF Tryd.prog Tryd.f69 ir_chaseref1_mark rs_chaseref1_mark 93 = true := by kernel_rfl
/- paperchase/chaseref1.SubjectOf -/
def ir_chaseref1_SubjectOf_L0 : IC :=
  (.block 1 (.seq (.reg [⟨some 7, .mov (.t 0), none⟩,
      ⟨some 8, .call 65 [.t 7, .c (.str [32])], none⟩,
      ⟨some 0, .mov (.t 8), none⟩])
    (.seq (.reg [⟨some 10, .mov (.t 0), none⟩,
      ⟨some 11, .call 69 [.t 10], none⟩,
      ⟨some 9, .mov (.t 11), none⟩,
      ⟨some 12, .ext 0 (.t 9), none⟩,
      ⟨some 13, .ext 1 (.t 9), none⟩,
      ⟨some 5, .mov (.t 12), none⟩,
      ⟨some 6, .mov (.t 13), none⟩])
    (.seq (.seq (.reg [⟨some 14, .mov (.t 5), none⟩,
      ⟨some 15, .bin .eql (.t 14) (.c (.int .i64 0)), none⟩])
    (.cond (.t 15) (.seq (.reg [⟨some 16, .mov (.t 0), none⟩,
      ⟨some 17, .call 71 [.t 16], none⟩,
      ⟨some 18, .call 70 [.t 17], none⟩,
      ⟨some 19, .mov (.t 4), none⟩,
      ⟨some 2, .mov (.t 18), none⟩,
      ⟨some 3, .mov (.t 19), none⟩])
    .ret) .skip))
    (.seq (.seq (.reg [⟨some 20, .mov (.t 6), none⟩])
    (.cond (.t 20) (.reg [⟨some 21, .mov (.t 4), none⟩,
      ⟨some 22, .bin .add (.t 21) (.c (.int .i64 1)), none⟩,
      ⟨some 4, .mov (.t 22), none⟩]) .skip))
    (.cut (.reg [⟨some 23, .mov (.t 0), none⟩,
      ⟨some 24, .mov (.t 5), none⟩,
      ⟨some 25, .ssl (.t 23) (some (.t 24)) none, none⟩,
      ⟨some 0, .mov (.t 25), none⟩])))))))
def ir_chaseref1_SubjectOf : IC :=
  (.seq (.reg [⟨some 2, .mov (.c (.str [])), none⟩,
      ⟨some 3, .mov (.c (.int .i64 0)), none⟩])
    (.seq (.reg [⟨some 4, .mov (.c (.int .i64 0)), none⟩])
    (.block 0 (.loop ir_chaseref1_SubjectOf_L0))))
def rs_chaseref1_SubjectOf : List IRes := [.t 2, .t 3]
theorem ck_chaseref1_SubjectOf : chkF Tryd.prog Tryd.f29 ir_chaseref1_SubjectOf rs_chaseref1_SubjectOf 26 = true := by kernel_rfl

theorem mkR_hit {r : List UInt8} (h : Lib.hasPrefix r [58] = true) : mkP r = some (r.drop 1) := by rw [mk_same, mkR, if_pos h]
theorem mkR_miss {r : List UInt8} (h : ¬ Lib.hasPrefix r [58] = true) : mkP r = if (((cutF (cutPreF r [91]).1 [93, 58]).2.2 = true ∧ r.getD 0 0 = 91) ∧ (cutF (cutPreF r [91]).1 [93, 58]).1 ≠ []) ∧ madeF (cutF (cutPreF r [91]).1 [93, 58]).1 [48, 49, 50, 51, 52, 53, 54, 55, 56, 57] = true then some (cutF (cutPreF r [91]).1 [93, 58]).2.1 else none := by
  rw [mk_same, mkR, if_neg h]
theorem cutPre_len (s p : List UInt8) : (cutPreF s p).1.length ≤ s.length := by
  rw [cutPreF]
  split
  · simp
  · simp
theorem cutF_room {s p : List UInt8} (h : (cutF s p).2.2 = true) : (cutF s p).1.length + p.length + (cutF s p).2.1.length = s.length := by
  rcases ix_cases s p with ⟨h1, _⟩ | ⟨a, b, h1, h2, _⟩
  · rw [cut_not h1] at h; cases h
  · rw [h1] at h2 ⊢
    rw [cut_at h2]
    simp
    omega
theorem markR_ok (s : List UInt8) (hs : s.length ≤ 900000000) : PCall Tryd.prog E0 69 [.str s] (· = .tup [int ((markF s).1 : Nat), .bool (decide ((markF s).2 = 1))]) := by
  refine pcallF mixed Tryd.func69 ck_chaseref1_mark ?_
  simp only [a0, l0, OS.ao, List.map_cons, List.map_nil, List.length_cons, List.length_nil, List.cons_append, List.nil_append, Nat.reduceSub, Nat.reduceAdd, List.replicate_succ, List.replicate_zero, ir_chaseref1_mark, rs_chaseref1_mark, ZZ, YY, Zd, ite_true, ite_false, forall_const, reduceCtorEq, Nat.reduceAdd, Nat.reduceMul, Nat.reduceLeDiff, Nat.reduceLT, Nat.reduceEqDiff]
  refine use1 (lowerR_ok s (by omega)) rfl (.inl rfl) ?_
  have hll : (lowF s).length = s.length := by simp [lowF]
  simp only [ZZ, YY, Zd, ite_true, ite_false, forall_const, reduceCtorEq, Nat.reduceAdd, Nat.reduceMul, Nat.reduceLeDiff, Nat.reduceLT, Nat.reduceEqDiff]
  rw [show [[PV.str [114, 101]], [.str [102, 119, 100]], [.str [102, 119]], [.str [97, 119]], [.str [119, 103]]] = strE wsS from rfl]
  refine loop_intro (fun n fr L => ∃ (k : Nat), k ≤ 5 ∧ n = 5 - k ∧ (∀ j z, j < k → wsS[j]? = some z → stepW (lowF s) z = none) ∧ fr = [.p (.str s), .any, .any, .any, .p (.str (lowF s)), .any, .any, .any, .any, .any, .any, .any, .any, .any, .any, .any, .any, .any, .any, .p (.sl 1 (strE wsS)), .p (int (5 : Nat)), .p (int (k : Nat)), .any, .any, .any, .any, .any, .any, .any, .any, .any, .any, .any, .any, .any, .any, .any, .any, .any, .any, .any, .any, .any, .any, .any, .any, .any, .any, .any, .any, .any, .any, .any, .any, .any, .any, .any, .any, .any, .any, .any, .any, .any, .any, .any, .any, .any, .any, .any, .any, .any, .any, .any, .any, .any, .any, .any, .any, .any, .any, .any, .any, .any, .any, .any, .any, .any, .any, .any, .any, .any, .any, .any] ∧ L = []) (5) [.p (.str s), .any, .any, .any, .p (.str (lowF s)), .any, .any, .any, .any, .any, .any, .any, .any, .any, .any, .any, .any, .any, .any, .p (.sl 1 (strE wsS)), .p (int (5 : Nat)), .p (int (0 : Nat)), .any, .any, .any, .any, .any, .any, .any, .any, .any, .any, .any, .any, .any, .any, .any, .any, .any, .any, .any, .any, .any, .any, .any, .any, .any, .any, .any, .any, .any, .any, .any, .any, .any, .any, .any, .any, .any, .any, .any, .any, .any, .any, .any, .any, .any, .any, .any, .any, .any, .any, .any, .any, .any, .any, .any, .any, .any, .any, .any, .any, .any, .any, .any, .any, .any, .any, .any, .any, .any, .any, .any] [] (by simp only [ZZ, YY, Zd, ite_true, ite_false, forall_const, reduceCtorEq, Nat.reduceAdd, Nat.reduceMul, Nat.reduceLeDiff, Nat.reduceLT, Nat.reduceEqDiff, strE_len]; try trivial) (by (simp only [ZZ, YY, Zd, ite_true, ite_false, forall_const, reduceCtorEq, Nat.reduceAdd, Nat.reduceMul, Nat.reduceLeDiff, Nat.reduceLT, Nat.reduceEqDiff]; try trivial)) ⟨0, by omega, by omega, (fun j z hj => absurd hj (Nat.not_lt_zero _)), rfl, rfl⟩ ?_
  rintro n fr L ⟨k, hk, rfl, hn, rfl, rfl⟩
  simp only [ir_chaseref1_mark_L0, ZZ, YY, Zd, ite_true, ite_false, forall_const, reduceCtorEq, Nat.reduceAdd, Nat.reduceMul, Nat.reduceLeDiff, Nat.reduceLT, Nat.reduceEqDiff]
  refine br ?_ ?_
  · intro h
    have hk5 : k < 5 := by have := of_decide_eq_true h; omega
    have hlt : k < wsS.length := hk5
    obtain ⟨x, hx⟩ : ∃ x, wsS[k]? = some x := ⟨_, List.getElem?_eq_getElem hlt⟩
    have hg := strE_get hx
    have hxl := wsS_len (List.mem_of_getElem? hx)
    simp only [ZZ, YY, Zd, ite_true, ite_false, forall_const, reduceCtorEq, Nat.reduceAdd, Nat.reduceMul, Nat.reduceLeDiff, Nat.reduceLT, Nat.reduceEqDiff, hg, strE_len]
    ((repeat' (with_reducible apply And.intro)) <;> try ((first | first | assumption | trivial | exact (fun hq => by rw [hq]; rfl) | exact i64_of (by omega) (by omega) | omega | (simp; done) | (simp; omega) | (intro hsc; have hs0 := hsc; (try have hsd := of_decide_eq_true hsc); (try simp only [Bool.not_eq_true', Bool.or_eq_false_iff, Bool.and_eq_true, Bool.or_eq_true, decide_eq_true_eq, decide_eq_false_iff_not] at hsc); (repeat' (with_reducible apply And.intro)) <;> (first | assumption | trivial | exact (fun hq => by rw [hq]; rfl) | exact i64_of (by omega) (by omega) | omega | (simp; done) | (simp; omega) | (intro hse; simp [hse, hs0]; done) | (intro hse; simp only [hse, hs0, Bool.true_and, Bool.and_true, Bool.not_false, Bool.not_true, Bool.and_self]; done))))))
    refine use1 (CutPrefix_ok (lowF s) x (by omega) (by omega)) rfl (.inl rfl) ?_
    simp only [ZZ, YY, Zd, ite_true, ite_false, forall_const, reduceCtorEq, Nat.reduceAdd, Nat.reduceMul, Nat.reduceLeDiff, Nat.reduceLT, Nat.reduceEqDiff]
    refine br ?_ ?_
    · intro hp
      have hp : ¬ Lib.hasPrefix (lowF s) x = true := by
        intro h; rw [cutPreF, if_pos h] at hp; cases hp
      simp only [ZZ, YY, Zd, ite_true, ite_false, forall_const, reduceCtorEq, Nat.reduceAdd, Nat.reduceMul, Nat.reduceLeDiff, Nat.reduceLT, Nat.reduceEqDiff]
      refine cut_same (by simp only [ZZ, YY, Zd, ite_true, ite_false, forall_const, reduceCtorEq, Nat.reduceAdd, Nat.reduceMul, Nat.reduceLeDiff, Nat.reduceLT, Nat.reduceEqDiff]) ?_
      simp only [ZZ, YY, Zd, ite_true, ite_false, forall_const, reduceCtorEq, Nat.reduceAdd, Nat.reduceMul, Nat.reduceLeDiff, Nat.reduceLT, Nat.reduceEqDiff]
      refine ⟨i64_of (by omega) (by omega), ?_⟩
      refine end_round (5 - (k + 1)) [.p (.str s), .any, .any, .any, .p (.str (lowF s)), .any, .any, .any, .any, .any, .any, .any, .any, .any, .any, .any, .any, .any, .any, .p (.sl 1 (strE wsS)), .p (int (5 : Nat)), .p (int ((k + 1) : Nat)), .any, .any, .any, .any, .any, .any, .any, .any, .any, .any, .any, .any, .any, .any, .any, .any, .any, .any, .any, .any, .any, .any, .any, .any, .any, .any, .any, .any, .any, .any, .any, .any, .any, .any, .any, .any, .any, .any, .any, .any, .any, .any, .any, .any, .any, .any, .any, .any, .any, .any, .any, .any, .any, .any, .any, .any, .any, .any, .any, .any, .any, .any, .any, .any, .any, .any, .any, .any, .any, .any, .any] [] (by omega) (by (simp only [ZZ, YY, Zd, ite_true, ite_false, forall_const, reduceCtorEq, Nat.reduceAdd, Nat.reduceMul, Nat.reduceLeDiff, Nat.reduceLT, Nat.reduceEqDiff]; try trivial)) (by (simp only [ZZ, YY, Zd, ite_true, ite_false, forall_const, reduceCtorEq, Nat.reduceAdd, Nat.reduceMul, Nat.reduceLeDiff, Nat.reduceLT, Nat.reduceEqDiff]; try trivial)) ⟨k + 1, by omega, rfl, no_snoc hn hx (by rw [stepW, if_neg hp]), rfl, rfl⟩
    · intro hp
      have hp : Lib.hasPrefix (lowF s) x = true := by
        by_cases h : Lib.hasPrefix (lowF s) x = true
        · exact h
        · rw [cutPreF, if_neg h] at hp; cases hp
      have hpl := hasPrefix_len hp
      rw [cutPreF, if_pos hp]
      have hst : stepW (lowF s) x = mkP ((lowF s).drop x.length) := by rw [stepW, if_pos hp]
      have hrl : ((lowF s).drop x.length).length + x.length = s.length := by simp only [List.length_drop]; omega
      generalize hr : (lowF s).drop x.length = r at *
      simp only [ZZ, YY, Zd, ite_true, ite_false, forall_const, reduceCtorEq, Nat.reduceAdd, Nat.reduceMul, Nat.reduceLeDiff, Nat.reduceLT, Nat.reduceEqDiff]
      refine use1 (HasPrefix_ok r [58]) rfl (.inl rfl) ?_
      simp only [ZZ, YY, Zd, ite_true, ite_false, forall_const, reduceCtorEq, Nat.reduceAdd, Nat.reduceMul, Nat.reduceLeDiff, Nat.reduceLT, Nat.reduceEqDiff]
      refine br ?_ ?_
      · intro hh
        obtain ⟨q, hq⟩ := (hp1 _ _).1 hh
        have hm : mkP r = some q := by rw [mkR_hit hh, hq]; rfl
        have hF : markF s = (s.length - q.length, 1) := by rw [markF, findSome_get hn hx (hst.trans hm)]
        rw [hq] at hrl
        simp only [List.length_cons] at hrl
        have e1 : ((x.length : Nat) : Int) + 1 = ((s.length - q.length : Nat) : Int) := by omega
        simp only [ZZ, YY, Zd, ite_true, ite_false, forall_const, reduceCtorEq, Nat.reduceAdd, Nat.reduceMul, Nat.reduceLeDiff, Nat.reduceLT, Nat.reduceEqDiff]
        rw [hF]
        simp only [ZZ, YY, Zd, ite_true, ite_false, forall_const, reduceCtorEq, Nat.reduceAdd, Nat.reduceMul, Nat.reduceLeDiff, Nat.reduceLT, Nat.reduceEqDiff, e1]
        ((repeat' (with_reducible apply And.intro)) <;> try ((first | first | assumption | trivial | exact (fun hq => by rw [hq]; rfl) | exact i64_of (by omega) (by omega) | omega | (simp; done) | (simp; omega) | (intro hsc; have hs0 := hsc; (try have hsd := of_decide_eq_true hsc); (try simp only [Bool.not_eq_true', Bool.or_eq_false_iff, Bool.and_eq_true, Bool.or_eq_true, decide_eq_true_eq, decide_eq_false_iff_not] at hsc); (repeat' (with_reducible apply And.intro)) <;> (first | assumption | trivial | exact (fun hq => by rw [hq]; rfl) | exact i64_of (by omega) (by omega) | omega | (simp; done) | (simp; omega) | (intro hse; simp [hse, hs0]; done) | (intro hse; simp only [hse, hs0, Bool.true_and, Bool.and_true, Bool.not_false, Bool.not_true, Bool.and_self]; done))))))
      · intro hh
        have hm := mkR_miss (r := r) (by simp [hh])
        simp only [ZZ, YY, Zd, ite_true, ite_false, forall_const, reduceCtorEq, Nat.reduceAdd, Nat.reduceMul, Nat.reduceLeDiff, Nat.reduceLT, Nat.reduceEqDiff]
        refine use1 (TrimPrefix_ok r [91] (by omega) (by decide)) rfl (.inl rfl) ?_
        simp only [ZZ, YY, Zd, ite_true, ite_false, forall_const, reduceCtorEq, Nat.reduceAdd, Nat.reduceMul, Nat.reduceLeDiff, Nat.reduceLT, Nat.reduceEqDiff]
        have hl1 := cutPre_len r [91]
        refine use1 (Cut_ok (cutPreF r [91]).1 [93, 58] (by omega)) rfl (.inl rfl) ?_
        have hl2 := cutF_len (cutPreF r [91]).1 [93, 58]
        have hl3 := @cutF_room (cutPreF r [91]).1 [93, 58]
        generalize cutF (cutPreF r [91]).1 [93, 58] = c at *
        simp only [ZZ, YY, Zd, ite_true, ite_false, forall_const, reduceCtorEq, Nat.reduceAdd, Nat.reduceMul, Nat.reduceLeDiff, Nat.reduceLT, Nat.reduceEqDiff]
        have hr0 : c.2.2 = true → 0 < r.length := by
          intro h
          have := hl3 h
          simp at this
          omega
        refine ⟨fun hq => ⟨hq, by omega, by have := hr0 hq; omega⟩, ?_⟩
        refine useG (fun _ => made_ok c.1 [48, 49, 50, 51, 52, 53, 54, 55, 56, 57] (by omega) (by decide) (by decide)) rfl (.inl rfl) ?_
        simp only [ZZ, YY, Zd, ite_true, ite_false, forall_const, reduceCtorEq, Nat.reduceAdd, Nat.reduceMul, Nat.reduceLeDiff, Nat.reduceLT, Nat.reduceEqDiff]
        refine br ?_ ?_
        · intro hb
          simp only [show Int.toNat 0 = 0 from rfl, Bool.and_eq_true, decide_eq_true_eq, Bool.not_eq_true', decide_eq_false_iff_not] at hb
          have hc : r.getD 0 0 = 91 := UInt8.toNat_inj.1 (show _ = 91 from by have := hb.1.1.2; omega)
          rw [if_pos ⟨⟨⟨hb.1.1.1, hc⟩, hb.1.2⟩, hb.2⟩] at hm
          have hF : markF s = (s.length - c.2.1.length, 1) := by rw [markF, findSome_get hn hx (hst.trans hm)]
          simp only [ZZ, YY, Zd, ite_true, ite_false, forall_const, reduceCtorEq, Nat.reduceAdd, Nat.reduceMul, Nat.reduceLeDiff, Nat.reduceLT, Nat.reduceEqDiff]
          rw [hF]
          have e1 : (s.length : Int) - (c.2.1.length : Nat) = ((s.length - c.2.1.length : Nat) : Int) := by omega
          simp only [ZZ, YY, Zd, ite_true, ite_false, forall_const, reduceCtorEq, Nat.reduceAdd, Nat.reduceMul, Nat.reduceLeDiff, Nat.reduceLT, Nat.reduceEqDiff, e1]
          ((repeat' (with_reducible apply And.intro)) <;> try ((first | first | assumption | trivial | exact (fun hq => by rw [hq]; rfl) | exact i64_of (by omega) (by omega) | omega | (simp; done) | (simp; omega) | (intro hsc; have hs0 := hsc; (try have hsd := of_decide_eq_true hsc); (try simp only [Bool.not_eq_true', Bool.or_eq_false_iff, Bool.and_eq_true, Bool.or_eq_true, decide_eq_true_eq, decide_eq_false_iff_not] at hsc); (repeat' (with_reducible apply And.intro)) <;> (first | assumption | trivial | exact (fun hq => by rw [hq]; rfl) | exact i64_of (by omega) (by omega) | omega | (simp; done) | (simp; omega) | (intro hse; simp [hse, hs0]; done) | (intro hse; simp only [hse, hs0, Bool.true_and, Bool.and_true, Bool.not_false, Bool.not_true, Bool.and_self]; done))))))
        · intro hb
          have hm : mkP r = none := by
            rw [hm, if_neg]
            rintro ⟨⟨⟨h1, h2⟩, h3⟩, h4⟩
            simp only [show Int.toNat 0 = 0 from rfl, h1, h2, h4, Bool.true_and, Bool.and_true] at hb
            simp [h3] at hb
          simp only [ZZ, YY, Zd, ite_true, ite_false, forall_const, reduceCtorEq, Nat.reduceAdd, Nat.reduceMul, Nat.reduceLeDiff, Nat.reduceLT, Nat.reduceEqDiff]
          refine cut_same (by simp only [ZZ, YY, Zd, ite_true, ite_false, forall_const, reduceCtorEq, Nat.reduceAdd, Nat.reduceMul, Nat.reduceLeDiff, Nat.reduceLT, Nat.reduceEqDiff]) ?_
          simp only [ZZ, YY, Zd, ite_true, ite_false, forall_const, reduceCtorEq, Nat.reduceAdd, Nat.reduceMul, Nat.reduceLeDiff, Nat.reduceLT, Nat.reduceEqDiff]
          refine ⟨i64_of (by omega) (by omega), ?_⟩
          refine end_round (5 - (k + 1)) [.p (.str s), .any, .any, .any, .p (.str (lowF s)), .any, .any, .any, .any, .any, .any, .any, .any, .any, .any, .any, .any, .any, .any, .p (.sl 1 (strE wsS)), .p (int (5 : Nat)), .p (int ((k + 1) : Nat)), .any, .any, .any, .any, .any, .any, .any, .any, .any, .any, .any, .any, .any, .any, .any, .any, .any, .any, .any, .any, .any, .any, .any, .any, .any, .any, .any, .any, .any, .any, .any, .any, .any, .any, .any, .any, .any, .any, .any, .any, .any, .any, .any, .any, .any, .any, .any, .any, .any, .any, .any, .any, .any, .any, .any, .any, .any, .any, .any, .any, .any, .any, .any, .any, .any, .any, .any, .any, .any, .any, .any] [] (by omega) (by (simp only [ZZ, YY, Zd, ite_true, ite_false, forall_const, reduceCtorEq, Nat.reduceAdd, Nat.reduceMul, Nat.reduceLeDiff, Nat.reduceLT, Nat.reduceEqDiff]; try trivial)) (by (simp only [ZZ, YY, Zd, ite_true, ite_false, forall_const, reduceCtorEq, Nat.reduceAdd, Nat.reduceMul, Nat.reduceLeDiff, Nat.reduceLT, Nat.reduceEqDiff]; try trivial)) ⟨k + 1, by omega, rfl, no_snoc hn hx (hst.trans hm), rfl, rfl⟩
  · intro h
    have hge : k = 5 := by have := of_decide_eq_false h; omega
    subst hge
    have hF : markF s = match bkF s with | some r => (s.length - r.length, 0) | none => (0, 0) := by rw [markF, findSome_no hn]; try rfl
    simp only [ZZ, YY, Zd, ite_true, ite_false, forall_const, reduceCtorEq, Nat.reduceAdd, Nat.reduceMul, Nat.reduceLeDiff, Nat.reduceLT, Nat.reduceEqDiff]
    refine use1 (CutPrefix_ok s [91] (by omega) (by decide)) rfl (.inl rfl) ?_
    simp only [ZZ, YY, Zd, ite_true, ite_false, forall_const, reduceCtorEq, Nat.reduceAdd, Nat.reduceMul, Nat.reduceLeDiff, Nat.reduceLT, Nat.reduceEqDiff]
    refine br ?_ ?_
    · intro hp
      have hp : Lib.hasPrefix s [91] = true := by
        by_cases h : Lib.hasPrefix s [91] = true
        · exact h
        · rw [cutPreF, if_neg h] at hp; cases hp
      rw [cutPreF, if_pos hp]
      have hbk : bkF s = bkR (s.drop 1) := by rw [bkF, if_pos hp, bk_same]
      have hbs : bkR (s.drop 1) = if ((cutF (s.drop 1) [93]).2.2 = true ∧ ((cutF (s.drop 1) [93]).1.length : Int) ≤ 20) ∧ ¬ 0 ≤ Lib.index (cutF (s.drop 1) [93]).1 [91] then some (cutF (s.drop 1) [93]).2.1 else none := rfl
      rw [hF, hbk, hbs]
      have htl : (s.drop 1).length ≤ s.length := by simp
      simp only [List.length_cons, List.length_nil, Nat.zero_add]
      generalize s.drop 1 = t at *
      simp only [ZZ, YY, Zd, ite_true, ite_false, forall_const, reduceCtorEq, Nat.reduceAdd, Nat.reduceMul, Nat.reduceLeDiff, Nat.reduceLT, Nat.reduceEqDiff]
      refine use1 (Cut_ok t [93] (by omega)) rfl (.inl rfl) ?_
      have hl2 := cutF_len t [93]
      generalize cutF t [93] = c at *
      simp only [ZZ, YY, Zd, ite_true, ite_false, forall_const, reduceCtorEq, Nat.reduceAdd, Nat.reduceMul, Nat.reduceLeDiff, Nat.reduceLT, Nat.reduceEqDiff]
      ((repeat' (with_reducible apply And.intro)) <;> try ((first | first | assumption | trivial | exact (fun hq => by rw [hq]; rfl) | exact i64_of (by omega) (by omega) | omega | (simp; done) | (simp; omega) | (intro hsc; have hs0 := hsc; (try have hsd := of_decide_eq_true hsc); (try simp only [Bool.not_eq_true', Bool.or_eq_false_iff, Bool.and_eq_true, Bool.or_eq_true, decide_eq_true_eq, decide_eq_false_iff_not] at hsc); (repeat' (with_reducible apply And.intro)) <;> (first | assumption | trivial | exact (fun hq => by rw [hq]; rfl) | exact i64_of (by omega) (by omega) | omega | (simp; done) | (simp; omega) | (intro hse; simp [hse, hs0]; done) | (intro hse; simp only [hse, hs0, Bool.true_and, Bool.and_true, Bool.not_false, Bool.not_true, Bool.and_self]; done))))))
      refine useG (fun _ => Contains_ok c.1 [91] (by omega)) rfl (.inl rfl) ?_
      simp only [ZZ, YY, Zd, ite_true, ite_false, forall_const, reduceCtorEq, Nat.reduceAdd, Nat.reduceMul, Nat.reduceLeDiff, Nat.reduceLT, Nat.reduceEqDiff]
      refine br ?_ ?_
      · intro hb
        simp only [Bool.and_eq_true, decide_eq_true_eq, Bool.not_eq_true', decide_eq_false_iff_not] at hb
        rw [if_pos hb]
        simp only [ZZ, YY, Zd, ite_true, ite_false, forall_const, reduceCtorEq, Nat.reduceAdd, Nat.reduceMul, Nat.reduceLeDiff, Nat.reduceLT, Nat.reduceEqDiff]
        have e1 : (s.length : Int) - (c.2.1.length : Nat) = ((s.length - c.2.1.length : Nat) : Int) := by omega
        simp only [ZZ, YY, Zd, ite_true, ite_false, forall_const, reduceCtorEq, Nat.reduceAdd, Nat.reduceMul, Nat.reduceLeDiff, Nat.reduceLT, Nat.reduceEqDiff, e1]
        ((repeat' (with_reducible apply And.intro)) <;> try ((first | first | assumption | trivial | exact (fun hq => by rw [hq]; rfl) | exact i64_of (by omega) (by omega) | omega | (simp; done) | (simp; omega) | (intro hsc; have hs0 := hsc; (try have hsd := of_decide_eq_true hsc); (try simp only [Bool.not_eq_true', Bool.or_eq_false_iff, Bool.and_eq_true, Bool.or_eq_true, decide_eq_true_eq, decide_eq_false_iff_not] at hsc); (repeat' (with_reducible apply And.intro)) <;> (first | assumption | trivial | exact (fun hq => by rw [hq]; rfl) | exact i64_of (by omega) (by omega) | omega | (simp; done) | (simp; omega) | (intro hse; simp [hse, hs0]; done) | (intro hse; simp only [hse, hs0, Bool.true_and, Bool.and_true, Bool.not_false, Bool.not_true, Bool.and_self]; done))))))
      · intro hb
        rw [if_neg]
        · simp only [ZZ, YY, Zd, ite_true, ite_false, forall_const, reduceCtorEq, Nat.reduceAdd, Nat.reduceMul, Nat.reduceLeDiff, Nat.reduceLT, Nat.reduceEqDiff]
          refine cut_same (by simp only [ZZ, YY, Zd, ite_true, ite_false, forall_const, reduceCtorEq, Nat.reduceAdd, Nat.reduceMul, Nat.reduceLeDiff, Nat.reduceLT, Nat.reduceEqDiff]) ?_
          simp only [ZZ, YY, Zd, ite_true, ite_false, forall_const, reduceCtorEq, Nat.reduceAdd, Nat.reduceMul, Nat.reduceLeDiff, Nat.reduceLT, Nat.reduceEqDiff]
          rfl
        · rintro ⟨⟨h1, h2⟩, h3⟩
          simp [h1, h2, h3] at hb
    · intro hp
      have hp : ¬ Lib.hasPrefix s [91] = true := by
        intro h; rw [cutPreF, if_pos h] at hp; cases hp
      have hbk : bkF s = none := by rw [bkF, if_neg hp]
      rw [hF, hbk]
      simp only [ZZ, YY, Zd, ite_true, ite_false, forall_const, reduceCtorEq, Nat.reduceAdd, Nat.reduceMul, Nat.reduceLeDiff, Nat.reduceLT, Nat.reduceEqDiff]
      refine cut_same (by simp only [ZZ, YY, Zd, ite_true, ite_false, forall_const, reduceCtorEq, Nat.reduceAdd, Nat.reduceMul, Nat.reduceLeDiff, Nat.reduceLT, Nat.reduceEqDiff]) ?_
      simp only [ZZ, YY, Zd, ite_true, ite_false, forall_const, reduceCtorEq, Nat.reduceAdd, Nat.reduceMul, Nat.reduceLeDiff, Nat.reduceLT, Nat.reduceEqDiff]
      rfl
def trimL (t : List UInt8) : List UInt8 := Lib.trimLeftS t [32]
/-- A subject without its marks, and how many count. -/
def subjF : Nat → List UInt8 → Nat → List UInt8 × Nat
  | 0, _, _ => ([], 0)
  | f + 1, t, m => if (markF (trimL t)).1 = 0 then (lowF (sqF (trimL t)), m) else subjF f ((trimL t).drop (markF (trimL t)).1) (m + (markF (trimL t)).2)
theorem trimL_len (t : List UInt8) : (trimL t).length ≤ t.length := by
  unfold trimL Lib.trimLeftS
  exact (List.dropWhile_suffix _).length_le
theorem markF_bd (s : List UInt8) : (markF s).1 ≤ s.length ∧ (markF s).2 ≤ 1 := by
  unfold markF
  split
  · exact ⟨by simp, by simp⟩
  · split
    · exact ⟨by simp, by simp⟩
    · exact ⟨by simp, by simp⟩
theorem sqF_bd (s : List UInt8) (hs : s.length ≤ 100000000) : (sqF s).length ≤ 900000000 := (bits_bd s hs).2
theorem Subject_ok (s : List UInt8) (hs : s.length ≤ 100000000) : PCall Tryd.prog E0 28 [.str s] (· = .tup [.str (subjF (s.length + 1) s 0).1, int ((subjF (s.length + 1) s 0).2 : Nat)]) := by
  refine pcallF mixed Tryd.func28 ck_thread_Subject ?_
  simp only [a0, l0, OS.ao, List.map_cons, List.map_nil, List.length_cons, List.length_nil, List.cons_append, List.nil_append, Nat.reduceSub, Nat.reduceAdd, List.replicate_succ, List.replicate_zero, ir_thread_Subject, rs_thread_Subject, ZZ, YY, Zd, ite_true, ite_false, forall_const, reduceCtorEq, Nat.reduceAdd, Nat.reduceMul, Nat.reduceLeDiff, Nat.reduceLT, Nat.reduceEqDiff]
  refine loop_intro (fun n fr L => ∃ (t : List UInt8) (m : Nat) (f : Nat), f = n ∧ (t.length < f) ∧ (subjF f t m = subjF (s.length + 1) s 0) ∧ (m + f ≤ s.length + 1) ∧ fr = [.p (.str t), .any, .any, .any, .p (int (m : Nat)), .any, .any, .any, .any, .any, .any, .any, .any, .any, .any, .any, .any, .any, .any, .any, .any, .any, .any, .any, .any, .any] ∧ L = []) ((s.length + 1)) [.p (.str s), .any, .any, .any, .p (int (0 : Nat)), .any, .any, .any, .any, .any, .any, .any, .any, .any, .any, .any, .any, .any, .any, .any, .any, .any, .any, .any, .any, .any] [] (by (simp only [ZZ, YY, Zd, ite_true, ite_false, forall_const, reduceCtorEq, Nat.reduceAdd, Nat.reduceMul, Nat.reduceLeDiff, Nat.reduceLT, Nat.reduceEqDiff]; try trivial)) (by (simp only [ZZ, YY, Zd, ite_true, ite_false, forall_const, reduceCtorEq, Nat.reduceAdd, Nat.reduceMul, Nat.reduceLeDiff, Nat.reduceLT, Nat.reduceEqDiff]; try trivial)) ⟨s, 0, s.length + 1, rfl, by omega, rfl, by omega, rfl, rfl⟩ ?_
  rintro n fr L ⟨t, m, f, rfl, h1, h2, h3, rfl, rfl⟩
  simp only [ir_thread_Subject_L0, ZZ, YY, Zd, ite_true, ite_false, forall_const, reduceCtorEq, Nat.reduceAdd, Nat.reduceMul, Nat.reduceLeDiff, Nat.reduceLT, Nat.reduceEqDiff]
  obtain ⟨f, rfl⟩ : ∃ g, f = g + 1 := ⟨f - 1, by omega⟩
  rw [subjF] at h2
  refine use1 (TrimLeftSet_ok t [32] (by decide) (by decide)) rfl (.inl rfl) ?_
  have htl := trimL_len t
  rw [show Lib.trimLeftS t [32] = trimL t from rfl]
  generalize trimL t = u at *
  simp only [ZZ, YY, Zd, ite_true, ite_false, forall_const, reduceCtorEq, Nat.reduceAdd, Nat.reduceMul, Nat.reduceLeDiff, Nat.reduceLT, Nat.reduceEqDiff]
  refine use1 (mark_ok u (by omega)) rfl (.inl rfl) ?_
  obtain ⟨hb1, hb2⟩ := markF_bd u
  generalize markF u = q at *
  obtain ⟨n, c⟩ := q
  simp only at hb1 hb2 h2
  simp only [ZZ, YY, Zd, ite_true, ite_false, forall_const, reduceCtorEq, Nat.reduceAdd, Nat.reduceMul, Nat.reduceLeDiff, Nat.reduceLT, Nat.reduceEqDiff]
  refine br ?_ ?_
  · intro h
    have h0 : n = 0 := by have := of_decide_eq_true h; omega
    rw [if_pos h0] at h2
    simp only [ZZ, YY, Zd, ite_true, ite_false, forall_const, reduceCtorEq, Nat.reduceAdd, Nat.reduceMul, Nat.reduceLeDiff, Nat.reduceLT, Nat.reduceEqDiff]
    refine use1 (Single_ok u (by omega)) rfl (.inl rfl) ?_
    simp only [ZZ, YY, Zd, ite_true, ite_false, forall_const, reduceCtorEq, Nat.reduceAdd, Nat.reduceMul, Nat.reduceLeDiff, Nat.reduceLT, Nat.reduceEqDiff]
    refine use1 (Lower_ok (sqF u) (by have := sqF_bd u (by omega); omega)) rfl (.inl rfl) ?_
    simp only [ZZ, YY, Zd, ite_true, ite_false, forall_const, reduceCtorEq, Nat.reduceAdd, Nat.reduceMul, Nat.reduceLeDiff, Nat.reduceLT, Nat.reduceEqDiff]
    rw [← h2]
  · intro h
    have h0 : ¬ n = 0 := by intro e; subst e; simp at h
    rw [if_neg h0] at h2
    have hln : (u.drop n).length < f := by simp; omega
    simp only [ZZ, YY, Zd, ite_true, ite_false, forall_const, reduceCtorEq, Nat.reduceAdd, Nat.reduceMul, Nat.reduceLeDiff, Nat.reduceLT, Nat.reduceEqDiff]
    refine ⟨⟨by omega, by omega⟩, i64_of (by omega) (by omega), ?_⟩
    rw [List.take_length, show ((m : Int) + (c : Nat)) = ((m + c : Nat) : Int) from by omega]
    refine end_round ((f)) [.p (.str (u.drop n)), .any, .any, .any, .p (int ((m + c) : Nat)), .any, .any, .any, .any, .any, .any, .any, .any, .any, .any, .any, .any, .any, .any, .any, .any, .any, .any, .any, .any, .any] [] (by omega) (by (simp only [ZZ, YY, Zd, ite_true, ite_false, forall_const, reduceCtorEq, Nat.reduceAdd, Nat.reduceMul, Nat.reduceLeDiff, Nat.reduceLT, Nat.reduceEqDiff]; try trivial)) (by (simp only [ZZ, YY, Zd, ite_true, ite_false, forall_const, reduceCtorEq, Nat.reduceAdd, Nat.reduceMul, Nat.reduceLeDiff, Nat.reduceLT, Nat.reduceEqDiff]; try trivial)) ⟨u.drop n, m + c, f, rfl, hln, h2, by omega, rfl, rfl⟩
theorem SubjectOf_ok (s : List UInt8) (hs : s.length ≤ 100000000) : PCall Tryd.prog E0 29 [.str s] (· = .tup [.str (subjF (s.length + 1) s 0).1, int ((subjF (s.length + 1) s 0).2 : Nat)]) := by
  refine pcallF mixed Tryd.func29 ck_chaseref1_SubjectOf ?_
  simp only [a0, l0, OS.ao, List.map_cons, List.map_nil, List.length_cons, List.length_nil, List.cons_append, List.nil_append, Nat.reduceSub, Nat.reduceAdd, List.replicate_succ, List.replicate_zero, ir_chaseref1_SubjectOf, rs_chaseref1_SubjectOf, ZZ, YY, Zd, ite_true, ite_false, forall_const, reduceCtorEq, Nat.reduceAdd, Nat.reduceMul, Nat.reduceLeDiff, Nat.reduceLT, Nat.reduceEqDiff]
  refine loop_intro (fun n fr L => ∃ (t : List UInt8) (m : Nat) (f : Nat), f = n ∧ (t.length < f) ∧ (subjF f t m = subjF (s.length + 1) s 0) ∧ (m + f ≤ s.length + 1) ∧ fr = [.p (.str t), .any, .any, .any, .p (int (m : Nat)), .any, .any, .any, .any, .any, .any, .any, .any, .any, .any, .any, .any, .any, .any, .any, .any, .any, .any, .any, .any, .any] ∧ L = []) ((s.length + 1)) [.p (.str s), .any, .any, .any, .p (int (0 : Nat)), .any, .any, .any, .any, .any, .any, .any, .any, .any, .any, .any, .any, .any, .any, .any, .any, .any, .any, .any, .any, .any] [] (by (simp only [ZZ, YY, Zd, ite_true, ite_false, forall_const, reduceCtorEq, Nat.reduceAdd, Nat.reduceMul, Nat.reduceLeDiff, Nat.reduceLT, Nat.reduceEqDiff]; try trivial)) (by (simp only [ZZ, YY, Zd, ite_true, ite_false, forall_const, reduceCtorEq, Nat.reduceAdd, Nat.reduceMul, Nat.reduceLeDiff, Nat.reduceLT, Nat.reduceEqDiff]; try trivial)) ⟨s, 0, s.length + 1, rfl, by omega, rfl, by omega, rfl, rfl⟩ ?_
  rintro n fr L ⟨t, m, f, rfl, h1, h2, h3, rfl, rfl⟩
  simp only [ir_chaseref1_SubjectOf_L0, ZZ, YY, Zd, ite_true, ite_false, forall_const, reduceCtorEq, Nat.reduceAdd, Nat.reduceMul, Nat.reduceLeDiff, Nat.reduceLT, Nat.reduceEqDiff]
  obtain ⟨f, rfl⟩ : ∃ g, f = g + 1 := ⟨f - 1, by omega⟩
  rw [subjF] at h2
  refine use1 (TrimLeftSet_ok t [32] (by decide) (by decide)) rfl (.inl rfl) ?_
  have htl := trimL_len t
  rw [show Lib.trimLeftS t [32] = trimL t from rfl]
  generalize trimL t = u at *
  simp only [ZZ, YY, Zd, ite_true, ite_false, forall_const, reduceCtorEq, Nat.reduceAdd, Nat.reduceMul, Nat.reduceLeDiff, Nat.reduceLT, Nat.reduceEqDiff]
  refine use1 (markR_ok u (by omega)) rfl (.inl rfl) ?_
  obtain ⟨hb1, hb2⟩ := markF_bd u
  generalize markF u = q at *
  obtain ⟨n, c⟩ := q
  simp only at hb1 hb2 h2
  simp only [ZZ, YY, Zd, ite_true, ite_false, forall_const, reduceCtorEq, Nat.reduceAdd, Nat.reduceMul, Nat.reduceLeDiff, Nat.reduceLT, Nat.reduceEqDiff]
  refine br ?_ ?_
  · intro h
    have h0 : n = 0 := by have := of_decide_eq_true h; omega
    rw [if_pos h0] at h2
    simp only [ZZ, YY, Zd, ite_true, ite_false, forall_const, reduceCtorEq, Nat.reduceAdd, Nat.reduceMul, Nat.reduceLeDiff, Nat.reduceLT, Nat.reduceEqDiff]
    refine use1 (squeezed_ok u (by omega)) rfl (.inl rfl) ?_
    simp only [ZZ, YY, Zd, ite_true, ite_false, forall_const, reduceCtorEq, Nat.reduceAdd, Nat.reduceMul, Nat.reduceLeDiff, Nat.reduceLT, Nat.reduceEqDiff]
    refine use1 (lowerR_ok (sqF u) (by have := sqF_bd u (by omega); omega)) rfl (.inl rfl) ?_
    simp only [ZZ, YY, Zd, ite_true, ite_false, forall_const, reduceCtorEq, Nat.reduceAdd, Nat.reduceMul, Nat.reduceLeDiff, Nat.reduceLT, Nat.reduceEqDiff]
    rw [← h2]
  · intro h
    have h0 : ¬ n = 0 := by intro e; subst e; simp at h
    rw [if_neg h0] at h2
    have hln : (u.drop n).length < f := by simp; omega
    simp only [ZZ, YY, Zd, ite_true, ite_false, forall_const, reduceCtorEq, Nat.reduceAdd, Nat.reduceMul, Nat.reduceLeDiff, Nat.reduceLT, Nat.reduceEqDiff]
    refine br ?_ ?_
    · intro hc
      have hc : c = 1 := of_decide_eq_true hc
      subst hc
      simp only [ZZ, YY, Zd, ite_true, ite_false, forall_const, reduceCtorEq, Nat.reduceAdd, Nat.reduceMul, Nat.reduceLeDiff, Nat.reduceLT, Nat.reduceEqDiff]
      refine ⟨i64_of (by omega) (by omega), ?_⟩
      refine cut_same (by simp only [ZZ, YY, Zd, ite_true, ite_false, forall_const, reduceCtorEq, Nat.reduceAdd, Nat.reduceMul, Nat.reduceLeDiff, Nat.reduceLT, Nat.reduceEqDiff]) ?_
      simp only [ZZ, YY, Zd, ite_true, ite_false, forall_const, reduceCtorEq, Nat.reduceAdd, Nat.reduceMul, Nat.reduceLeDiff, Nat.reduceLT, Nat.reduceEqDiff]
      refine ⟨⟨by omega, by omega⟩, ?_⟩
      rw [List.take_length]
      refine end_round ((f)) [.p (.str (u.drop n)), .any, .any, .any, .p (int ((m + 1) : Nat)), .any, .any, .any, .any, .any, .any, .any, .any, .any, .any, .any, .any, .any, .any, .any, .any, .any, .any, .any, .any, .any] [] (by omega) (by (simp only [ZZ, YY, Zd, ite_true, ite_false, forall_const, reduceCtorEq, Nat.reduceAdd, Nat.reduceMul, Nat.reduceLeDiff, Nat.reduceLT, Nat.reduceEqDiff]; try trivial)) (by (simp only [ZZ, YY, Zd, ite_true, ite_false, forall_const, reduceCtorEq, Nat.reduceAdd, Nat.reduceMul, Nat.reduceLeDiff, Nat.reduceLT, Nat.reduceEqDiff]; try trivial)) ⟨u.drop n, m + 1, f, rfl, hln, h2, by omega, rfl, rfl⟩
    · intro hc
      have hc : c = 0 := by have := of_decide_eq_false hc; omega
      subst hc
      simp only [ZZ, YY, Zd, ite_true, ite_false, forall_const, reduceCtorEq, Nat.reduceAdd, Nat.reduceMul, Nat.reduceLeDiff, Nat.reduceLT, Nat.reduceEqDiff]
      refine cut_same (by simp only [ZZ, YY, Zd, ite_true, ite_false, forall_const, reduceCtorEq, Nat.reduceAdd, Nat.reduceMul, Nat.reduceLeDiff, Nat.reduceLT, Nat.reduceEqDiff]) ?_
      simp only [ZZ, YY, Zd, ite_true, ite_false, forall_const, reduceCtorEq, Nat.reduceAdd, Nat.reduceMul, Nat.reduceLeDiff, Nat.reduceLT, Nat.reduceEqDiff]
      refine ⟨⟨by omega, by omega⟩, ?_⟩
      rw [List.take_length]
      refine end_round ((f)) [.p (.str (u.drop n)), .any, .any, .any, .p (int ((m) : Nat)), .any, .any, .any, .any, .any, .any, .any, .any, .any, .any, .any, .any, .any, .any, .any, .any, .any, .any, .any, .any, .any] [] (by omega) (by (simp only [ZZ, YY, Zd, ite_true, ite_false, forall_const, reduceCtorEq, Nat.reduceAdd, Nat.reduceMul, Nat.reduceLeDiff, Nat.reduceLT, Nat.reduceEqDiff]; try trivial)) (by (simp only [ZZ, YY, Zd, ite_true, ite_false, forall_const, reduceCtorEq, Nat.reduceAdd, Nat.reduceMul, Nat.reduceLeDiff, Nat.reduceLT, Nat.reduceEqDiff]; try trivial)) ⟨u.drop n, m, f, rfl, hln, h2, by omega, rfl, rfl⟩
end Go.Proofs.YtndjmidmfmcbkaaDoor

/- Subjects that are made. -/
namespace Go.Proofs.YtndjmidmfmcbkaaDoor
open Go.RowKit
set_option linter.unusedVariables false
set_option linter.unusedSimpArgs false
set_option linter.defProp false

/- (*paperchase/chasemake.Stream).SubjectText -/
def ir_chasemake_Stream_SubjectText_L0 : IC :=
  (.seq (.reg [⟨some 7, .bin .lss (.t 6) (.t 5), none⟩])
    (.seq (.cond (.t 7) .skip (.exit 0))
    (.seq (.block 1 (.reg [⟨some 8, .mov (.t 3), none⟩,
      ⟨some 9, .mov (.t 0), none⟩,
      ⟨some 10, .call 42 [.c (.str [120]), .c (.int .i64 20)], none⟩,
      ⟨some 11, .bin .add (.c (.str [91])) (.t 10), none⟩,
      ⟨some 12, .bin .add (.t 11) (.c (.str [93])), none⟩,
      ⟨some 13, .call 42 [.c (.str [120]), .c (.int .i64 21)], none⟩,
      ⟨some 14, .bin .add (.c (.str [91])) (.t 13), none⟩,
      ⟨some 15, .bin .add (.t 14) (.c (.str [93])), none⟩,
      ⟨some 16, .bsl 1 [.c (.str [82, 101, 58]), .c (.str [82, 69, 58, 32]), .c (.str [70, 119, 100, 58]), .c (.str [102, 119, 58, 32]), .c (.str [65, 119, 58]), .c (.str [87, 71, 58]), .c (.str [114, 101, 91, 50, 93, 58]), .c (.str [82, 69, 91, 49, 50, 93, 58, 32]), .c (.str [114, 101, 91, 93, 58]), .c (.str [114, 101, 91, 120, 93, 58]), .c (.str [91, 116, 101, 97, 109, 93]), .c (.str [91, 116, 101, 97, 109, 93, 32]), .c (.str [91, 97, 91, 98, 93]), .t 12, .t 15, .c (.str [32]), .c (.str [82, 101, 103, 97, 114, 100, 105, 110, 103, 58])], none⟩,
      ⟨some 17, .call 41 [.t 9, .t 16], none⟩,
      ⟨some 18, .bin .add (.t 8) (.t 17), none⟩,
      ⟨some 3, .mov (.t 18), none⟩]))
    (.reg [⟨some 19, .bin .add (.t 6) (.c (.int .i64 1)), none⟩,
      ⟨some 6, .mov (.t 19), none⟩]))))
def ir_chasemake_Stream_SubjectText : IC :=
  (.seq (.reg [⟨some 2, .mov (.c (.str [])), none⟩])
    (.seq (.reg [⟨some 3, .mov (.c (.str [])), none⟩])
    (.seq (.seq (.reg [⟨some 4, .mov (.t 0), none⟩,
      ⟨some 5, .call 39 [.t 4, .c (.int .i64 4)], none⟩,
      ⟨some 6, .mov (.c (.int .i64 0)), none⟩])
    (.block 0 (.loop ir_chasemake_Stream_SubjectText_L0)))
    (.seq (.reg [⟨some 20, .mov (.t 3), none⟩,
      ⟨some 21, .mov (.t 0), none⟩,
      ⟨some 22, .bsl 1 [.c (.str []), .c (.str [76, 117, 110, 99, 104]), .c (.str [108, 117, 110, 99, 104, 32, 32, 116, 111, 100, 97, 121]), .c (.str [32, 76, 117, 110, 99, 104, 32]), .c (.str [195, 137, 84, 195, 137]), .c (.str [114, 101])], none⟩,
      ⟨some 23, .call 41 [.t 21, .t 22], none⟩,
      ⟨some 24, .bin .add (.t 20) (.t 23), none⟩,
      ⟨some 2, .mov (.t 24), none⟩])
    .ret))))
def rs_chasemake_Stream_SubjectText : List IRes := [.t 2]
theorem ck_chasemake_Stream_SubjectText : chkF Tryd.prog Tryd.f27 ir_chasemake_Stream_SubjectText rs_chasemake_Stream_SubjectText 25 = true := by kernel_rfl

section
variable {E : Envt}
def suA : List (List UInt8) := [[82, 101, 58], [82, 69, 58, 32], [70, 119, 100, 58], [102, 119, 58, 32], [65, 119, 58], [87, 71, 58], [114, 101, 91, 50, 93, 58], [82, 69, 91, 49, 50, 93, 58, 32], [114, 101, 91, 93, 58], [114, 101, 91, 120, 93, 58], [91, 116, 101, 97, 109, 93], [91, 116, 101, 97, 109, 93, 32], [91, 97, 91, 98, 93], [91] ++ Lib.repeatL [120] 20 ++ [93], [91] ++ Lib.repeatL [120] 21 ++ [93], [32], [82, 101, 103, 97, 114, 100, 105, 110, 103, 58]]
def suB : List (List UInt8) := [[], [76, 117, 110, 99, 104], [108, 117, 110, 99, 104, 32, 32, 116, 111, 100, 97, 121], [32, 76, 117, 110, 99, 104, 32], [195, 137, 84, 195, 137], [114, 101]]
theorem suA_len : ∀ s ∈ suA, s.length ≤ 60 := by decide +kernel
theorem suB_len : ∀ s ∈ suB, s.length ≤ 60 := by decide +kernel
theorem rep_len (c : UInt8) (n : Nat) : (Lib.repeatL [c] n).length = n := by
  induction n with
  | zero => rfl
  | succ n ih => simp only [Lib.repeatL, List.length_append, ih, List.length_cons, List.length_nil]; omega
theorem SubjectText_ok (l : List Int) (k : Nat) (hk : k ≤ 900000) (hl : l.length ≤ 9223372036854775807) :
    SCall Tryd.prog E 27 T (stm l k) [] (fun x cs' => ∃ s k', x = .str s ∧ s.length ≤ 2000 ∧ cs' = stm l k' ∧ k' ≤ k + 40) := by
  unfold SCall
  refine gcallP mixed Tryd.func27 ck_chasemake_Stream_SubjectText ?_
  simp only [a0, l0, OS.ao, List.map_cons, List.map_nil, List.length_cons, List.length_nil, List.cons_append, List.nil_append, Nat.reduceSub, Nat.reduceAdd, List.replicate_succ, List.replicate_zero, ir_chasemake_Stream_SubjectText, rs_chasemake_Stream_SubjectText, ZZ, YY, Zd, ite_true, ite_false, forall_const, reduceCtorEq, Nat.reduceAdd, Nat.reduceMul, Nat.reduceLeDiff, Nat.reduceLT, Nat.reduceEqDiff]
  refine useS (Next_ok l k 4 (by omega) hl (by decide)) rfl rfl rfl (by simp only [ZZ, YY, Zd, ite_true, ite_false, forall_const, reduceCtorEq, Nat.reduceAdd, Nat.reduceMul, Nat.reduceLeDiff, Nat.reduceLT, Nat.reduceEqDiff]) ?_
  rintro x cs' ⟨y, rfl, rfl⟩
  have b1 := below_lo y 4
  have b2 := below_hi y 4 (by omega)
  generalize below y 4 = m at *
  simp only [ZZ, YY, Zd, ite_true, ite_false, forall_const, reduceCtorEq, Nat.reduceAdd, Nat.reduceMul, Nat.reduceLeDiff, Nat.reduceLT, Nat.reduceEqDiff]
  refine loop_intro (fun n fr L => ∃ (i k' : Nat) (s : List UInt8), n = 4 - i ∧ i ≤ 4 ∧ k' ≤ k + 1 + 5 * i ∧ s.length ≤ 250 * i ∧ fr = [.adr (.b 0) 0, .any, .any, .p (.str s), .any, .p (int m), .p (int (i : Nat)), .any, .any, .any, .any, .any, .any, .any, .any, .any, .any, .any, .any, .any, .any, .any, .any, .any, .any] ∧ L = [(.b 0, .box ((stm l k').map .p) T)]) 4 [.adr (.b 0) 0, .any, .any, .p (.str []), .any, .p (int m), .p (int (0 : Nat)), .any, .any, .any, .any, .any, .any, .any, .any, .any, .any, .any, .any, .any, .any, .any, .any, .any, .any] [(.b 0, .box ((stm l (k + 1)).map .p) T)] (by (simp only [ZZ, YY, Zd, ite_true, ite_false, forall_const, reduceCtorEq, Nat.reduceAdd, Nat.reduceMul, Nat.reduceLeDiff, Nat.reduceLT, Nat.reduceEqDiff]; try trivial)) (by simp only [ZZ, YY, Zd, ite_true, ite_false, forall_const, reduceCtorEq, Nat.reduceAdd, Nat.reduceMul, Nat.reduceLeDiff, Nat.reduceLT, Nat.reduceEqDiff]) ⟨0, k + 1, [], by omega, by omega, by omega, by simp, rfl, rfl⟩ ?_
  rintro n fr L ⟨i, k', s, rfl, hi, hk', hs, rfl, rfl⟩
  simp only [ir_chasemake_Stream_SubjectText_L0, ZZ, YY, Zd, ite_true, ite_false, forall_const, reduceCtorEq, Nat.reduceAdd, Nat.reduceMul, Nat.reduceLeDiff, Nat.reduceLT, Nat.reduceEqDiff]
  refine br ?_ ?_
  · intro h
    have hlt : (i : Int) < m := of_decide_eq_true h
    simp only [ZZ, YY, Zd, ite_true, ite_false, forall_const, reduceCtorEq, Nat.reduceAdd, Nat.reduceMul, Nat.reduceLeDiff, Nat.reduceLT, Nat.reduceEqDiff]
    refine use1 (RepeatG_ok [120] 20 (by omega) (by simp)) rfl (.inl rfl) ?_
    have h20 := rep_len 120 20
    have h21 := rep_len 120 21
    simp only [ZZ, YY, Zd, ite_true, ite_false, forall_const, reduceCtorEq, Nat.reduceAdd, Nat.reduceMul, Nat.reduceLeDiff, Nat.reduceLT, Nat.reduceEqDiff]
    refine ⟨by simp [h20], by simp [h20], ?_⟩
    refine use1 (RepeatG_ok [120] 21 (by omega) (by simp)) rfl (.inl rfl) ?_
    simp only [ZZ, YY, Zd, ite_true, ite_false, forall_const, reduceCtorEq, Nat.reduceAdd, Nat.reduceMul, Nat.reduceLeDiff, Nat.reduceLT, Nat.reduceEqDiff]
    refine ⟨by simp [h21], by simp [h21], ?_⟩
    refine useS (one_ok l k' suA (by omega) hl (by decide) (by decide)) rfl rfl rfl (by simp only [ZZ, YY, Zd, ite_true, ite_false, forall_const, reduceCtorEq, Nat.reduceAdd, Nat.reduceMul, Nat.reduceLeDiff, Nat.reduceLT, Nat.reduceEqDiff]) ?_
    rintro x cs' ⟨u, rfl, hu, rfl⟩
    have hu := suA_len u hu
    simp only [ZZ, YY, Zd, ite_true, ite_false, forall_const, reduceCtorEq, Nat.reduceAdd, Nat.reduceMul, Nat.reduceLeDiff, Nat.reduceLT, Nat.reduceEqDiff]
    refine ⟨by simp; omega, i64_of (by omega) (by omega), end_round (4 - (i + 1)) [.adr (.b 0) 0, .any, .any, .p (.str (s ++ u)), .any, .p (int m), .p (int ((i + 1 : Nat))), .any, .any, .any, .any, .any, .any, .any, .any, .any, .any, .any, .any, .any, .any, .any, .any, .any, .any] [(.b 0, .box ((stm l (k' + 1)).map .p) T)] (by omega) (by (simp only [ZZ, YY, Zd, ite_true, ite_false, forall_const, reduceCtorEq, Nat.reduceAdd, Nat.reduceMul, Nat.reduceLeDiff, Nat.reduceLT, Nat.reduceEqDiff]; try trivial)) (by simp only [ZZ, YY, Zd, ite_true, ite_false, forall_const, reduceCtorEq, Nat.reduceAdd, Nat.reduceMul, Nat.reduceLeDiff, Nat.reduceLT, Nat.reduceEqDiff]) ⟨i + 1, k' + 1, _, rfl, by omega, by omega, by simp; omega, rfl, rfl⟩⟩
  · intro h
    simp only [ZZ, YY, Zd, ite_true, ite_false, forall_const, reduceCtorEq, Nat.reduceAdd, Nat.reduceMul, Nat.reduceLeDiff, Nat.reduceLT, Nat.reduceEqDiff]
    refine useS (one_ok l k' suB (by omega) hl (by decide) (by decide)) rfl rfl rfl (by simp only [ZZ, YY, Zd, ite_true, ite_false, forall_const, reduceCtorEq, Nat.reduceAdd, Nat.reduceMul, Nat.reduceLeDiff, Nat.reduceLT, Nat.reduceEqDiff]) ?_
    rintro x cs' ⟨u, rfl, hu, rfl⟩
    have hu := suB_len u hu
    simp only [ZZ, YY, Zd, ite_true, ite_false, forall_const, reduceCtorEq, Nat.reduceAdd, Nat.reduceMul, Nat.reduceLeDiff, Nat.reduceLT, Nat.reduceEqDiff]
    refine ⟨by simp; omega, ?_⟩
    exact fin_S (stm l (k' + 1)) rfl ⟨s ++ u, k' + 1, rfl, by simp; omega, rfl, by omega⟩
end
end Go.Proofs.YtndjmidmfmcbkaaDoor
