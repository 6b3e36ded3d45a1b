/- Contracts of functions out of their bodies. -/
import Derived.Test.YtpddiepfolfnoaaDoorA18
namespace Go.Proofs.YtpddiepfolfnoaaDoor
set_option linter.unusedVariables false
set_option linter.unusedSimpArgs false
set_option linter.defProp false

inductive IRes where
  | t (i : Nat)
  | c (i sz : Nat) (ag : Bool)

/-- A slot's value as a plain one, rows given up. -/
def Zao (L : Objs) : AV → Option PV
  | .p x => some (wk1 x)
  | .row (.l i) => match Zah L (.l i) with
    | some (.row es _ z _) => some (.sl z es)
    | _ => none
  | _ => none
def Zap (L : Objs) : List AV → Option (List PV)
  | [] => some []
  | x :: r => match Zao L x, Zap L r with
    | some y, some l => some (y :: l)
    | _, _ => none
def Zan (fr : List AV) (L : Objs) : IRes → Option PV
  | .t i => match fr.getD i .any with
    | .p x => some (wk x)
    | a => Zao L a
  | .c i sz ag => match fr.getD i .any with
    | .adr k o => match Zah L k with
      | some (.box cs _) => if o + sz ≤ cs.length then (if ag then (Zap L ((cs.drop o).take sz)).map .agg else Zao L (cs.getD o .any)) else none
      | _ => none
    | _ => none
def Zam (fr : List AV) (L : Objs) : List IRes → Option (List PV)
  | [] => some []
  | r :: rs => match Zan fr L r, Zam fr L rs with
    | some y, some l => some (y :: l)
    | _, _ => none
def mkRes : List PV → PV
  | [x] => x
  | l => .tup l

def okRes (P : Program) : ResultVar → IRes → Bool
  | .tmp t, .t i => t == i
  | .cell t ty, .c i sz ag => t == i && sizeB P ty sz && aggB P ty ag && (ag || sz == 1)
  | _, _ => false
def okResL (P : Program) : List ResultVar → List IRes → Bool
  | [], [] => true
  | x :: xs, y :: ys => okRes P x y && okResL P xs ys
  | _, _ => false

def RetK (q : Option (List PV)) (φ : PV → Objs → Prop) (L : Objs) : Prop :=
  match q with
  | some l => φ (mkRes l) L
  | none => False
theorem RetK_some {l : List PV} {φ : PV → Objs → Prop} {L : Objs} : RetK (some l) φ L = φ (mkRes l) L := rfl
theorem RetK_ex {q : Option (List PV)} {φ : PV → Objs → Prop} {L : Objs} (h : RetK q φ L) : ∃ l, q = some l ∧ φ (mkRes l) L := by
  cases q with
  | none => exact h.elim
  | some l => exact ⟨l, rfl, h⟩
theorem mkRes1 (x : PV) : mkRes [x] = x := rfl
theorem mkRes2 (x y : PV) : mkRes [x, y] = .tup [x, y] := rfl
theorem mkRes3 (x y z : PV) : mkRes [x, y, z] = .tup [x, y, z] := rfl

def retQ (rs : List IRes) (φ : PV → Objs → Prop) : AQ
  | .normal, fr, L => RetK (Zam fr L rs) φ L
  | .ret, fr, L => RetK (Zam fr L rs) φ L
  | _, _, _ => False

section
variable {P : Program} {E : Envt} {B : Base} {w w' : World} {L L' : Objs} {ι ι' : Key → Value} {fr : List AV} {a : Act} {o : Oper} {X : Nat → Prop}

/-- The blocks of borrowed objects. -/
def ZB (L : Objs) (ι : Key → Value) (X : Nat → Prop) (c : Nat) : Prop := X c ∨ ∃ i q, Zah L (.b i) = some q ∧ blk (ι (.b i)) = some c
theorem keeps_z (w : World) (L : Objs) (ι : Key → Value) (X : Nat → Prop) : Keeps w w (fun b => Own L ι b ∨ X b) (ZB L ι X) := fun b _ h => ⟨rfl, fun hx => by
  rcases hx with hx | ⟨i, q, h1, h2⟩
  · exact h (.inr hx)
  · exact h (.inl ⟨_, q, h1, h2⟩)⟩
theorem keeps_x (w : World) (L : Objs) (ι : Key → Value) (X : Nat → Prop) : Keeps w w (fun b => Own L ι b ∨ X b) X := fun b _ h => ⟨rfl, fun hx => h (.inr hx)⟩

theorem pvOf_ok (h : St E B w L ι) {x : AV} {y : PV} {v : Value} (e : Zao L x = some y) (hr : ARep w (fun b => Own L ι b ∨ B.X b) ι x v) : PRep w (ZB L ι B.X) y v ∧ v.oneCell' = true ∨ (∃ z, x = .p z ∧ y = wk1 z) ∧ PRep w (ZB L ι B.X) y v := by
  unfold Zao at e
  split at e
  · cases e; exact .inr ⟨⟨_, rfl, rfl⟩, (PRep.mono (keeps_z w L ι B.X) _ _ hr).wk1⟩
  · rename_i k0
    generalize hkk : Key.l k0 = k at e hr
    split at e
    · rename_i es e' z ap hl
      cases e
      left
      obtain ⟨vs, hrow, e4, e5, e6⟩ := h.sim.obj k _ hl
      rcases hrow.2 with ⟨g1, g2⟩ | ⟨g, cap, cur, fz, g1, _, g3, _⟩
      · rw [hr.1, g1]
        exact ⟨⟨none, 0, by rw [g2], by omega, fun hne => absurd (List.eq_nil_of_length_eq_zero g2) hne⟩, rfl⟩
      · rw [hr.1, g1]
        have hE := row_cells h.sim hl g1
        have hO : Own L ι g := ⟨k, _, hl, by rw [g1]; rfl⟩
        refine ⟨⟨_, cap, rfl, g3, fun _ => ⟨g, 0, rfl, sim_own_lt h.sim hO, (fun hx => by
          rcases hx with hx | ⟨i, q, h1, h2⟩
          · exact (h.x_own hx).2 hO
          · have := h.sim.inj _ _ _ _ g h1 hl h2 (by rw [g1]; rfl)
            rw [← hkk] at this
            cases this), ?_⟩⟩, rfl⟩
        have key : ∀ (es' : List (List PV)) (off : Nat), PRepE w (fun b => Own L ι b ∨ B.X b) g z off es' → PRepE w (ZB L ι B.X) g z off es' := by
          intro es'
          induction es' with
          | nil => intro off _; simp [PRepE]
          | cons x r ih =>
            intro off hh
            simp only [PRepE] at hh ⊢
            refine ⟨hh.1, ?_, ih _ hh.2.2⟩
            obtain ⟨us, a1, a2, a3⟩ := hh.2.1.vals
            exact PRepC.of (PRepL.mono (keeps_z w L ι B.X) _ _ a1) a2 a3
        exact key es 0 hE
    · cases e
  · cases e
theorem pvOf_rep (h : St E B w L ι) {x : AV} {y : PV} {v : Value} (e : Zao L x = some y) (hr : ARep w (fun b => Own L ι b ∨ B.X b) ι x v) : PRep w (ZB L ι B.X) y v := by
  rcases pvOf_ok h e hr with h | h
  · exact h.1
  · exact h.2

theorem pvsOf_rep (h : St E B w L ι) : ∀ {xs : List AV} {ys : List PV} {vs : List Value}, Zap L xs = some ys → vs.length = xs.length → (∀ (j : Nat) (x : AV), xs[j]? = some x → ∃ v, vs[j]? = some v ∧ ARep w (fun b => Own L ι b ∨ B.X b) ι x v) → PRepL w (ZB L ι B.X) ys vs := by
  intro xs
  induction xs with
  | nil => intro ys vs e hl _; simp only [Zap, Option.some.injEq] at e; subst e; simp only [PRepL]; exact List.eq_nil_of_length_eq_zero hl
  | cons x xs ih =>
    intro ys vs e hl hr
    simp only [Zap] at e
    split at e
    · rename_i y l e1 e2
      cases e
      cases vs with
      | nil => simp at hl
      | cons v vs =>
        obtain ⟨v0, h0, r0⟩ := hr 0 x rfl
        simp at h0
        subst h0
        simp only [PRepL]
        exact ⟨v, vs, rfl, pvOf_rep h e1 r0, ih e2 (by simpa using hl) (fun j q hq => by simpa using hr (j + 1) q (by simpa using hq))⟩
    · cases e

theorem PRep.wk {U : Nat → Prop} {x : PV} {v : Value} (h : PRep w U x v) : PRep w U (wk x) v := by
  cases x with
  | agg cs => simp only [PRep, Go.Proofs.YtpddiepfolfnoaaDoor.wk] at h ⊢; obtain ⟨vs, e, hl⟩ := h; exact ⟨vs, e, hl.wk1⟩
  | tup cs => simp only [PRep, Go.Proofs.YtpddiepfolfnoaaDoor.wk] at h ⊢; obtain ⟨vs, e, hl⟩ := h; exact ⟨vs, e, hl.wk1⟩
  | _ => exact h.wk1

def res1 (tmps : Array Value) : ResultVar → Sem Value
  | .tmp t => pure (tmps.getD t undef)
  | .cell a t => do loadVar t (← asAddr (tmps.getD a undef))

theorem FRep.getD {U : Nat → Prop} (hf : FRep w U ι fr a) (i : Nat) : ARep w U ι (fr.getD i .any) (a.tmps.getD i undef) := by
  cases hx : fr[i]? with
  | none => simp only [List.getD, hx]; trivial
  | some y =>
    obtain ⟨v, hv, hr⟩ := hf.2 i y hx
    simpa [List.getD, hx, hv] using hr

theorem res1_ok (hs : StF E B w L ι fr a) {rv : ResultVar} {r : IRes} (hok : okRes P rv r = true) {x : PV} (h : Zan fr L r = some x) : ∃ v, (res1 a.tmps rv).run P w = .ok v w ∧ PRep w (ZB L ι B.X) x v := by
  cases r with
  | t i =>
    cases rv with
    | cell t ty => simp [okRes] at hok
    | tmp t =>
      simp only [okRes, beq_iff_eq] at hok
      subst hok
      have hr := hs.2.1.getD t
      refine ⟨_, rfl, ?_⟩
      simp only [Zan] at h
      split at h
      · rename_i y hy; cases h; rw [hy] at hr; exact (PRep.mono (keeps_z w L ι B.X) _ _ hr).wk
      · exact pvOf_rep hs.1 h hr
  | c i sz ag =>
    cases rv with
    | tmp t => simp [okRes] at hok
    | cell t ty =>
      simp only [okRes, Bool.and_eq_true, beq_iff_eq, Bool.or_eq_true] at hok
      obtain ⟨⟨⟨rfl, hsz⟩, hag⟩, h1⟩ := hok
      have hr := hs.2.1.getD t
      simp only [Zan] at h
      split at h
      · rename_i k of hk
        rw [hk] at hr
        obtain ⟨b, e1, e2⟩ := hr
        split at h
        · rename_i cs bt hl
          obtain ⟨b', vs, e4, hb, hlen, h1c, hcs⟩ := hs.1.sim.obj k _ hl
          rw [e1] at e4
          cases e4
          split at h
          · rename_i hle
            have hcell : ∀ (j : Nat) (v : Value), vs[j]? = some v → w.cell? ⟨b, j, none⟩ = some v := fun j v hv => by rw [cell_of_row w b j _ _ _ hb]; simpa using hv
            cases ag with
            | true =>
              simp only [if_true] at h
              obtain ⟨l, hl', rfl⟩ := Option.map_eq_some_iff.1 h
              have hrep := pvsOf_rep hs.1 (vs := (vs.drop of).take sz) hl' (by simp; omega) (fun j x hx => by
                rw [List.getElem?_take] at hx ⊢
                split at hx
                · rename_i hj; rw [if_pos hj]; rw [List.getElem?_drop] at hx ⊢; exact hcs _ x hx
                · cases hx)
              refine ⟨.agg ((vs.drop of).take sz).toArray, ?_, _, rfl, hrep⟩
              have hld := run_loadCells_list (P := P) (w := w) ⟨b, of, none⟩ ((vs.drop of).take sz) (fun j v hj => by
                rw [addr_addA]
                rw [List.getElem?_take] at hj
                split at hj
                · rw [List.getElem?_drop] at hj; exact hcell _ v hj
                · cases hj)
              have hln : ((vs.drop of).take sz).length = sz := by simp; omega
              rw [hln] at hld
              simp [res1, e2, asAddr, loadVar, run_agg hag, run_size hsz, hld]
            | false =>
              have : sz = 1 := by rcases h1 with h1 | h1; cases h1; exact h1
              subst this
              simp only [Bool.false_eq_true, if_false] at h
              obtain ⟨u, hu, hr⟩ := hcs of (cs.getD of .any) (by rw [List.getD, List.getElem?_eq_getElem (by omega)]; rfl)
              refine ⟨u, ?_, pvOf_rep hs.1 h hr⟩
              simp [res1, e2, asAddr, loadVar, run_agg hag, hcell of u hu]
          · cases h
        · cases h
      · cases h

theorem resL_ok (hs : StF E B w L ι fr a) : ∀ {rvs : List ResultVar} {rs : List IRes} {l : List PV}, okResL P rvs rs = true → Zam fr L rs = some l → ∃ vs, (rvs.mapM (res1 a.tmps)).run P w = .ok vs w ∧ PRepL w (ZB L ι B.X) l vs := by
  intro rvs
  induction rvs with
  | nil => intro rs l h1 h2; cases rs with
    | nil => simp only [Zam, Option.some.injEq] at h2; subst h2; exact ⟨[], rfl, by simp [PRepL]⟩
    | cons _ _ => simp [okResL] at h1
  | cons rv rvs ih => intro rs l h1 h2; cases rs with
    | nil => simp [okResL] at h1
    | cons r rs =>
      simp only [okResL, Bool.and_eq_true] at h1
      simp only [Zam] at h2
      split at h2
      · rename_i y l' e1 e2
        cases h2
        obtain ⟨v, hv, hr⟩ := res1_ok hs h1.1 e1
        obtain ⟨vs, hvs, hrs⟩ := ih h1.2 e2
        refine ⟨v :: vs, ?_, by simp only [PRepL]; exact ⟨v, vs, rfl, hr, hrs⟩⟩
        simp only [List.mapM_cons, Sem.run_bind, hv, Result.andThen_ok, hvs]
        rfl
      · cases h2

theorem results_ok (hs : StF E B w L ι fr a) {fn : Func} {rs : List IRes} {l : List PV} (h1 : okResL P fn.results.toList rs = true) (h2 : Zam fr L rs = some l) : ∃ v, (results fn a.tmps).run P w = .ok v w ∧ PRep w (ZB L ι B.X) (mkRes l) v := by
  obtain ⟨vs, hvs, hrs⟩ := resL_ok hs h1 h2
  have e : (results fn a.tmps).run P w = .ok (if h : vs.toArray.size = 1 then vs.toArray[0] else .tuple vs.toArray) w := by
    have e0 : results fn a.tmps = (do let vs ← fn.results.mapM (res1 a.tmps); pure (if h : vs.size = 1 then vs[0] else .tuple vs)) := by
      unfold results
      congr 1
    rw [e0]
    rw [Array.mapM_eq_mapM_toList]
    simp only [← bind_pure_comp, Sem.run_bind, bind_assoc]
    rw [hvs]
    rfl
  rw [e]
  refine ⟨_, rfl, ?_⟩
  have hlen := hrs.length
  cases l with
  | nil => have : vs = [] := List.eq_nil_of_length_eq_zero hlen; subst this; simp [mkRes, PRep, PRepL]
  | cons x l =>
    cases l with
    | nil =>
      simp only [PRepL] at hrs
      obtain ⟨v, r, rfl, hv, rfl⟩ := hrs
      simpa [mkRes] using hv
    | cons y l =>
      rw [dif_neg (by simp at hlen ⊢; omega)]
      exact ⟨vs, rfl, hrs⟩

/-- A contract out of a body: plain arguments, no borrowed objects. -/
theorem pcall_of_awp {D : Array Oper → List IOper → Bool} (hD : DrawOk P D) {f : FuncId} {fn : Func} {c : Code} {ic : IC} {rs : List IRes} {args : List PV} {n : Nat} {φ : PV → Prop} (hf : P.funcs[f]? = some fn) (hb : fn.body = some c) (hn : fn.ntmps = n) (hchk : chkC P D ic c = true) (hr : okResL P fn.results.toList rs = true)
    (h : awp P E ic (args.map .p ++ List.replicate (n - args.length) .any) [] (retQ rs fun x _ => φ x)) : PCall P E f args φ := by
  intro w U vs hU hE hEb hA
  refine calls_of_wp hf hb ?_
  let B : Base := { w0 := w, X := U, L0 := [], i0 := fun _ => undef }
  have hO : ∀ b, ¬ Own [] (fun _ => undef) b := by rintro b ⟨k, q, h, _⟩; simp [Zah] at h
  have hst : St E B w [] (fun _ => undef) := ⟨Grow.refl _ _, ⟨fun k q h => by simp [Zah] at h, fun k k' q q' b h => by simp [Zah] at h⟩, fun b hb => .inl hb, hU, fun k h => by simp [B, Zah] at h, hE, fun b hb => ⟨hEb b hb, hO b⟩, fun i => rfl, fun b _ => hO b⟩
  have hkeep : Keeps w w U (fun b => Own [] (fun _ => undef) b ∨ B.X b) := fun b _ hu => ⟨rfl, fun h => hu (h.resolve_left (hO b))⟩
  have hlen := hA.length
  have hfr : StF E B w [] (fun _ => undef) (args.map .p ++ List.replicate (n - args.length) .any) { tmps := vs.toArray ++ Array.replicate (fn.ntmps - vs.toArray.size) undef, defers := [] } := by
    refine ⟨hst, ⟨by simp [hlen, hn], fun i x hx => ?_⟩, rfl⟩
    rw [List.getElem?_append] at hx
    split at hx
    · rename_i hi
      rw [List.getElem?_map, Option.map_eq_some_iff] at hx
      obtain ⟨y, hy, rfl⟩ := hx
      obtain ⟨v, hv, hrep⟩ := (PRepL.mono hkeep _ _ hA).get hy
      refine ⟨v, ?_, hrep⟩
      simp only [List.length_map] at hi
      rw [Array.getElem?_append_left (by simp; omega)]
      simpa using hv
    · rename_i hi
      rw [List.getElem?_replicate] at hx
      split at hx
      · rename_i hlt
        cases hx
        simp only [List.length_map] at hi hlt
        refine ⟨undef, ?_, trivial⟩
        rw [Array.getElem?_append_right (by simp; omega)]
        simp only [List.size_toArray]
        rw [Array.getElem?_replicate, if_pos (by rw [hlen]; omega)]
      · cases hx
  refine wp_mono (awp_sound hD ic c _ _ _ hchk h B w _ _ hfr) ?_
  rintro e a' w' ⟨fr', L', ι', q, hs'⟩
  have fin : (∃ l, Zam fr' L' rs = some l ∧ φ (mkRes l)) → a'.defers = [] ∧ ∃ v, (results fn a'.tmps).run P w' = .ok v w' ∧ ∃ v_1 x, Ending.returned v = .returned v_1 ∧ φ x ∧ PRep w' U x v_1 ∧ Grow w w' (fun _ => False) := by
    rintro ⟨l, h1, h2⟩
    obtain ⟨v, hv, hrv⟩ := results_ok hs' hr h1
    refine ⟨hs'.2.2, v, hv, v, _, rfl, h2, PRep.mono (fun b _ h => ⟨rfl, fun hx => h (.inl hx)⟩) _ _ hrv, ?_⟩
    have hg := hs'.1.grow
    exact ⟨hg.os, hg.tape, hg.output, hg.size, fun b hb _ => hg.block b hb (hO b)⟩
  cases e with
  | normal => exact fin (RetK_ex (φ := fun x _ => φ x) (L := L') q)
  | ret => exact fin (RetK_ex (φ := fun x _ => φ x) (L := L') q)
  | exit id => exact q.elim
  | goto l => exact q.elim
  | panic ch => exact q.elim
  | outgrown => exact q.elim
end
end Go.Proofs.YtpddiepfolfnoaaDoor
