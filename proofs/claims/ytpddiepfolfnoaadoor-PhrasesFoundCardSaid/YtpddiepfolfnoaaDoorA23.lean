/- Contracts with one borrowed variable and with fresh rows: out of bodies, and at calls. -/
import Derived.Test.YtpddiepfolfnoaaDoorA22
namespace Go.Proofs.YtpddiepfolfnoaaDoor
set_option linter.unusedVariables false
set_option linter.unusedSimpArgs false
set_option linter.defProp false

/-- A contract: bx: the object behind the first argument, if there is one. -/
def GCall (P : Program) (E : Envt) (f : FuncId) (bx : Option OS) (args : List PV) (post : RV → OS → Prop) : Prop :=
  ∀ (w : World) (U : Nat → Prop) (vs : List Value) (v0 : Value), (∀ c, U c → c < w.heap.size) → E.ok w → (∀ c, E.bl c → c < w.heap.size ∧ (bx.isSome = true → blk v0 ≠ some c)) → PRepL w U args vs →
    (match bx with | none => True | some os => (∀ c, blk v0 = some c → U c) ∧ ObjAt w U v0 os) →
    Calls P f ((match bx with | none => vs | some _ => v0 :: vs)).toArray w fun e w' => ∃ v r os', e = .returned v ∧ post r os' ∧ RVok w' U w.heap.size r v ∧
      (match bx with
       | none => Grow w w' (fun _ => False)
       | some _ => Grow w w' (fun c => blk v0 = some c) ∧ ObjAt w' (fun c => U c ∨ r.own v c) v0 os')

def noOS : OS := .box 0 []
/-- What a body must end with: a plain result. -/
def finP (bx : Option OS) (post : RV → OS → Prop) (x : PV) (L : Objs) : Prop :=
  match bx with
  | none => post (.p x) noOS
  | some _ => ∃ os', Zah L (.b 0) = some os'.ao ∧ post (.p x) os'
/-- .. or a fresh row in slot i. -/
def finF (bx : Option OS) (post : RV → OS → Prop) (i : Nat) (fr : List AV) (L : Objs) : Prop :=
  (∃ j es e z, fr.getD i .any = .row (.l j) ∧ Zah L (.l j) = some (.row es e z true) ∧
    match bx with
    | none => post (.fr es e z) noOS
    | some _ => ∃ os', Zah L (.b 0) = some os'.ao ∧ post (.fr es e z) os') ∨
  ∃ e z z0, fr.getD i .any = .p (.nl z0) ∧
    match bx with
    | none => post (.fr [] e z) noOS
    | some _ => ∃ os', Zah L (.b 0) = some os'.ao ∧ post (.fr [] e z) os'
def retF (i : Nat) (bx : Option OS) (post : RV → OS → Prop) : AQ
  | .normal, fr, L => finF bx post i fr L
  | .ret, fr, L => finF bx post i fr L
  | _, _, _ => False

theorem retF_r {i : Nat} {bx : Option OS} {post : RV → OS → Prop} {fr : List AV} {L : Objs} : retF i bx post .ret fr L = finF bx post i fr L := rfl
theorem retF_n {i : Nat} {bx : Option OS} {post : RV → OS → Prop} {fr : List AV} {L : Objs} : retF i bx post .normal fr L = finF bx post i fr L := rfl

def l0 (bx : Option OS) : Objs :=
  match bx with
  | none => []
  | some os => [(.b 0, os.ao)]
def a0 (bx : Option OS) (args : List PV) : List AV :=
  match bx with
  | none => args.map .p
  | some (.box _ _) => .adr (.b 0) 0 :: args.map .p
  | some (.row _ _ _) => .row (.b 0) :: args.map .p

section
variable {P : Program} {E : Envt}

theorem gcall_of_awp (hm : P.follows .mixedOrders = true) {f : FuncId} {fn : Func} {c : Code} {ic : IC} {bx : Option OS} {args : List PV} {post : RV → OS → Prop} {Q : AQ} (hf : P.funcs[f]? = some fn) (hb : fn.body = some c) (hchk : chkC P okDraw ic c = true)
    (h : awp P E ic (a0 bx args ++ List.replicate (fn.ntmps - (a0 bx args).length) .any) (l0 bx) Q)
    (hQ : ∀ (B : Base) (w' : World) (L : Objs) (ι : Key → Value) (fr : List AV) (a : Act) (e : Exit), Q e fr L → StF E B w' L ι fr a → B.L0 = l0 bx → (e = .normal ∨ e = .ret) ∧ ∃ v r os', (results fn a.tmps).run P w' = .ok v w' ∧ post r os' ∧ RVok w' (ZB L ι B.X) B.w0.heap.size r v ∧ (bx.isSome = true → Zah L (.b 0) = some os'.ao) ∧ (∀ b, r.own v b → Own L ι b)) : GCall P E f bx args post := by
  intro w U vs v0 hU hE hEb hA hB
  refine calls_of_wp hf hb ?_
  let ι : Key → Value := fun _ => v0
  let B : Base := { w0 := w, X := fun c => U c ∧ (bx.isSome = true → blk v0 ≠ some c), L0 := l0 bx, i0 := ι }
  have hlk : ∀ k q, Zah (l0 bx) k = some q → k = .b 0 ∧ ∃ os, bx = some os ∧ q = os.ao := by
    intro k q hq
    cases hbx : bx with
    | none => rw [hbx] at hq; simp [l0, Zah] at hq
    | some os =>
      rw [hbx] at hq
      simp only [l0, Zah] at hq
      split at hq
      · rename_i e; cases hq; exact ⟨e.symm, os, rfl, rfl⟩
      · cases hq
  have hO : ∀ c, Own (l0 bx) ι c → blk v0 = some c ∧ bx.isSome = true := by
    rintro c ⟨k, q, h1, h2⟩
    obtain ⟨_, os, e, _⟩ := hlk k q h1
    exact ⟨h2, by rw [e]; rfl⟩
  have hUb : ∀ c, (Own (l0 bx) ι c ∨ B.X c) → U c := by
    rintro c (h' | h')
    · obtain ⟨h1, hs⟩ := hO c h'
      cases hbx : bx with
      | none => rw [hbx] at hs; cases hs
      | some p => rw [hbx] at hB; exact hB.1 c h1
    · exact h'.1
  have hkeep : Keeps w w U (fun c => Own (l0 bx) ι c ∨ B.X c) := fun c _ hu => ⟨rfl, fun h => hu (hUb c h)⟩
  have hsim : Sim w B.X (l0 bx) ι := by
    constructor
    · intro k q hq
      obtain ⟨rfl, os, e, rfl⟩ := hlk k q hq
      rw [e] at hB
      exact ObjAt.ok (hB.2.mono hkeep (fun _ _ => rfl))
    · intro k k' q q' c h1 h2 _ _
      rw [(hlk k q h1).1, (hlk k' q' h2).1]
  have hst : St E B w (l0 bx) ι := ⟨Grow.refl _ _, hsim, fun c hc => .inl hc, fun c hc => hU c hc.1, fun k _ _ => rfl, hE, fun c hc => ⟨(hEb c hc).1, fun ho => by obtain ⟨e1, e2⟩ := hO c ho; exact (hEb c hc).2 e2 e1⟩, (fun i => by
    show Zah (l0 bx) (.l i) = none
    cases hq : Zah (l0 bx) (.l i) with
    | none => rfl
    | some q => have := (hlk _ _ hq).1; cases this), (fun c hc ho => by obtain ⟨e1, e2⟩ := hO c ho; exact hc.2 e2 e1)⟩
  have hlen := hA.length
  have hfr : ∀ as : List Value, ARepL w (fun c => Own (l0 bx) ι c ∨ B.X c) ι (a0 bx args) as → StF E B w (l0 bx) ι (a0 bx args ++ List.replicate (fn.ntmps - (a0 bx args).length) .any) { tmps := as.toArray ++ Array.replicate (fn.ntmps - as.toArray.size) undef, defers := [] } := by
    intro as has
    have hl : ∀ (xs : List AV) (ys : List Value), ARepL w (fun c => Own (l0 bx) ι c ∨ B.X c) ι xs ys → ys.length = xs.length ∧ ∀ (i : Nat) (x : AV), xs[i]? = some x → ∃ v, ys[i]? = some v ∧ ARep w (fun c => Own (l0 bx) ι c ∨ B.X c) ι x v := by
      intro xs
      induction xs with
      | nil => intro ys h; simp only [ARepL] at h; subst h; simp
      | cons x xs ih =>
        intro ys h
        simp only [ARepL] at h
        obtain ⟨v, r, rfl, h1, h2⟩ := h
        obtain ⟨g1, g2⟩ := ih r h2
        refine ⟨by simp [g1], fun i y hy => ?_⟩
        cases i with
        | zero => simp at hy; subst hy; exact ⟨v, rfl, h1⟩
        | succ i => simp at hy; simpa using g2 i y hy
    obtain ⟨g1, g2⟩ := hl _ _ has
    refine ⟨hst, ⟨by simp [g1], fun i x hx => ?_⟩, rfl⟩
    rw [List.getElem?_append] at hx
    split at hx
    · rename_i hi
      obtain ⟨v, hv, hrep⟩ := g2 i x hx
      refine ⟨v, ?_, hrep⟩
      rw [Array.getElem?_append_left (by simp; omega)]
      simpa using hv
    · rename_i hi
      rw [List.getElem?_replicate] at hx
      split at hx
      · rename_i hlt
        cases hx
        refine ⟨undef, ?_, trivial⟩
        rw [Array.getElem?_append_right (by simp; omega)]
        simp only [List.size_toArray]
        rw [Array.getElem?_replicate, if_pos (by rw [g1]; omega)]
      · cases hx
  have hargs : ARepL w (fun c => Own (l0 bx) ι c ∨ B.X c) ι (a0 bx args) (match bx with | none => vs | some _ => v0 :: vs) := by
    have hp : ∀ (xs : List PV) (ys : List Value), PRepL w U xs ys → ARepL w (fun c => Own (l0 bx) ι c ∨ B.X c) ι (xs.map .p) ys := by
      intro xs
      induction xs with
      | nil => intro ys h; simp only [PRepL] at h; subst h; simp [ARepL]
      | cons x xs ih =>
        intro ys h
        simp only [PRepL] at h
        obtain ⟨v, r, rfl, h1, h2⟩ := h
        simp only [List.map_cons, ARepL]
        exact ⟨v, r, rfl, PRep.mono hkeep _ _ h1, ih r h2⟩
    have hpv := hp args vs hA
    cases hbx : bx with
    | none => rw [hbx] at hpv; exact hpv
    | some os =>
      rw [hbx] at hpv hB
      cases os with
      | box t cs =>
        obtain ⟨b, vs', e1, _⟩ := hB.2
        simp only [a0, ARepL]
        exact ⟨_, _, rfl, ⟨b, e1, e1⟩, hpv⟩
      | row e z es =>
        obtain ⟨vs', h1, _⟩ := hB.2
        simp only [a0, ARepL]
        refine ⟨_, _, rfl, ⟨rfl, ?_⟩, hpv⟩
        rcases h1.2 with ⟨q1, _⟩ | ⟨g, cap, cur, fz, q1, _⟩
        · exact ⟨none, 0, 0, q1⟩
        · exact ⟨_, _, _, q1⟩
  refine wp_mono (awp_sound (drawOk hm) ic c _ _ _ hchk h B w ι _ (hfr _ hargs)) ?_
  rintro e a' w' ⟨fr', L', ι', q, hs'⟩
  obtain ⟨he, v, r, os', hv, hp, hr, hbox, hown⟩ := hQ B w' L' ι' fr' a' e q hs' rfl
  have hkey : bx.isSome = true → ι' (.b 0) = v0 := by
    intro e
    refine hs'.1.keep (.b 0) ?_ (by rw [hbox e]; rfl)
    show (Zah (l0 bx) (.b 0)).isSome = true
    obtain ⟨os, e⟩ := Option.isSome_iff_exists.1 e
    rw [e]; simp [l0, Zah]
  -- what is borrowed is the one object
  have hZ : ∀ c, U c → ZB L' ι' B.X c := by
    intro c hc
    by_cases hcb : bx.isSome = true ∧ blk v0 = some c
    · exact .inr ⟨0, _, hbox hcb.1, by rw [hkey hcb.1]; exact hcb.2⟩
    · exact .inl ⟨hc, fun h1 h2 => hcb ⟨h1, h2⟩⟩
  have hkz : Keeps w' w' (ZB L' ι' B.X) U := fun c _ hz => ⟨rfl, fun hu => hz (hZ c hu)⟩
  have hres : RVok w' U w.heap.size r v := by
    cases r with
    | p x => exact PRep.mono hkz _ _ hr
    | fr es e z =>
      obtain ⟨vs', r1, r2, r3, r4, r5⟩ := hr
      exact ⟨vs', r1, r2, PRepL.mono (fun c _ hz => ⟨rfl, fun hu => hz (hu.imp (hZ c) id)⟩) _ _ r3, r4, r5⟩
  have hg := hs'.1.grow
  have fin : ∃ v_1 r os', Ending.returned v = .returned v_1 ∧ post r os' ∧ RVok w' U w.heap.size r v_1 ∧ (match bx with | none => Grow w w' (fun _ => False) | some _ => Grow w w' (fun c => blk v0 = some c) ∧ ObjAt w' (fun c => U c ∨ r.own v_1 c) v0 os') := by
    refine ⟨v, r, os', rfl, hp, hres, ?_⟩
    cases hbx : bx with
    | none => exact ⟨hg.os, hg.tape, hg.output, hg.size, fun c hc _ => hg.block c hc (fun ho => by have := (hO c ho).2; rw [hbx] at this; cases this)⟩
    | some os =>
      have hbs : bx.isSome = true := by rw [hbx]; rfl
      refine ⟨⟨hg.os, hg.tape, hg.output, hg.size, fun c hc hn => hg.block c hc (fun ho => hn (hO c ho).1)⟩, ?_⟩
      have hat := ObjAt.of (hs'.1.sim.obj (.b 0) _ (hbox hbs))
      rw [hkey hbs] at hat
      refine hat.mono (fun c _ hz => ⟨rfl, fun hu => hz ?_⟩) (fun _ _ => rfl)
      rcases hu with hu | hu
      · rcases hZ c hu with h1 | ⟨i, q, h1, h2⟩
        · exact .inr h1
        · exact .inl ⟨_, q, h1, h2⟩
      · exact .inl (hown c hu)
  rcases he with rfl | rfl
  · exact ⟨hs'.2.2, v, hv, fin⟩
  · exact ⟨hs'.2.2, v, hv, fin⟩

/-- A contract with a plain result. -/
theorem gcallP (hm : P.follows .mixedOrders = true) {f : FuncId} {fn : Func} {ic : IC} {rs : List IRes} {n : Nat} {bx : Option OS} {args : List PV} {post : RV → OS → Prop} (hf : P.funcs[f]? = some fn) (hc : chkF P fn ic rs n = true)
    (h : awp P E ic (a0 bx args ++ List.replicate (n - (a0 bx args).length) .any) (l0 bx) (retQ rs (finP bx post))) : GCall P E f bx args post := by
  unfold chkF at hc
  split at hc
  · rename_i c hb
    simp only [Bool.and_eq_true, beq_iff_eq] at hc
    obtain ⟨⟨h1, h2⟩, rfl⟩ := hc
    refine gcall_of_awp hm hf hb h1 h ?_
    intro B w' L ι fr a e q hs hb0
    have key : RetK (Zam fr L rs) (finP bx post) L → ∃ v r os', (results fn a.tmps).run P w' = .ok v w' ∧ post r os' ∧ RVok w' (ZB L ι B.X) B.w0.heap.size r v ∧ (bx.isSome = true → Zah L (.b 0) = some os'.ao) ∧ (∀ b, r.own v b → Own L ι b) := by
      intro q
      obtain ⟨l, e1, e2⟩ := RetK_ex q
      obtain ⟨v, hv, hr⟩ := results_ok hs h2 e1
      cases hbx : bx with
      | none => rw [hbx] at e2; exact ⟨v, .p (mkRes l), noOS, hv, e2, hr, (fun h => by cases h), fun _ h => h.elim⟩
      | some p =>
        rw [hbx] at e2
        obtain ⟨cs', g1, g2⟩ := e2
        exact ⟨v, .p (mkRes l), cs', hv, g2, hr, (fun _ => g1), fun _ h => h.elim⟩
    cases e with
    | normal => exact ⟨.inl rfl, key q⟩
    | ret => exact ⟨.inr rfl, key q⟩
    | _ => exact q.elim
  · cases hc

/-- A contract with a fresh row. -/
theorem gcallR (hm : P.follows .mixedOrders = true) {f : FuncId} {fn : Func} {ic : IC} {i n : Nat} {bx : Option OS} {args : List PV} {post : RV → OS → Prop} (hf : P.funcs[f]? = some fn) (hc : chkF P fn ic [.t i] n = true)
    (h : awp P E ic (a0 bx args ++ List.replicate (n - (a0 bx args).length) .any) (l0 bx) (retF i bx post)) : GCall P E f bx args post := by
  unfold chkF at hc
  split at hc
  · rename_i c hb
    simp only [Bool.and_eq_true, beq_iff_eq] at hc
    obtain ⟨⟨h1, h2⟩, rfl⟩ := hc
    refine gcall_of_awp hm hf hb h1 h ?_
    intro B w' L ι fr a e q hs hb0
    have key : finF bx post i fr L → ∃ v r os', (results fn a.tmps).run P w' = .ok v w' ∧ post r os' ∧ RVok w' (ZB L ι B.X) B.w0.heap.size r v ∧ (bx.isSome = true → Zah L (.b 0) = some os'.ao) ∧ (∀ b, r.own v b → Own L ι b) := by
      intro hfin
      have hres : (results fn a.tmps).run P w' = .ok (a.tmps.getD i undef) w' := by
        have hq : fn.results = #[.tmp i] := by
          have : ∀ (l : List ResultVar), okResL P l [.t i] = true → l = [.tmp i] := by
            intro l hl
            cases l with
            | nil => simp [okResL] at hl
            | cons x l =>
              cases l with
              | nil => cases x <;> simp [okResL, okRes] at hl; subst hl; rfl
              | cons y l => cases x <;> simp [okResL] at hl
          apply Array.ext'
          exact this _ h2
        exact results_tmp hq _ P w'
      rcases hfin with ⟨j, es, et, z, e1, e2, e3⟩ | ⟨et, z, z0, e1, e3⟩
      rotate_left
      · have hsl := hs.2.1.getD i
        rw [e1] at hsl
        have hv : a.tmps.getD i undef = .slice none 0 0 := hsl
        have hrv : RVok w' (ZB L ι B.X) B.w0.heap.size (.fr [] et z) (a.tmps.getD i undef) := by
          rw [hv]
          exact ⟨[], ⟨by simp, .inl ⟨rfl, rfl⟩⟩, by simp, by simp [PRepL], by simp, fun b hb => by simp [blk] at hb⟩
        have hno : ∀ b, RV.own (.fr [] et z) (a.tmps.getD i undef) b → Own L ι b := fun b hb => by rw [hv] at hb; simp [RV.own, blk] at hb
        cases hbx : bx with
        | none => rw [hbx] at e3; exact ⟨_, .fr [] et z, noOS, hres, e3, hrv, (fun h => by cases h), hno⟩
        | some p =>
          rw [hbx] at e3
          obtain ⟨cs', g1, g2⟩ := e3
          exact ⟨_, .fr [] et z, cs', hres, g2, hrv, (fun _ => g1), hno⟩
      have hsl := hs.2.1.getD i
      rw [e1] at hsl
      obtain ⟨hv, A, m, cp, hvs⟩ := hsl
      obtain ⟨vs, hrow, g2, g3, g4⟩ := hs.1.sim.obj _ _ e2
      have hblkO : ∀ b, blk (a.tmps.getD i undef) = some b → Own L ι b := fun b hb' => ⟨_, _, e2, by rw [← hv]; exact hb'⟩
      have hrow' : RowOk w' et z true (a.tmps.getD i undef) es.length vs := by rw [hv]; exact hrow
      have hZ0 : bx.isSome = true → ∃ q, Zah L (.b 0) = some q := by
        intro hbs
        cases hbx : bx with
        | none => rw [hbx] at hbs; cases hbs
        | some p => rw [hbx] at e3; obtain ⟨cs', g1, _⟩ := e3; exact ⟨_, g1⟩
      have hrv : RVok w' (ZB L ι B.X) B.w0.heap.size (.fr es et z) (a.tmps.getD i undef) := by
        refine ⟨vs, hrow', g2, PRepL.mono (fun c _ hu => ⟨rfl, ?_⟩) _ _ g3, g4, fun b hb' => ?_⟩
        · rintro ((hx | ⟨i', q', h1, h2⟩) | hx)
          · exact hu (.inr hx)
          · exact hu (.inl ⟨_, q', h1, h2⟩)
          · exact hu (.inl (hblkO c hx))
        · rcases hs.1.own b (hblkO b hb') with h' | h'
          · obtain ⟨k0, q0, h5, h6⟩ := h'
            rw [hb0] at h5
            cases hbx : bx with
            | none => rw [hbx] at h5; simp [l0, Zah] at h5
            | some p =>
              obtain ⟨q1, hq1⟩ := hZ0 (by rw [hbx]; rfl)
              rw [hbx] at h5
              simp only [l0, Zah] at h5
              split at h5
              · rename_i ek
                subst ek
                have hk0 : ι (.b 0) = B.i0 (.b 0) := hs.1.keep (.b 0) (by rw [hb0, hbx]; simp [l0, Zah]) (by rw [hq1]; rfl)
                have := hs.1.sim.inj (.b 0) (.l j) q1 _ b hq1 e2 (by rw [hk0]; exact h6) (by rw [← hv]; exact hb')
                cases this
              · cases h5
          · exact h'
      cases hbx : bx with
      | none => rw [hbx] at e3; exact ⟨_, .fr es et z, noOS, hres, e3, hrv, (fun h => by cases h), hblkO⟩
      | some p =>
        rw [hbx] at e3
        obtain ⟨cs', g1, g2⟩ := e3
        exact ⟨_, .fr es et z, cs', hres, g2, hrv, (fun _ => g1), hblkO⟩
    cases e with
    | normal => exact ⟨.inl rfl, key q⟩
    | ret => exact ⟨.inr rfl, key q⟩
    | _ => exact q.elim
  · cases hc

/-- Contracts in short: a variable behind the first argument, a plain result. -/
def SCall (P : Program) (E : Envt) (f : FuncId) (t : TypeId) (cs args : List PV) (ψ : PV → List PV → Prop) : Prop := GCall P E f (some (.box t cs)) args fun r os => ∃ x cs', r = .p x ∧ os = .box t cs' ∧ ψ x cs'
/-- .. a fresh row. -/
def SFresh (P : Program) (E : Envt) (f : FuncId) (t : TypeId) (cs args : List PV) (e z : Nat) (ψ : List (List PV) → List PV → Prop) : Prop := GCall P E f (some (.box t cs)) args fun r os => ∃ es cs', r = .fr es e z ∧ os = .box t cs' ∧ ψ es cs'
/-- No object; a fresh row. -/
def FCall (P : Program) (E : Envt) (f : FuncId) (args : List PV) (e z : Nat) (φ : List (List PV) → Prop) : Prop := GCall P E f none args fun r _ => ∃ es, r = .fr es e z ∧ φ es
/-- A row is written in place; a plain result. -/
def RCall (P : Program) (E : Envt) (f : FuncId) (e z : Nat) (es : List (List PV)) (args : List PV) (ψ : PV → List (List PV) → Prop) : Prop := GCall P E f (some (.row e z es)) args fun r os => ∃ x es', r = .p x ∧ os = .row e z es' ∧ ψ x es'
/-- A row is written in place; a fresh row comes back. -/
def RFresh (P : Program) (E : Envt) (f : FuncId) (e z : Nat) (es : List (List PV)) (args : List PV) (e2 z2 : Nat) (ψ : List (List PV) → List (List PV) → Prop) : Prop := GCall P E f (some (.row e z es)) args fun r os => ∃ es2 es', r = .fr es2 e2 z2 ∧ os = .row e z es' ∧ ψ es2 es'

theorem pcall_of_fresh {f : FuncId} {args : List PV} {e z : Nat} {φ : List (List PV) → Prop} (h : FCall P E f args e z φ) : PCall P E f args (fun x => ∃ es, x = .sl z es ∧ φ es) := by
  intro w U vs hU hE hEb hA
  refine (h w U vs undef hU hE (fun c hc => ⟨hEb c hc, fun h => by cases h⟩) hA trivial).mono ?_
  rintro en w' ⟨v, r, cs', rfl, ⟨es, rfl, hφ⟩, ⟨vs', r1, r2, r3, r4, r5⟩, hG⟩
  refine ⟨v, .sl z es, rfl, ⟨es, rfl, hφ⟩, ?_, hG⟩
  rcases r1.2 with ⟨g1, g2⟩ | ⟨g, cap, cur, fz, g1, g2, g3, _⟩
  · exact ⟨none, 0, by rw [g1, g2], by omega, fun hne => absurd (List.eq_nil_of_length_eq_zero g2) hne⟩
  · have hgl : g < w'.heap.size := (Array.getElem?_eq_some_iff.1 g2).1
    refine ⟨_, cap, g1, g3, fun _ => ⟨g, 0, rfl, hgl, fun hu => ?_, ?_⟩⟩
    · have := hU g hu
      have := r5 g (by rw [g1]; rfl)
      omega
    · have hc := r1.cells g1
      have key : ∀ (es : List (List PV)) (vs : List Value) (off : Nat), (∀ x ∈ es, x.length = z) → PRepL w' (fun b => U b ∨ blk v = some b) es.flatten vs → (∀ v ∈ vs, v.oneCell' = true) → (∀ j u, vs[j]? = some u → w'.cell? ⟨g, off + j, none⟩ = some u) → PRepE w' U g z off es := by
        intro es
        induction es with
        | nil => intros; simp [PRepE]
        | cons x r ih =>
          intro vs off hz hv h1 hc
          simp only [PRepE]
          have hx := hz x (by simp)
          simp only [List.flatten_cons] at hv
          have ha := hv.take x.length
          have hb := hv.drop x.length
          rw [List.take_left] at ha
          rw [List.drop_left] at hb
          refine ⟨hx, PRepC.of (PRepL.mono (fun c _ hu => ⟨rfl, fun h => hu (.inl h)⟩) _ _ ha) (fun v hv => h1 v (List.mem_of_mem_take hv)) (fun j u hu => hc j u (by rw [List.getElem?_take] at hu; split at hu; exact hu; cases hu)), ih _ (off + z) (fun y hy => hz y (by simp [hy])) hb (fun v hv => h1 v (List.mem_of_mem_drop hv)) (fun j u hu => ?_)⟩
          rw [List.getElem?_drop] at hu
          have := hc _ u hu
          rwa [hx, ← Nat.add_assoc] at this
      exact key es vs' 0 r4 r3 r2 (fun j u hu => by rw [Nat.zero_add]; exact hc j u hu)

variable {L : Objs} {fr : List AV} {X : List PV} {K : List AV → Objs → Prop}

theorem gc_none {f : FuncId} {as : List AV} {ps : List PV} {post : RV → OS → Prop} (h : GCall P E f none ps post) (ha : Zaq L as = some ps) (hn : Zas as = true) : GC P E f as L none post := by
  intro w X ι vs hs hX hE hEb hA
  exact h w (fun b => Own L ι b ∨ X b) vs undef (fun b hb => hb.elim (fun h => sim_own_lt hs h) (fun h => (hX b h).1)) hE (fun b hb => ⟨(hEb b hb).1, fun h => by cases h⟩) (argPs_norow hn ha hA) trivial

def AV.key1 (k : Key) : OS → AV
  | .box _ _ => .adr k 0
  | .row _ _ _ => .row k
theorem gc_obj {f : FuncId} {as : List AV} {ps : List PV} {os : OS} {k : Key} {post : RV → OS → Prop} (h : GCall P E f (some os) ps post) (hl : Zah L k = some os.ao) (ha : Zaq L as = some ps) (hn : Zas as = true) : GC P E f (AV.key1 k os :: as) L (some (k, os)) post := by
  intro w X ι vs hs hX hE hEb hA
  simp only [ARepL] at hA
  obtain ⟨v0, vr, rfl, hv0, hA⟩ := hA
  have hv0 : v0 = ι k := by
    cases os with
    | box t cs => obtain ⟨b, e1, e2⟩ := hv0; rw [e1, e2]
    | row e z es => exact hv0.1
  subst hv0
  have hOb : ∀ c, blk (ι k) = some c → Own L ι c := fun c hc => ⟨k, _, hl, hc⟩
  refine (h w (fun b => Own L ι b ∨ X b) vr (ι k) (fun b hb => hb.elim (fun h => sim_own_lt hs h) (fun h => (hX b h).1)) hE (fun c hc => ⟨(hEb c hc).1, fun _ e => (hEb c hc).2 (hOb c e)⟩) (argPs_norow hn ha hA) ⟨fun c hc => .inl (hOb c hc), ObjAt.of (hs.obj k _ hl)⟩).mono ?_
  rintro e w' ⟨v, r, os', rfl, hp, hr, hG, hB⟩
  exact ⟨v, r, os', rfl, hp, hr, ⟨hG.os, hG.tape, hG.output, hG.size, fun c hc hn => hG.block c hc (fun ec => hn ⟨_, hl, ec⟩)⟩, hB⟩

/-- At a call: a variable changes, the result is plain. -/
theorem useS {f : FuncId} {as : List AV} {ps cs : List PV} {t : TypeId} {k : Key} {ψ : PV → List PV → Prop} {d : Option Nat} {is : List IOper} (h : SCall P E f t cs ps ψ) (hl : Zah L k = some (.box (cs.map .p) t)) (ha : Zaq L as = some ps) (hn : Zas as = true) (hs : Zau d (some (k, .box t cs)))
    (hk : ∀ x cs', ψ x cs' → awpOps P E X is (Zf fr d (.p x)) (Zai L k (.box (cs'.map .p) t)) K) : CallOp P E f (.adr k 0 :: as) L d fr (contO P E X is K) :=
  .inr (.inl ⟨some (k, .box t cs), _, gc_obj h hl ha hn, hl, hs, fun r os' hp => by obtain ⟨x, cs', rfl, rfl, hx⟩ := hp; exact hk x cs' hx⟩)
/-- The same in a region that draws its order. -/
theorem useD {b : Bool} {f : FuncId} {as : List AV} {ps cs : List PV} {t : TypeId} {k : Key} {ψ : PV → List PV → Prop} {d : Option Nat} {is : List IOper} (h : SCall P E f t cs ps ψ) (hne : ∃ x cs', ψ x cs') (hl : Zah L k = some (.box (cs.map .p) t)) (ha : Zaq L as = some ps) (hn : Zas as = true) (hs : Zau d (some (k, .box t cs))) (hb : b = true → ∃ j, k = .b j)
    (hk : ∀ x cs', ψ x cs' → awpOps P E X is (Zf fr d (.p x)) (Zai L k (.box (cs'.map .p) t)) K) : DCallOp b P E f (.adr k 0 :: as) L d fr (contO P E X is K) :=
  ⟨k, t, cs, ψ, gc_obj h hl ha hn, hl, (fun e he => by subst he; exact hs), hb, hne, hk⟩
theorem useSF {f : FuncId} {as : List AV} {ps cs : List PV} {t : TypeId} {k : Key} {e z : Nat} {ψ : List (List PV) → List PV → Prop} {d : Nat} {is : List IOper} (h : SFresh P E f t cs ps e z ψ) (hl : Zah L k = some (.box (cs.map .p) t)) (ha : Zaq L as = some ps) (hn : Zas as = true) (hs : Zau (some d) (some (k, .box t cs)))
    (hk : ∀ es cs', ψ es cs' → awpOps P E X is ((fr.map (·.kill (.l d))).set d (.row (.l d))) (Zak (Zai L k (.box (cs'.map .p) t)) (.l d) (.row es e z true)) K) : CallOp P E f (.adr k 0 :: as) L (some d) fr (contO P E X is K) :=
  .inr (.inl ⟨some (k, .box t cs), _, gc_obj h hl ha hn, hl, hs, fun r os' hp => by obtain ⟨es, cs', rfl, rfl, hx⟩ := hp; exact hk es cs' hx⟩)
theorem useF {f : FuncId} {as : List AV} {ps : List PV} {e z : Nat} {φ : List (List PV) → Prop} {d : Nat} {is : List IOper} (h : FCall P E f ps e z φ) (ha : Zaq L as = some ps) (hn : Zas as = true)
    (hk : ∀ es, φ es → awpOps P E X is ((fr.map (·.kill (.l d))).set d (.row (.l d))) (Zak L (.l d) (.row es e z true)) K) : CallOp P E f as L (some d) fr (contO P E X is K) :=
  .inr (.inl ⟨none, _, gc_none h ha hn, trivial, trivial, fun r cs' hp => by obtain ⟨es, rfl, hx⟩ := hp; exact hk es hx⟩)
/-- Arguments as they are: a nil slice stays one. -/
def argP0 : List AV → Option (List PV)
  | [] => some []
  | .p x :: r => (argP0 r).map (x :: ·)
  | _ :: _ => none
theorem argP0_rep {w : World} {U : Nat → Prop} {ι : Key → Value} : ∀ {as : List AV} {ps : List PV} {vs : List Value}, argP0 as = some ps → ARepL w U ι as vs → PRepL w U ps vs := by
  intro as
  induction as with
  | nil => intro ps vs h hr; simp only [argP0, Option.some.injEq] at h; subst h; exact hr
  | cons a as ih =>
    intro ps vs h hr
    cases a with
    | p x =>
      simp only [argP0, Option.map_eq_some_iff] at h
      obtain ⟨l, e2, rfl⟩ := h
      simp only [ARepL] at hr
      obtain ⟨v, r, rfl, h1, h2⟩ := hr
      simp only [PRepL]
      exact ⟨v, r, rfl, h1, ih e2 h2⟩
    | _ => simp [argP0] at h
theorem useF0 {f : FuncId} {as : List AV} {ps : List PV} {e z : Nat} {φ : List (List PV) → Prop} {d : Nat} {is : List IOper} (h : FCall P E f ps e z φ) (ha : argP0 as = some ps)
    (hk : ∀ es, φ es → awpOps P E X is ((fr.map (·.kill (.l d))).set d (.row (.l d))) (Zak L (.l d) (.row es e z true)) K) : CallOp P E f as L (some d) fr (contO P E X is K) :=
  .inr (.inl ⟨none, _, (fun w X ι vs hs hX hE hEb hA => h w (fun b => Own L ι b ∨ X b) vs undef (fun b hb => hb.elim (fun h => sim_own_lt hs h) (fun h => (hX b h).1)) hE (fun b hb => ⟨(hEb b hb).1, fun h => by cases h⟩) (argP0_rep ha hA) trivial), trivial, trivial, fun r cs' hp => by obtain ⟨es, rfl, hx⟩ := hp; exact hk es hx⟩)
theorem useR {f : FuncId} {as : List AV} {ps : List PV} {e z : Nat} {es : List (List PV)} {k : Key} {ψ : PV → List (List PV) → Prop} {d : Option Nat} {is : List IOper} (h : RCall P E f e z es ps ψ) (hl : Zah L k = some (.row es e z true)) (ha : Zaq L as = some ps) (hn : Zas as = true) (hs : Zau d (some (k, .row e z es)))
    (hk : ∀ x es', ψ x es' → awpOps P E X is (Zf fr d (.p x)) (Zai L k (.row es' e z true)) K) : CallOp P E f (.row k :: as) L d fr (contO P E X is K) :=
  .inr (.inl ⟨some (k, .row e z es), _, gc_obj h hl ha hn, hl, hs, fun r os' hp => by obtain ⟨x, es', rfl, rfl, hx⟩ := hp; exact hk x es' hx⟩)
theorem useRF {f : FuncId} {as : List AV} {ps : List PV} {e z e2 z2 : Nat} {es : List (List PV)} {k : Key} {ψ : List (List PV) → List (List PV) → Prop} {d : Nat} {is : List IOper} (h : RFresh P E f e z es ps e2 z2 ψ) (hl : Zah L k = some (.row es e z true)) (ha : Zaq L as = some ps) (hn : Zas as = true) (hs : Zau (some d) (some (k, .row e z es)))
    (hk : ∀ es2 es', ψ es2 es' → awpOps P E X is ((fr.map (·.kill (.l d))).set d (.row (.l d))) (Zak (Zai L k (.row es' e z true)) (.l d) (.row es2 e2 z2 true)) K) : CallOp P E f (.row k :: as) L (some d) fr (contO P E X is K) :=
  .inr (.inl ⟨some (k, .row e z es), _, gc_obj h hl ha hn, hl, hs, fun r os' hp => by obtain ⟨es2, es', rfl, rfl, hx⟩ := hp; exact hk es2 es' hx⟩)

/-- Ends of bodies. -/
theorem GCall.mono {f : FuncId} {bx : Option OS} {args : List PV} {post post' : RV → OS → Prop} (h : GCall P E f bx args post) (hp : ∀ r os, post r os → post' r os) : GCall P E f bx args post' := by
  intro w U vs v0 hU hE hEb hA hB
  refine (h w U vs v0 hU hE hEb hA hB).mono ?_
  rintro e w' ⟨v, r, os', h1, h2, h3⟩
  exact ⟨v, r, os', h1, hp r os' h2, h3⟩
theorem RCall.mono {f : FuncId} {e z : Nat} {es : List (List PV)} {args : List PV} {ψ ψ' : PV → List (List PV) → Prop} (h : RCall P E f e z es args ψ) (hp : ∀ x es, ψ x es → ψ' x es) : RCall P E f e z es args ψ' :=
  GCall.mono h fun r os ⟨x, es', h1, h2, h3⟩ => ⟨x, es', h1, h2, hp x es' h3⟩
theorem FCall.mono {f : FuncId} {e z : Nat} {args : List PV} {φ φ' : List (List PV) → Prop} (h : FCall P E f args e z φ) (hp : ∀ es, φ es → φ' es) : FCall P E f args e z φ' :=
  GCall.mono h fun r os ⟨es, h1, h2⟩ => ⟨es, h1, hp es h2⟩
theorem PCall.mono {f : FuncId} {args : List PV} {φ φ' : PV → Prop} (h : PCall P E f args φ) (hp : ∀ x, φ x → φ' x) : PCall P E f args φ' := by
  intro w U vs hU hE hEb hA
  refine (h w U vs hU hE hEb hA).mono ?_
  rintro e w' ⟨v, x, h1, h2, h3⟩
  exact ⟨v, x, h1, hp x h2, h3⟩
theorem fin_S {t : TypeId} {cs : List PV} {ψ : PV → List PV → Prop} {x : PV} (cs' : List PV) (h1 : Zah L (.b 0) = some (.box (cs'.map .p) t)) (h2 : ψ x cs') : finP (some (.box t cs)) (fun r os => ∃ x cs', r = .p x ∧ os = .box t cs' ∧ ψ x cs') x L := ⟨.box t cs', h1, x, cs', rfl, rfl, h2⟩
theorem fin_R {e z : Nat} {es : List (List PV)} {ψ : PV → List (List PV) → Prop} {x : PV} (es' : List (List PV)) (h1 : Zah L (.b 0) = some (.row es' e z true)) (h2 : ψ x es') : finP (some (.row e z es)) (fun r os => ∃ x es', r = .p x ∧ os = .row e z es' ∧ ψ x es') x L := ⟨.row e z es', h1, x, es', rfl, rfl, h2⟩
theorem fin_F {i e z : Nat} {φ : List (List PV) → Prop} (j : Nat) (es : List (List PV)) (h0 : fr.getD i .any = .row (.l j)) (h1 : Zah L (.l j) = some (.row es e z true)) (h2 : φ es) : finF none (fun r _ => ∃ es, r = .fr es e z ∧ φ es) i fr L := .inl ⟨j, es, e, z, h0, h1, es, rfl, h2⟩
theorem fin_Fn {i e z z0 : Nat} {φ : List (List PV) → Prop} (h0 : fr.getD i .any = .p (.nl z0)) (h2 : φ []) : finF none (fun r _ => ∃ es, r = .fr es e z ∧ φ es) i fr L := .inr ⟨e, z, z0, h0, [], rfl, h2⟩
theorem fin_SF {i e z : Nat} {t : TypeId} {cs : List PV} {ψ : List (List PV) → List PV → Prop} (j : Nat) (es : List (List PV)) (cs' : List PV) (h0 : fr.getD i .any = .row (.l j)) (h1 : Zah L (.l j) = some (.row es e z true)) (h3 : Zah L (.b 0) = some (.box (cs'.map .p) t)) (h2 : ψ es cs') : finF (some (.box t cs)) (fun r os => ∃ es cs', r = .fr es e z ∧ os = .box t cs' ∧ ψ es cs') i fr L := .inl ⟨j, es, e, z, h0, h1, .box t cs', h3, es, cs', rfl, rfl, h2⟩
theorem fin_RF {i e z e2 z2 : Nat} {es : List (List PV)} {ψ : List (List PV) → List (List PV) → Prop} (j : Nat) (es2 es' : List (List PV)) (h0 : fr.getD i .any = .row (.l j)) (h1 : Zah L (.l j) = some (.row es2 e2 z2 true)) (h3 : Zah L (.b 0) = some (.row es' e z true)) (h2 : ψ es2 es') : finF (some (.row e z es)) (fun r os => ∃ es2 es', r = .fr es2 e2 z2 ∧ os = .row e z es' ∧ ψ es2 es') i fr L := .inl ⟨j, es2, e2, z2, h0, h1, .row e z es', h3, es2, es', rfl, rfl, h2⟩
end
end Go.Proofs.YtpddiepfolfnoaaDoor
