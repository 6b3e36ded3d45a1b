/- Meaning of small operations, continued: loads, fields, literals, equality of structs, bytes to string. -/
import Derived.Test.YtpddiepfolfnoaaDoorA6
namespace Go.Proofs.YtpddiepfolfnoaaDoor
set_option linter.unusedVariables false
set_option linter.unusedSimpArgs false
set_option linter.defProp false

section
variable {P : Program} {L : Objs} {fr : List AV} {o : Oper} {w : World} {U : Nat → Prop} {ι : Key → Value}

def aggB (P : Program) (t : TypeId) (ag : Bool) : Bool :=
  match P.underlying t with
  | some (.struct _) | some (.array _ _) => ag
  | some _ => !ag
  | none => false
theorem run_agg {t : TypeId} {ag : Bool} (h : aggB P t ag = true) (w : World) : (isAgg t).run P w = .ok ag w := by
  unfold aggB at h
  split at h
  · rename_i fs e; subst h; simp [isAgg, run_underlying e]
  · rename_i n el e; subst h; simp [isAgg, run_underlying e]
  · rename_i d h1 h2 e
    simp only [Bool.not_eq_true'] at h
    subst h
    simp only [isAgg, Sem.run_bind, run_underlying e, Result.andThen_ok]
    cases d <;> first | rfl | exact absurd rfl (h1 _) | exact absurd rfl (h2 _ _)
  · cases h

theorem PRepL.of_get {cs : List PV} {vs : List Value} (hl : vs.length = cs.length) (h : ∀ (j : Nat) (x : PV) (v : Value), cs[j]? = some x → vs[j]? = some v → PRep w U x v) : PRepL w U cs vs := by
  induction cs generalizing vs with
  | nil => simp only [PRepL]; exact List.eq_nil_of_length_eq_zero hl
  | cons a as ih =>
    cases vs with
    | nil => simp at hl
    | cons v r =>
      simp only [PRepL]
      exact ⟨v, r, rfl, h 0 a v rfl rfl, ih (by simpa using hl) (fun j x u hx hu => h (j + 1) x u (by simpa using hx) (by simpa using hu))⟩
theorem PRepL.drop {cs : List PV} {vs : List Value} (h : PRepL w U cs vs) (n : Nat) : PRepL w U (cs.drop n) (vs.drop n) := by
  induction n generalizing cs vs with
  | zero => simpa using h
  | succ n ih =>
    cases cs with
    | nil => simp only [PRepL] at h; subst h; simp [PRepL]
    | cons a as => simp only [PRepL] at h; obtain ⟨v, r, rfl, _, h2⟩ := h; simpa using ih h2
theorem PRepL.take {cs : List PV} {vs : List Value} (h : PRepL w U cs vs) (n : Nat) : PRepL w U (cs.take n) (vs.take n) := by
  induction n generalizing cs vs with
  | zero => simp [PRepL]
  | succ n ih =>
    cases cs with
    | nil => simp only [PRepL] at h; subst h; simp [PRepL]
    | cons a as => simp only [PRepL] at h; obtain ⟨v, r, rfl, h1, h2⟩ := h; simp only [List.take_succ_cons, PRepL]; exact ⟨v, _, rfl, h1, ih h2⟩

theorem snd_fld {s : TypeId} {f off sz : Nat} {ag : Bool} {x : Operand} {x' : Opd} (ho : o.op = .field s x f) (fs : Array Field) (fd : Field) (hs1 : P.underlying s = some (.struct fs)) (hfd : fs[f]? = some fd) (hoff : fd.offset = off) (hsz : sizeB P fd.type sz = true) (hag : aggB P fd.type ag = true) (h1z : ag = false → sz = 1)
    (hx : okOpd x x' = true) {c : Prop} {r : AV} (h : Ze fr L (.fld off sz ag x') = some (c, r)) : Val1 P o fr L c r := by
  subst hoff
  simp only [Ze] at h
  split at h
  · rename_i cx cs ex
    split at h
    · rename_i hle
      simp only [Option.some.injEq, Prod.mk.injEq] at h
      obtain ⟨rfl, rfl⟩ := h
      refine Val1.same fun E B w ι a hs h1 => ?_
      obtain ⟨vs, e, hl⟩ := rdP hs.2.1 hx ex h1
      have hlen := hl.length
      cases ag with
      | true =>
        refine ⟨.agg (vs.toArray.extract fd.offset (fd.offset + sz)), ?_, (vs.drop fd.offset).take sz, ?_, (hl.drop _).take _⟩
        · simp [execOp, ho, e, Instr.field, run_underlying hs1, hfd, asAgg, part, run_agg hag, run_size hsz]
        · congr 1
          apply Array.ext'
          simp
      | false =>
        have := h1z rfl
        subst this
        obtain ⟨u, hu, hr⟩ := hl.get (j := fd.offset) (x := cs.getD fd.offset (.bool false)) (by rw [List.getD, List.getElem?_eq_getElem (by omega)]; rfl)
        refine ⟨u, ?_, hr⟩
        simp [execOp, ho, e, Instr.field, run_underlying hs1, hfd, asAgg, part, run_agg hag, hu]
    · cases h
  · cases h

/-- Loading some cells. -/
theorem run_ld {t : TypeId} {sz : Nat} {ag : Bool} (hsz : sizeB P t sz = true) (hag : aggB P t ag = true) (h1z : ag = false → sz = 1) {b i : Nat} {cs : List PV} (h : PRepC w U b i cs) (hl : cs.length = sz) :
    ∃ v, (Instr.loadAt t (.pointer (some ⟨b, i, none⟩))).run P w = .ok v w ∧ PRep w U (if ag then .agg cs else cs.getD 0 (.bool false)) v := by
  obtain ⟨vs, hv, h1, hc⟩ := h.vals
  have hlv := hv.length
  cases ag with
  | true =>
    refine ⟨.agg vs.toArray, ?_, vs, rfl, hv⟩
    have hld := run_loadCells_list (P := P) (w := w) ⟨b, i, none⟩ vs (fun j v hj => by rw [addr_addA]; exact hc j v hj)
    simp only [Instr.loadAt, Instr.sureAddr, loadVar, Sem.run_bind, Sem.run_pure, Result.andThen_ok, run_agg hag, if_true, run_size hsz]
    rw [← hl, ← hlv, hld]
    rfl
  | false =>
    have := h1z rfl
    subst this
    obtain ⟨u, hu, hr⟩ := hv.get (j := 0) (x := cs.getD 0 (.bool false)) (by rw [List.getD, List.getElem?_eq_getElem (by omega)]; rfl)
    refine ⟨u, ?_, hr⟩
    have := hc 0 u hu
    rw [Nat.add_zero] at this
    simp [Instr.loadAt, Instr.sureAddr, loadVar, run_agg hag, this]

theorem PRepC.sub {b : Nat} {cs : List PV} {off : Nat} (h : PRepC w U b off cs) (n m : Nat) : PRepC w U b (off + n) ((cs.drop n).take m) := by
  have hd : ∀ (n : Nat) (cs : List PV) (off : Nat), PRepC w U b off cs → PRepC w U b (off + n) (cs.drop n) := by
    intro n
    induction n with
    | zero => intro cs off h; simpa using h
    | succ n ih =>
      intro cs off h
      cases cs with
      | nil => simp [PRepC]
      | cons a as => simp only [PRepC] at h; have := ih as (off + 1) h.2; rw [List.drop_succ_cons]; rwa [show off + 1 + n = off + (n + 1) from by omega] at this
  have ht : ∀ (m : Nat) (cs : List PV) (off : Nat), PRepC w U b off cs → PRepC w U b off (cs.take m) := by
    intro m
    induction m with
    | zero => intro cs off h; simp [PRepC]
    | succ m ih =>
      intro cs off h
      cases cs with
      | nil => simp [PRepC]
      | cons a as => simp only [PRepC] at h; rw [List.take_succ_cons]; simp only [PRepC]; exact ⟨h.1, ih as (off + 1) h.2⟩
  exact ht m _ _ (hd n cs off h)

theorem getD_sub (cs : List PV) (o : Nat) (d : PV) (h : o < cs.length) : ((cs.drop o).take 1).getD 0 d = cs.getD o d := by
  simp [List.getD, List.getElem?_drop]

/-- The cells of a row of one's own, in plain words. -/
theorem row_cells {X : Nat → Prop} (hs : Sim w X L ι) {k : Key} {es : List (List PV)} {e : TypeId} {z : Nat} {ap : Bool} (hl : Zah L k = some (.row es e z ap)) {b n c : Nat} (hi : ι k = .slice (some ⟨b, 0, none⟩) n c) :
    PRepE w (fun b => Own L ι b ∨ X b) b z 0 es := by
  obtain ⟨vs, hown, h1, hv, hz⟩ := hs.obj k _ hl
  have hc := hown.cells hi
  have key : ∀ (es : List (List PV)) (vs : List Value) (off : Nat), (∀ x ∈ es, x.length = z) → PRepL w (fun b => Own L ι b ∨ X b) es.flatten vs → (∀ v ∈ vs, v.oneCell' = true) → (∀ j u, vs[j]? = some u → w.cell? ⟨b, off + j, none⟩ = some u) → PRepE w (fun b => Own L ι b ∨ X b) b z off es := by
    intro es
    induction es with
    | nil => intros; simp [PRepE]
    | cons x r ih =>
      intro vs off hz hv h1 hc
      simp only [PRepE]
      have hx := hz x (by simp)
      simp only [List.flatten_cons] at hv
      have ha := hv.take x.length
      have hb := hv.drop x.length
      rw [List.take_left] at ha
      rw [List.drop_left] at hb
      refine ⟨hx, PRepC.of ha (fun v hv => h1 v (List.mem_of_mem_take hv)) (fun j u hu => hc j u (by rw [List.getElem?_take] at hu; split at hu; exact hu; cases hu)), ih _ (off + z) (fun y hy => hz y (by simp [hy])) hb (fun v hv => h1 v (List.mem_of_mem_drop hv)) (fun j u hu => ?_)⟩
      rw [List.getElem?_drop] at hu
      have := hc _ u hu
      rwa [hx, ← Nat.add_assoc] at this
  refine key es vs 0 hz hv h1 (fun j u hu => ?_)
  rw [Nat.zero_add]
  exact hc j u hu

theorem snd_ld {t : TypeId} {sz : Nat} {ag : Bool} {x : Operand} {x' : Opd} (ho : o.op = .load t x) (hsz : sizeB P t sz = true) (hag : aggB P t ag = true) (h1z : ag = false → sz = 1) (hx : okOpd x x' = true) {c : Prop} {r : AV}
    (h : Ze fr L (.ld sz ag x') = some (c, r)) : Val1 P o fr L c r := by
  have fin : ∀ (a : Act) (w : World) (v : Value) (pa : Value), a.eval x = pa → (Instr.loadAt t pa).run P w = .ok v w → (execOp a.eval o).run P w = .ok (.value v) w := by
    intro a w v pa e hr
    simp [execOp, ho, e, hr]
  simp only [Ze] at h
  split at h
  · rename_i cx z es i of ex
    split at h
    · rename_i hle
      simp only [Option.some.injEq, Prod.mk.injEq] at h
      obtain ⟨rfl, rfl⟩ := h
      refine Val1.same fun E B w ι a hs ⟨h1, hi⟩ => ?_
      obtain ⟨b, o1, e2, hb1, hb2, hE⟩ := rdA hs.2.1 hx ex h1
      obtain ⟨g1, g2⟩ := hE.get (i := i) (e := es.getD i []) (by rw [List.getD, List.getElem?_eq_getElem hi]; rfl)
      generalize es.getD i [] = el at *
      obtain ⟨v, hr, hv⟩ := run_ld hsz hag h1z (g2.sub of sz) (by simp; omega)
      refine ⟨v, fin a w v _ e2 hr, ?_⟩
      cases ag with
      | true => exact hv
      | false => have := h1z rfl; subst this; rw [if_neg (by simp), getD_sub _ _ _ (by omega)] at hv; exact hv
    · cases h
  · rename_i cx k z i of ex
    split at h
    · rename_i es et z' ap hl
      split at h
      · rename_i hle
        obtain ⟨rfl, hle⟩ := hle
        simp only [Option.some.injEq, Prod.mk.injEq] at h
        obtain ⟨rfl, rfl⟩ := h
        refine Val1.same fun E B w ι a hs ⟨h1, hi⟩ => ?_
        obtain ⟨b, n, cp, e1, e2⟩ := rdA hs.2.1 hx ex h1
        have hE := row_cells hs.1.sim hl e1
        obtain ⟨g1, g2⟩ := hE.get (i := i) (e := es.getD i []) (by rw [List.getD, List.getElem?_eq_getElem hi]; rfl)
        generalize es.getD i [] = el at *
        obtain ⟨v, hr, hv⟩ := run_ld hsz hag h1z (g2.sub of sz) (by simp; omega)
        rw [Nat.zero_add] at hr
        refine ⟨v, fin a w v _ e2 hr, ?_⟩
        cases ag with
        | true => exact hv
        | false => have := h1z rfl; subst this; rw [if_neg (by simp), getD_sub _ _ _ (by omega)] at hv; exact hv
      · cases h
    · cases h
  · rename_i cx k of ex
    split at h
    · rename_i cs bt hl
      split at h
      · rename_i hle
        cases ag with
        | true =>
          simp only [if_true] at h
          obtain ⟨l, el, e3⟩ := Option.map_eq_some_iff.1 h
          simp only [Prod.mk.injEq] at e3
          obtain ⟨rfl, rfl⟩ := e3
          refine Val1.same fun E B w ι a hs h1 => ?_
          obtain ⟨b, e1, e2⟩ := rdA hs.2.1 hx ex h1
          obtain ⟨b', vs, e4, hb, hlen, h1c, hcs⟩ := hs.1.sim.obj k _ hl
          rw [e1] at e4
          simp only [Value.pointer.injEq, Option.some.injEq, Addr.mk.injEq, and_true] at e4
          subst e4
          have hall : ∀ (as : List AV) (l : List PV), Zw as = some l → as = l.map .p := by
            intro as
            induction as with
            | nil => intro l h; simp only [Zw, Option.some.injEq] at h; subst h; rfl
            | cons q as ih =>
              intro l h
              cases q with
              | p x => simp only [Zw] at h; obtain ⟨l', h1, rfl⟩ := Option.map_eq_some_iff.1 h; simp [ih l' h1]
              | _ => simp [Zw] at h
          have hm := hall _ _ el
          have hll : l.length = sz := by have := congrArg List.length hm; simp at this; omega
          have hC : PRepC w (fun b => Own L ι b ∨ B.X b) b of l := by
            refine PRepC.of (vs := (vs.drop of).take sz) (PRepL.of_get (by simp; omega) (fun j x v hx' hv' => ?_)) (fun v hv => h1c v (List.mem_of_mem_drop (List.mem_of_mem_take hv))) (fun j v hv => ?_)
            · have hj : j < sz := by rw [← hll]; exact (List.getElem?_eq_some_iff.1 hx').1
              have e5 : ((cs.drop of).take sz)[j]? = some (.p x) := by rw [hm, List.getElem?_map, hx']; rfl
              rw [List.getElem?_take, if_pos hj, List.getElem?_drop] at e5 hv'
              obtain ⟨u, hu, hr⟩ := hcs _ _ e5
              rw [hu] at hv'
              cases hv'
              exact hr
            · rw [List.getElem?_take] at hv
              split at hv
              · rw [List.getElem?_drop] at hv
                rw [cell_of_row w b (of + j) _ _ _ hb]
                simpa using hv
              · cases hv
          obtain ⟨v, hr, hv⟩ := run_ld hsz hag h1z hC hll
          exact ⟨v, fin a w v _ e2 hr, hv⟩
        | false =>
          simp only [Bool.false_eq_true, if_false, Option.some.injEq, Prod.mk.injEq] at h
          obtain ⟨rfl, rfl⟩ := h
          have := h1z rfl
          subst this
          refine Val1.same fun E B w ι a hs h1 => ?_
          obtain ⟨b, e1, e2⟩ := rdA hs.2.1 hx ex h1
          obtain ⟨b', vs, e4, hb, hlen, h1c, hcs⟩ := hs.1.sim.obj k _ hl
          rw [e1] at e4
          simp only [Value.pointer.injEq, Option.some.injEq, Addr.mk.injEq, and_true] at e4
          subst e4
          obtain ⟨u, hu, hr⟩ := hcs of (cs.getD of .any) (by rw [List.getD, List.getElem?_eq_getElem (by omega)]; rfl)
          refine ⟨u, fin a w u _ e2 ?_, hr⟩
          have hc : w.cell? ⟨b, of, none⟩ = some u := by rw [cell_of_row w b of _ _ _ hb]; simpa using hu
          simp [Instr.loadAt, Instr.sureAddr, loadVar, run_agg hag, hc]
      · cases h
    · cases h
  · cases h
end
end Go.Proofs.YtpddiepfolfnoaaDoor
