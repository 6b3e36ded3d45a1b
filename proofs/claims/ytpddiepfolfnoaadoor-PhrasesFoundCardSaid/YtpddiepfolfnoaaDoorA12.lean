/- Operations that change the owned objects: their meaning, and that it is right. -/
import Derived.Test.YtpddiepfolfnoaaDoorA11
import Derived.Maps.AppendAt
import Derived.Laws.MakeOwn
import Derived.Lib.ConvBytes
namespace Go.Proofs.YtpddiepfolfnoaaDoor
set_option linter.unusedVariables false
set_option linter.unusedSimpArgs false
set_option linter.defProp false

def AV.thaw (k : Key) (z : Nat) (es : List (List PV)) : AV → AV
  | .row k' => if k' = k then .p (.sl z es) else .row k'
  | .rad k' z' i o => if k' = k then (if z' = z then .ipt z es i o else .any) else .rad k' z' i o
  | .g c a => .g c (a.thaw k z es)
  | .adr k' o => if k' = k then .any else .adr k' o
  | .mp k' => if k' = k then .any else .mp k'
  | .fn f ks => if k ∈ ks then .any else .fn f ks
  | .p x => .p x
  | .ipt z es i o => .ipt z es i o
  | .any => .any
def AO.thaw (k : Key) (z : Nat) (es : List (List PV)) : AO → AO
  | .box cs t => .box (cs.map (·.thaw k z es)) t
  | .row es e z ap => .row es e z ap
  | .map kv a b => .map kv a b
def Zal (k : Key) (z : Nat) (es : List (List PV)) : Objs → Objs
  | [] => []
  | (k', a) :: r => if k' = k then Zal k z es r else (k', a.thaw k z es) :: Zal k z es r
theorem look_thawO (k : Key) (z : Nat) (es : List (List PV)) (L : Objs) (j : Key) : Zah (Zal k z es L) j = if j = k then none else (Zah L j).map (AO.thaw k z es) := by
  induction L with
  | nil => simp [Zal, Zah]
  | cons x r ih =>
    obtain ⟨k', q⟩ := x
    simp only [Zal]
    by_cases h : k' = k
    · subst h; rw [if_pos rfl, ih]; simp only [Zah]; by_cases hj : j = k'
      · simp [hj]
      · rw [if_neg hj, if_neg (Ne.symm hj), if_neg hj]
    · rw [if_neg h]; simp only [Zah, ih]
      by_cases hj : k' = j
      · subst hj; simp [h]
      · simp [hj]

section
variable {P : Program} {E : Envt} {B : Base} {w w' : World} {L : Objs} {ι : Key → Value} {fr : List AV} {a : Act} {X : Nat → Prop} {o : Oper}

theorem ARep.thaw {U U' : Nat → Prop} {k : Key} {z : Nat} {es : List (List PV)} {e : TypeId} {ap : Bool} (hk : Keeps w w U U') (hrow : ∃ vs, RowOk w e z ap (ι k) es.length vs) (hcells : ∀ b n c, ι k = .slice (some ⟨b, 0, none⟩) n c → b < w.heap.size ∧ ¬ U' b ∧ PRepE w U' b z 0 es) :
    ∀ {x : AV} {u : Value}, ARep w U ι x u → ARep w U' ι (x.thaw k z es) u
  | .p x, u, h => PRep.mono hk x u h
  | .row k', u, h => by
    simp only [AV.thaw]; split
    · rename_i e1
      subst e1
      obtain ⟨vs, hown⟩ := hrow
      rcases hown.2 with ⟨g1, g2⟩ | ⟨g, cap, cur, fz, g1, _, g3, _⟩
      · refine ⟨none, 0, by rw [h.1, g1, g2], by omega, fun hne => absurd (List.eq_nil_of_length_eq_zero g2) hne⟩
      · exact ⟨_, cap, by rw [h.1, g1], g3, fun _ => ⟨g, 0, rfl, hcells g _ _ g1⟩⟩
    · exact h
  | .adr k' o, u, h => by
    simp only [AV.thaw]; split
    · trivial
    · exact h
  | .rad k' z' i o, u, h => by
    simp only [AV.thaw]; split
    · split
      · rename_i e1 e2
        subst e1; subst e2
        obtain ⟨b, n, c, h1, h2⟩ := h
        obtain ⟨g1, g2, g3⟩ := hcells b n c h1
        exact ⟨b, 0, by rw [h2, Nat.zero_add], g1, g2, g3⟩
      · trivial
    · exact h
  | .ipt z es i o, u, h => by
    obtain ⟨b, o', e, hb, hu, hE⟩ := h
    exact ⟨b, o', e, hk.lt hb hu, (hk b hb hu).2, PRepE.mono hk b hb hu z es o' hE⟩
  | .mp k', u, h => by
    simp only [AV.thaw]; split
    · trivial
    · exact h
  | .fn f ks, u, h => by
    simp only [AV.thaw]; split
    · trivial
    · exact h
  | .g c a, u, h => ⟨fun hc => ARep.thaw hk hrow hcells (x := a) (h.1 hc), h.2⟩
  | .any, u, h => trivial

/-- A row is given up: from now on it is a plain slice. -/
theorem StF.thaw (hs : StF E B w L ι fr a) {k : Key} {es : List (List PV)} {e : TypeId} {z : Nat} {ap : Bool} (hl : Zah L k = some (.row es e z ap)) : StF E B w (Zal k z es L) ι (fr.map (·.thaw k z es)) a := by
  obtain ⟨h, hf, hd⟩ := hs
  have hown : ∀ b, Own (Zal k z es L) ι b → Own L ι b := by
    rintro b ⟨j, q, h1, h2⟩
    rw [look_thawO] at h1
    by_cases e : j = k
    · rw [if_pos e] at h1; cases h1
    · rw [if_neg e] at h1
      obtain ⟨q', h3, _⟩ := Option.map_eq_some_iff.1 h1
      exact ⟨j, q', h3, h2⟩
  have hk : Keeps w w (fun b => Own L ι b ∨ B.X b) (fun b => Own (Zal k z es L) ι b ∨ B.X b) := fun b _ hu => ⟨rfl, fun h => hu (h.imp (hown b) id)⟩
  obtain ⟨vs, hrow, _⟩ := h.sim.obj k _ hl
  have hcells : ∀ b n c, ι k = .slice (some ⟨b, 0, none⟩) n c → b < w.heap.size ∧ ¬ (Own (Zal k z es L) ι b ∨ B.X b) ∧ PRepE w (fun b => Own (Zal k z es L) ι b ∨ B.X b) b z 0 es := by
    intro b n c hi
    have hb : blk (ι k) = some b := by rw [hi]; rfl
    have hOb : Own L ι b := ⟨k, _, hl, hb⟩
    have hlt := sim_own_lt h.sim hOb
    have hE := row_cells h.sim hl hi
    have hnot : ¬ (Own (Zal k z es L) ι b ∨ B.X b) := by
      rintro (⟨j, q, h1, h2⟩ | hx)
      · rw [look_thawO] at h1
        by_cases e : j = k
        · rw [if_pos e] at h1; cases h1
        · rw [if_neg e] at h1
          obtain ⟨q', h3, _⟩ := Option.map_eq_some_iff.1 h1
          exact e (h.sim.inj j k q' _ b h3 hl h2 hb)
      · rcases h.own b hOb with h' | h'
        · exact h.xdis b hx h'
        · have := h.xlt b hx; omega
    refine ⟨hlt, hnot, ?_⟩
    -- the cells lie in the row's own block; what they hold reads on
    have key : ∀ (es' : List (List PV)) (off : Nat), PRepE w (fun b => Own L ι b ∨ B.X b) b z off es' → PRepE w (fun b => Own (Zal k z es L) ι b ∨ B.X b) b z off es' := by
      intro es'
      induction es' with
      | nil => intro off _; simp [PRepE]
      | cons x r ih =>
        intro off hh
        simp only [PRepE] at hh ⊢
        refine ⟨hh.1, ?_, ih _ hh.2.2⟩
        obtain ⟨us, a1, a2, a3⟩ := hh.2.1.vals
        exact PRepC.of (PRepL.mono hk _ _ a1) a2 a3
    exact key es 0 hE
  have hth := fun {x : AV} {u : Value} => ARep.thaw (x := x) (u := u) hk ⟨vs, hrow⟩ hcells
  refine ⟨⟨h.grow, ⟨fun j q hj => ?_, fun j j' q q' b hj hj' hbj hbj' => ?_⟩, fun b hb => h.own b (hown b hb), h.xlt, fun j h0 h1 => ?_, h.env, h.envb, h.loc, h.xdis⟩, ⟨by simpa using hf.1, fun i x hx => ?_⟩, hd⟩
  · rw [look_thawO] at hj
    by_cases e : j = k
    · rw [if_pos e] at hj; cases hj
    · rw [if_neg e] at hj
      obtain ⟨q', h1, rfl⟩ := Option.map_eq_some_iff.1 hj
      have ho := h.sim.obj j q' h1
      cases q' with
      | box cs t =>
        obtain ⟨b, vs, e1, e2, e3, e4, e5⟩ := ho
        refine ⟨b, vs, e1, e2, by simpa using e3, e4, fun i x hx => ?_⟩
        rw [List.getElem?_map, Option.map_eq_some_iff] at hx
        obtain ⟨y, hy, rfl⟩ := hx
        obtain ⟨u, hu, hr⟩ := e5 i y hy
        exact ⟨u, hu, hth hr⟩
      | row es' e' z' ap' =>
        obtain ⟨vs, hown', e4, e5, e6⟩ := ho
        exact ⟨vs, hown', e4, PRepL.mono hk _ _ e5, e6⟩
      | map kv x y =>
        obtain ⟨r, ents, cl, e1, e2, e3⟩ := ho
        exact ⟨r, ents, cl, e1, e2, e3.1, PRepL.mono hk _ _ e3.2⟩
  · rw [look_thawO] at hj hj'
    by_cases e : j = k
    · rw [if_pos e] at hj; cases hj
    by_cases e' : j' = k
    · rw [if_pos e'] at hj'; cases hj'
    rw [if_neg e] at hj
    rw [if_neg e'] at hj'
    obtain ⟨q1, h1, _⟩ := Option.map_eq_some_iff.1 hj
    obtain ⟨q2, h2, _⟩ := Option.map_eq_some_iff.1 hj'
    exact h.sim.inj j j' q1 q2 b h1 h2 hbj hbj'
  · rw [look_thawO] at h1
    by_cases e : j = k
    · rw [if_pos e] at h1; cases h1
    · rw [if_neg e] at h1
      exact h.keep j h0 (by simpa using h1)
  · rw [List.getElem?_map, Option.map_eq_some_iff] at hx
    obtain ⟨y, hy, rfl⟩ := hx
    obtain ⟨u, hu, hr⟩ := hf.2 i y hy
    exact ⟨u, hu, hth hr⟩

/-- One operation: what must hold, and the slots and objects behind it. -/
def Eff1 (P : Program) (o : Oper) (fr : List AV) (L : Objs) (c : Prop) (fr' : List AV) (L' : Objs) : Prop :=
  ∀ (E : Envt) (B : Base) (w : World) (ι : Key → Value) (a : Act), StF E B w L ι fr a → c →
    ∃ v nx w' ι', (execOp a.eval o).run P w = .ok nx w' ∧ (nx = .value v ∨ (nx = .skip ∧ v = undef)) ∧ StF E B w' L' ι' fr' (a.put o.dst v)

theorem Act.put_defers' (a : Act) (d : Option Tmp) (v : Value) : (a.put d v).defers = a.defers := by cases d <;> rfl

theorem Val1.eff {d : Nat} {c : Prop} {r : AV} (h : Val1 P o fr L c r) (hd : o.dst = some d) : Eff1 P o fr L c (fr.set d r) L := by
  intro E B w ι a hs hc
  obtain ⟨v, w', e, hG, hr⟩ := h E B w ι a hs hc
  have hs' := hs.grown hG
  exact ⟨v, _, w', ι, e, .inl rfl, hs'.1, by rw [hd]; exact hs'.2.1.put d hr, by rw [Act.put_defers']; exact hs'.2.2⟩
theorem Val1.eff0 {c : Prop} {r : AV} (h : Val1 P o fr L c r) (hd : o.dst = none) : Eff1 P o fr L c fr L := by
  intro E B w ι a hs hc
  obtain ⟨v, w', e, hG, hr⟩ := h E B w ι a hs hc
  have hs' := hs.grown hG
  exact ⟨v, _, w', ι, e, .inl rfl, by rw [hd]; exact hs'⟩

/-- A value of the call's own new object in its slot. -/
theorem eff_new {d : Nat} (hd : o.dst = some d) (hs : StF E B w L ι fr a) {v : Value} {ao : AO} {r : AV} (hrun : (execOp a.eval o).run P w = .ok (.value v) w') (vo : Value) (hG : Grow w w' (Old L ι (.l d))) (hb : ∀ b, blk vo = some b → w.heap.size ≤ b ∨ Old L ι (.l d) b)
    (hobj : ObjOk w' (fun b => Own (Zak L (.l d) ao) (updI ι (.l d) vo) b ∨ B.X b) (updI ι (.l d) vo) (.l d) ao) (hr : ARep w' (fun b => Own (Zak L (.l d) ao) (updI ι (.l d) vo) b ∨ B.X b) (updI ι (.l d) vo) r v) :
    ∃ v nx w' ι', (execOp a.eval o).run P w = .ok nx w' ∧ (nx = .value v ∨ (nx = .skip ∧ v = undef)) ∧ StF E B w' (Zak L (.l d) ao) ι' ((fr.map (·.kill (.l d))).set d r) (a.put o.dst v) := by
  have h1 := hs.upd d vo ao hG hb hobj
  exact ⟨v, _, w', _, hrun, .inl rfl, h1.1, by rw [hd]; exact h1.2.1.put d hr, by rw [Act.put_defers']; exact h1.2.2⟩

theorem grow_any {O : Nat → Prop} (h : Grow w w' (fun _ => False)) : Grow w w' O := ⟨h.os, h.tape, h.output, h.size, fun b hb _ => h.block b hb (fun h => h)⟩

theorem eff_nilr {d e z : Nat} {x : Operand} (ho : o.op = .move x ∨ o.op = .assign x) (hx : okOpd x (.c (.nl z)) = true) (hd : o.dst = some d) : Eff1 P o fr L True ((fr.map (·.kill (.l d))).set d (.row (.l d))) (Zak L (.l d) (.row [] e z true)) := by
  intro E B w ι a hs _
  have hv : a.eval x = .slice none 0 0 := rdOk hs.2.1 hx
  refine eff_new hd hs (v := .slice none 0 0) (w' := w) ?_ (.slice none 0 0) (Grow.refl _ _) (by simp [blk]) ⟨[], ?_, by simp, by simp [PRepL], by simp⟩ ⟨by simp [updI], none, 0, 0, rfl⟩
  · rcases ho with ho | ho <;> simp [execOp, ho, hv]
  · exact ⟨by simp, .inl ⟨by simp [updI], rfl⟩⟩

theorem newVar_run {t : TypeId} {vs : List Value} (w : World) : (newRow t vs.toArray).run P w = .ok ⟨w.heap.size, 0, none⟩ (w.alloc (.cells vs.toArray t)) := by
  simp [newRow, newObj]
  rfl

/-- A new variable in memory. -/
theorem eff_box' {d : Nat} {t : TypeId} (hd : o.dst = some d) (hs : StF E B w L ι fr a) {vs : List Value} {cs : List AV} (hl : vs.length = cs.length) (h1 : ∀ v ∈ vs, v.oneCell' = true) (hr : ∀ (j : Nat) (x : AV), cs[j]? = some x → ∃ v, vs[j]? = some v ∧ ARep w (fun b => Own L ι b ∨ B.X b) ι x v)
    (hrun : (execOp a.eval o).run P w = .ok (.value (.pointer (some ⟨w.heap.size, 0, none⟩))) (w.alloc (.cells vs.toArray t))) :
    ∃ v nx w' ι', (execOp a.eval o).run P w = .ok nx w' ∧ (nx = .value v ∨ (nx = .skip ∧ v = undef)) ∧ StF E B w' (Zak L (.l d) (.box (cs.map (·.kill (.l d))) t)) ι' ((fr.map (·.kill (.l d))).set d (.adr (.l d) 0)) (a.put o.dst v) := by
  have hG : Grow w (w.alloc (.cells vs.toArray t)) (Old L ι (.l d)) := grow_alloc _ _ _
  have hb : ∀ b, blk (.pointer (some ⟨w.heap.size, 0, none⟩)) = some b → w.heap.size ≤ b ∨ Old L ι (.l d) b := fun b e => by simp only [blk, Option.some.injEq] at e; omega
  have hk := upd_keeps (X := B.X) (ao := .box (cs.map (·.kill (.l d))) t) (fun b hb => hs.1.x_lt hb) hG hb
  refine eff_new hd hs hrun (.pointer (some ⟨w.heap.size, 0, none⟩)) hG hb ⟨w.heap.size, vs, by simp [updI], heap_alloc_new w _, by simpa using hl, h1, fun j x hx => ?_⟩ ⟨w.heap.size, by simp [updI], rfl⟩
  rw [List.getElem?_map, Option.map_eq_some_iff] at hx
  obtain ⟨y, hy, rfl⟩ := hx
  obtain ⟨u, hu, hr'⟩ := hr j y hy
  exact ⟨u, hu, (hr'.kill (k := .l d) (v := .pointer (some ⟨w.heap.size, 0, none⟩))).mono hk⟩

theorem eff_alc {d : Nat} {t : TypeId} {zero : List PV} (ho : o.op = .alloc t) (hz : zeroB P t zero = true) (hd : o.dst = some d) : Eff1 P o fr L True ((fr.map (·.kill (.l d))).set d (.adr (.l d) 0)) (Zak L (.l d) (.box (zero.map .p) t)) := by
  intro E B w ι a hs _
  obtain ⟨zv, hz1, hz2⟩ := run_zero hz w
  obtain ⟨hzr, hzf⟩ := okVals_rep hz2 w (fun b => Own L ι b ∨ B.X b)
  have := eff_box' (P := P) (t := t) hd hs (vs := zv.cells.toList) (cs := zero.map .p) (by simpa using hzr.length) (hzr.oneCells hzf) (fun j x hx => by
    rw [List.getElem?_map, Option.map_eq_some_iff] at hx
    obtain ⟨y, hy, rfl⟩ := hx
    exact hzr.get hy) (by
    simp only [execOp, ho, Instr.alloc, Sem.run_bind, hz1, Result.andThen_ok, newVar]
    have := newVar_run (P := P) (t := t) (vs := zv.cells.toList) w
    rw [Array.toArray_toList] at this
    simp only [this, Result.andThen_ok, Array.toArray_toList]
    rfl)
  simpa [AV.kill, Function.comp_def] using this

theorem eff_boxp {d : Nat} {t : TypeId} {x : Operand} {x' : Opd} (ho : o.op = .box t x) (hx : okOpd x x' = true) (hd : o.dst = some d) {c : Prop} {v : PV} (e : (rd fr x').un = (c, .p v)) (hfl : Zz (Zy v) = true) :
    Eff1 P o fr L c ((fr.map (·.kill (.l d))).set d (.adr (.l d) 0)) (Zak L (.l d) (.box ((Zy v).map .p) t)) := by
  intro E B w ι a hs hc
  have hr : PRep w _ v (a.eval x) := rdP hs.2.1 hx e hc
  have hcl := hr.cells (flatL_notTup hfl)
  have := eff_box' (P := P) (t := t) hd hs (vs := (a.eval x).cells.toList) (cs := (Zy v).map .p) (by simpa using hcl.length) (hcl.oneCells hfl) (fun j y hy => by
    rw [List.getElem?_map, Option.map_eq_some_iff] at hy
    obtain ⟨q, hq, rfl⟩ := hy
    exact hcl.get hq) (by
    simp only [execOp, ho, Instr.box, Sem.run_bind, newVar]
    have := newVar_run (P := P) (t := t) (vs := (a.eval x).cells.toList) w
    rw [Array.toArray_toList] at this
    simp only [this, Result.andThen_ok, Array.toArray_toList]
    rfl)
  simpa [AV.kill, Function.comp_def] using this

theorem eff_boxr {d : Nat} {t : TypeId} {x : Operand} {x' : Opd} (ho : o.op = .box t x) (hx : okOpd x x' = true) (hd : o.dst = some d) {c : Prop} {k : Key} (e : (rd fr x').un = (c, .row k)) :
    Eff1 P o fr L c ((fr.map (·.kill (.l d))).set d (.adr (.l d) 0)) (Zak L (.l d) (.box [(AV.row k).kill (.l d)] t)) := by
  intro E B w ι a hs hc
  have hr : ARep w _ ι (.row k) (a.eval x) := rdP hs.2.1 hx e hc
  obtain ⟨A, n, cp, ev⟩ := hr.2
  refine eff_box' (t := t) hd hs (vs := [a.eval x]) (cs := [.row k]) rfl (by simp [ev, Value.oneCell']) (fun j y hy => ?_) (by
    simp only [execOp, ho, Instr.box, Sem.run_bind, newVar, ev, Value.cells]
    have := newVar_run (P := P) (t := t) (vs := [.slice A n cp]) w
    simp only [this, Result.andThen_ok]
    rfl)
  cases j with
  | zero => simp at hy; subst hy; exact ⟨_, rfl, hr⟩
  | succ j => simp at hy
end
end Go.Proofs.YtpddiepfolfnoaaDoor
