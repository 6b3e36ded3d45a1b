/- Maps whose keys are strings: their operations, and that their meaning is right. -/
import Derived.Test.YtpddiepfolfnoaaDoorA14
import Derived.MapKept
namespace Go.Proofs.YtpddiepfolfnoaaDoor
set_option linter.unusedVariables false
set_option linter.unusedSimpArgs false
set_option linter.defProp false

section
variable {P : Program} {L : Objs} {fr : List AV} {o : Oper} {w : World} {U : Nat → Prop} {ι : Key → Value}

theorem key_beq (a b : List UInt8) : ((⟨a.toArray⟩ : ByteArray) == ⟨b.toArray⟩) = decide (b = a) := by
  rw [Bool.eq_iff_iff, MapKept.bytes_beq, decide_eq_true_iff]
  constructor
  · intro h
    have : a.toArray = b.toArray := congrArg ByteArray.data h
    have : a = b := by simpa using congrArg Array.toList this
    exact this.symm
  · rintro rfl; rfl
/-- What the model's search finds. -/
theorem find_str (s : List UInt8) (v : PV) : ∀ (kv : List (List UInt8 × PV)) (ents : List MapEntry) (i : Nat), (ents.map (·.key) = kv.map fun p => .string ⟨p.1.toArray⟩) →
    (mpF kv s = none ∧ Instr.findNow .string (.string ⟨s.toArray⟩) ents i = some none ∧ mpS kv s v = kv ++ [(s, v)]) ∨
    ∃ j e x, mpF kv s = some x ∧ Instr.findNow .string (.string ⟨s.toArray⟩) ents i = some (some (i + j, e.val)) ∧ ents[j]? = some e ∧ kv[j]? = some (s, x) ∧ e.key = .string ⟨s.toArray⟩ ∧ mpS kv s v = kv.set j (s, v)
  | [], ents, i, h => by
    have : ents = [] := by simpa using h
    subst this
    exact .inl ⟨rfl, rfl, rfl⟩
  | p :: r, [], i, h => by simp at h
  | p :: r, e :: es, i, h => by
    simp only [List.map_cons, List.cons.injEq] at h
    obtain ⟨h1, h2⟩ := h
    have hs : Instr.sameNow .string (.string ⟨s.toArray⟩) e.key = some (decide (p.1 = s)) := by rw [h1]; simp only [Instr.sameNow, key_beq]
    by_cases hp : p.1 = s
    · refine .inr ⟨0, e, p.2, by simp [mpF, hp], ?_, rfl, by simp [← hp], by rw [h1, hp], by simp [mpS, hp]⟩
      simp [Instr.findNow, hs, hp]
    · have hf : Instr.findNow .string (.string ⟨s.toArray⟩) (e :: es) i = Instr.findNow .string (.string ⟨s.toArray⟩) es (i + 1) := by simp [Instr.findNow, hs, hp]
      rcases find_str s v r es (i + 1) h2 with ⟨g1, g2, g3⟩ | ⟨j, e', x, g1, g2, g3, g4, g5, g6⟩
      · exact .inl ⟨by simp [mpF, hp, g1], by rw [hf, g2], by simp [mpS, hp, g3]⟩
      · exact .inr ⟨j + 1, e', x, by simp [mpF, hp, g1], by rw [hf, g2, show i + 1 + j = i + (j + 1) from by omega], by simpa using g3, by simpa using g4, g5, by simp [mpS, hp, g6]⟩

theorem run_find {kt : TypeId} (hk : P.underlying kt = some .string) {x : Value} {ents : List MapEntry} {r : Option (Nat × Value)} (h : Instr.findNow .string x ents 0 = some r) : (Instr.findKey kt x ents).run P w = .ok r w := by
  simp [Instr.findKey, run_underlying hk, h]
theorem run_check {kt : TypeId} (hk : P.underlying kt = some .string) (s : ByteArray) (e : Bool) : (Instr.checkKey e 10000 kt (.string s)).run P w = .ok () w :=
  MapKept.run_checkKey hk (by simp [MapKept.IsKey]) e 9999
def zero1B (P : Program) (t : TypeId) (z : PV) : Bool :=
  match (P.info? t).bind (·.zero) with
  | some v => okVal v z
  | none => false
theorem run_zero1 {t : TypeId} {z : PV} (h : zero1B P t z = true) (w : World) : ∃ v, (zeroValue t).run P w = .ok v w ∧ okVal v z = true := by
  unfold zero1B at h
  split at h
  · rename_i z hz
    obtain ⟨i, h1, h2⟩ := Option.bind_eq_some_iff.1 hz
    exact ⟨z, by simp [zeroValue, typeInfo, h1, h2], h⟩
  · cases h

theorem snd_mpl {t kt et : TypeId} {m x : Operand} {ok : Bool} {zero : PV} {m' x' : Opd} (ho : o.op = .lookup t m x ok) (ht : P.underlying t = some (.map kt et)) (hk : P.underlying kt = some .string) (hz : zero1B P et zero = true) (hm : okOpd m m' = true) (hx : okOpd x x' = true) {c : Prop} {r : AV}
    (h : Ze fr L (.mpl ok zero m' x') = some (c, r)) : Val1 P o fr L c r := by
  simp only [Ze] at h
  split at h
  · rename_i cm q cx s em ex
    split at h
    · rename_i kv kt0 et0 hl
      simp only [Option.some.injEq, Prod.mk.injEq] at h
      obtain ⟨rfl, rfl⟩ := h
      refine Val1.same fun E B w ι a hs ⟨h1, h2⟩ => ?_
      have rm : a.eval m = ι q := rdP hs.2.1 hm em h1
      have rx := PRep.str_eq (rdP hs.2.1 hx ex h2)
      obtain ⟨b, ents, cl, e1, e2, e3⟩ := hs.1.sim.obj _ _ hl
      rw [e1] at rm
      obtain ⟨zv, hz1, hz2⟩ := run_zero1 hz w
      have hzr := (okVal_rep hz2 w (fun b => Own L ι b ∨ B.X b)).1
      have key : ∃ v, (execOp a.eval o).run P w = .ok (.value (if ok then .tuple #[v, .bool (mpF kv s).isSome] else v)) w ∧ PRep w (fun b => Own L ι b ∨ B.X b) (mpD kv s zero) v := by
        rcases find_str s (.bool true) kv ents.toList 0 e3.1 with ⟨g1, g2, _⟩ | ⟨j, e, y, g1, g2, g3, g4, _, _⟩
        · refine ⟨zv, ?_, by rw [mpD, g1]; exact hzr⟩
          simp [execOp, ho, rm, rx, Instr.lookup, run_underlying ht, MapKept.run_getObj_map e2, run_check hk, run_find hk g2, hz1, g1]
        · have hv : PRep w (fun b => Own L ι b ∨ B.X b) y e.val := by
            obtain ⟨u, hu, hr⟩ := e3.2.get (j := j) (x := y) (by simp [g4])
            rw [List.getElem?_map, g3] at hu
            cases hu
            exact hr
          refine ⟨e.val, ?_, by rw [mpD, g1]; exact hv⟩
          simp [execOp, ho, rm, rx, Instr.lookup, run_underlying ht, MapKept.run_getObj_map e2, run_check hk, run_find hk g2, g1]
      obtain ⟨v, k1, k2⟩ := key
      refine ⟨_, k1, ?_⟩
      cases ok
      · exact k2
      · exact ⟨[v, .bool (mpF kv s).isSome], rfl, v, _, rfl, k2, _, _, rfl, rfl, rfl⟩
    · cases h
  · cases h

theorem snd_mpn {t kt et : TypeId} {x : Operand} {x' : Opd} (ho : o.op = .call { callee := .builtin .len, args := #[x], argTypes := #[t] }) (ht : P.underlying t = some (.map kt et)) (hx : okOpd x x' = true) {c : Prop} {r : AV}
    (h : Ze fr L (.mpn x') = some (c, r)) : Val1 P o fr L c r := by
  simp only [Ze] at h
  split at h
  · rename_i cm q em
    split at h
    · rename_i kv kt0 et0 hl
      simp only [Option.some.injEq, Prod.mk.injEq] at h
      obtain ⟨rfl, rfl⟩ := h
      refine Val1.same fun E B w ι a hs h1 => ⟨.int .i64 kv.length, ?_, rfl⟩
      have rm : a.eval x = ι q := rdP hs.2.1 hx em h1
      obtain ⟨b, ents, cl, e1, e2, e3⟩ := hs.1.sim.obj _ _ hl
      rw [e1] at rm
      have hlen : ents.size = kv.length := by
        have := congrArg List.length e3.1
        simpa using this
      rw [run_builtin _ _ _ a ho]
      simp [builtin, Builtin.len_, run_underlying ht, rm, goInt, MapKept.run_getObj_map e2, hlen]
    · cases h
  · cases h

theorem eff_mkm {t : TypeId} {d : Nat} {kt et : TypeId} (ho : o.op = .makeMap t none) (hd : o.dst = some d) : Eff1 P o fr L True ((fr.map (·.kill (.l d))).set d (.mp (.l d))) (Zak L (.l d) (.map [] kt et)) := by
  intro E B w ι a hs _
  refine eff_new hd hs (v := .map (some w.heap.size)) (w' := w.alloc (.map #[] 0)) ?_ (.map (some w.heap.size)) (grow_alloc _ _ _) (fun b e => by simp only [blk, Option.some.injEq] at e; omega) ⟨w.heap.size, #[], 0, by simp [updI], heap_alloc_new w _, by simp, by simp [PRepL]⟩ ?_
  · simp [execOp, ho, Instr.makeMap, newObj]
    rfl
  · simp [ARep, updI]

theorem eff_mpu {t kt et : TypeId} {m x v : Operand} {m' x' v' : Opd} (ho : o.op = .mapUpdate t m x v ∨ o.op = .insert t m x v) (hd : o.dst = none) (ht : P.underlying t = some (.map kt et)) (hk : P.underlying kt = some .string) (hm : okOpd m m' = true) (hx : okOpd x x' = true) (hv : okOpd v v' = true)
    {cm cx cv : Prop} {q : Key} {s : List UInt8} {y : PV} {kv : List (List UInt8 × PV)} {kt0 et0 : TypeId} (em : (rd fr m').un = (cm, .mp q)) (ex : (rd fr x').un = (cx, .p (.str s))) (ev : (rd fr v').un = (cv, .p y)) (hl : Zah L q = some (.map kv kt0 et0)) :
    Eff1 P o fr L (cm ∧ cx ∧ cv) fr (Zai L q (.map (mpS kv s y) kt0 et0)) := by
  intro E B w ι a hs ⟨h1, h2, h3⟩
  have rm : a.eval m = ι q := rdP hs.2.1 hm em h1
  have rx := PRep.str_eq (rdP hs.2.1 hx ex h2)
  have rv : PRep w (fun b => Own L ι b ∨ B.X b) y (a.eval v) := rdP hs.2.1 hv ev h3
  obtain ⟨b, ents, cl, e1, e2, e3⟩ := hs.1.sim.obj _ _ hl
  rw [e1] at rm
  have hb : b < w.heap.size := (Array.getElem?_eq_some_iff.1 e2).1
  -- the new block
  have key : ∃ ents' cl', (execOp a.eval o).run P w = .ok .skip { w with heap := w.heap.setIfInBounds b (.map ents' cl') } ∧ MapRep w (fun b => Own L ι b ∨ B.X b) (mpS kv s y) ents'.toList := by
    rcases find_str s y kv ents.toList 0 e3.1 with ⟨g1, g2, g3⟩ | ⟨j, e, y0, g1, g2, g3, g4, g5, g6⟩
    · refine ⟨ents.push ⟨.string ⟨s.toArray⟩, a.eval v, cl⟩, cl + 1, ?_, ?_⟩
      · rcases ho with ho | ho <;> simp [execOp, ho, rm, rx, Instr.mapUpdate, run_underlying ht, MapKept.run_getObj_map e2, run_check hk, run_find hk g2, MapKept.run_setObj_map _ e2]
      · rw [g3]
        refine ⟨by simp [e3.1], ?_⟩
        simp only [Array.toList_push, List.map_append, List.map_cons, List.map_nil]
        exact e3.2.append ⟨_, _, rfl, rv, rfl⟩
    · have hj : ents[j]? = some e := by simpa using g3
      have hjl : j < ents.toList.length := (List.getElem?_eq_some_iff.1 g3).1
      refine ⟨ents.modify j (fun e' => { e' with key := .string ⟨s.toArray⟩, val := a.eval v }), cl, ?_, ?_⟩
      · have hst : (Instr.keyThatStays (.string ⟨s.toArray⟩) (.string ⟨s.toArray⟩)).run P w = .ok (.string ⟨s.toArray⟩) w := by simp [Instr.keyThatStays, Instr.sameBits, key_beq]
        rcases ho with ho | ho <;> simp [execOp, ho, rm, rx, Instr.mapUpdate, run_underlying ht, MapKept.run_getObj_map e2, run_check hk, run_find hk g2, hj, g5, hst, MapKept.run_setObj_map _ e2]
      · have hlist : (ents.modify j (fun e' => { e' with key := .string ⟨s.toArray⟩, val := a.eval v })).toList = ents.toList.set j { e with key := .string ⟨s.toArray⟩, val := a.eval v } := by
          rw [Array.toList_modify]
          apply List.ext_getElem?
          intro i
          rw [List.getElem?_modify, List.getElem?_set]
          by_cases hi : j = i
          · subst hi
            simp [hj, hjl]
            exact (Array.getElem?_eq_some_iff.1 hj).1
          · simp [hi]
        rw [hlist, g6]
        refine ⟨?_, ?_⟩
        · rw [List.map_set, List.map_set, e3.1]
        · rw [List.map_set, List.map_set]
          exact e3.2.set j rv
  obtain ⟨ents', cl', hrun, hrep⟩ := key
  have hG : Grow w { w with heap := w.heap.setIfInBounds b (.map ents' cl') } (Old L ι q) := by
    refine ⟨rfl, rfl, rfl, by simp, fun c hc hn => ?_⟩
    have hne : b ≠ c := fun e => hn ⟨_, hl, by rw [e1, e]; rfl⟩
    simp [Array.getElem?_setIfInBounds_ne hne]
  have hown : ∀ c, Own (Zai L q (.map (mpS kv s y) kt0 et0)) ι c → Own L ι c := by
    rintro c ⟨j, ao, k1, k2⟩
    rw [look_putO] at k1
    by_cases e : j = q
    · subst e; exact ⟨j, _, hl, k2⟩
    · rw [if_neg e] at k1; exact ⟨j, ao, k1, k2⟩
  have hkp : Keeps w { w with heap := w.heap.setIfInBounds b (.map ents' cl') } (fun c => Own L ι c ∨ B.X c) (fun c => Own (Zai L q (.map (mpS kv s y) kt0 et0)) ι c ∨ B.X c) := fun c hc hu => ⟨hG.block c hc (fun h => hu (.inl h.own)), fun h => hu (h.imp (hown c) id)⟩
  have hwr := hs.wr q (.map kv kt0 et0) (.map (mpS kv s y) kt0 et0) hl hG ⟨b, ents', cl', e1, by simp [hb], hrep.1, PRepL.mono hkp _ _ hrep.2⟩
  exact ⟨undef, .skip, _, ι, hrun, .inr ⟨rfl, rfl⟩, by rw [hd]; exact hwr⟩
end
end Go.Proofs.YtpddiepfolfnoaaDoor
