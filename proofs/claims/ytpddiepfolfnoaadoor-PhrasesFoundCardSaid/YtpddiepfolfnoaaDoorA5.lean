/- Meaning of small operations, continued: numbers, strings, slices, addresses. -/
import Derived.Test.YtpddiepfolfnoaaDoorA4
namespace Go.Proofs.YtpddiepfolfnoaaDoor
set_option linter.unusedVariables false
set_option linter.unusedSimpArgs false
set_option linter.defProp false

section
variable {P : Program} {L : Objs} {fr : List AV} {o : Oper} {w : World} {U : Nat → Prop} {ι : Key → Value}

theorem rdP {a : Act} (hf : FRep w U ι fr a) {o : Operand} {x : Opd} (h : okOpd o x = true) {c : Prop} {p : AV} (e : (rd fr x).un = (c, p)) (hc : c) : ARep w U ι p (a.eval o) := by
  have := (rdOk hf h).un
  rw [e] at this
  exact this hc
theorem ARep.ad {x : AV} {v : Value} (h : ARep w U ι x v) : ARep w U ι x.ad v := by
  unfold AV.ad
  split
  · rename_i cs
    obtain ⟨b, e, hb, hu, hc⟩ := h
    exact ⟨b, 0, by rw [e]; simp, hb, hu, by simp only [PRepE]; exact ⟨trivial, hc, trivial⟩⟩
  · exact h
/-- .. and as an address. -/
theorem rdA {a : Act} (hf : FRep w U ι fr a) {o : Operand} {x : Opd} (h : okOpd o x = true) {c : Prop} {p : AV} (e : (rd fr x).unA = (c, p)) (hc : c) : ARep w U ι p (a.eval o) := by
  have h1 : (rd fr x).un.1 = c := congrArg Prod.fst e
  have h2 : (rd fr x).un.2.ad = p := congrArg Prod.snd e
  rw [← h2]
  exact ((rdOk hf h).un (h1 ▸ hc)).ad

theorem snd_bin {op : BinOp} {t t' : TypeId} {x y : Operand} {x' y' : Opd} (ho : o.op = .binOp op t x y t') (hx : okOpd x x' = true) (hy : okOpd y y' = true) {c : Prop} {r : AV}
    (h : Ze fr L (.bin op x' y') = some (c, r)) : Val1 P o fr L c r := by
  simp only [Ze] at h
  split at h
  · rename_i cx p cy q ex ey
    obtain ⟨⟨c1, r1⟩, e1, e2⟩ := Option.map_eq_some_iff.1 h
    simp only [Prod.mk.injEq] at e2
    obtain ⟨rfl, rfl⟩ := e2
    refine Val1.same fun E B w ι a hs ⟨h1, h2, h3⟩ => ?_
    have rx : PRep _ _ p _ := rdP hs.2.1 hx ex h1
    have ry : PRep _ _ q _ := rdP hs.2.1 hy ey h2
    obtain ⟨rv, e, hr⟩ := binP_sound (P := P) (t := t) (x := x) (y := y) e1 rx ry h3
    refine ⟨rv, ?_, hr⟩
    simp only [execOp, ho, Sem.run_bind]
    simp only [Sem.run_bind] at e
    rw [e]
    rfl
  · cases h

theorem snd_bnb {op : BinOp} {t t' : TypeId} {x y : Operand} {x' y' : Opd} (ho : o.op = .binOp op t x y t') (ht : P.underlying t = some .bool) (hx : okOpd x x' = true) (hy : okOpd y y' = true) {c : Prop} {r : AV}
    (h : Ze fr L (.bnb op x' y') = some (c, r)) : Val1 P o fr L c r := by
  simp only [Ze] at h
  split at h
  · rename_i cx p cy q ex ey
    obtain ⟨⟨c1, r1⟩, e1, e2⟩ := Option.map_eq_some_iff.1 h
    simp only [Prod.mk.injEq] at e2
    obtain ⟨rfl, rfl⟩ := e2
    refine Val1.same fun E B w ι a hs ⟨h1, h2, h3⟩ => ?_
    have rx := PRep.bool_eq (rdP hs.2.1 hx ex h1)
    have ry := PRep.bool_eq (rdP hs.2.1 hy ey h2)
    cases op <;> simp only [Zr, Option.some.injEq, Prod.mk.injEq, reduceCtorEq] at e1
    all_goals
      obtain ⟨rfl, rfl⟩ := e1
      refine ⟨.bool _, ?_, rfl⟩
      simp only [execOp, ho, Sem.run_bind, rx, ry, run_guard (v := .bool p) (u := .bool q) (by simp) (by simp), Result.andThen_ok, binOp, run_equal_bool ht]
      rfl
  · cases h

theorem snd_not {t : TypeId} {x : Operand} {x' : Opd} (ho : o.op = .unOp .not t x) (hx : okOpd x x' = true) {c : Prop} {r : AV} (h : Ze fr L (.not x') = some (c, r)) : Val1 P o fr L c r := by
  simp only [Ze] at h
  split at h
  · rename_i cx b ex
    simp only [Option.some.injEq, Prod.mk.injEq] at h
    obtain ⟨rfl, rfl⟩ := h
    refine Val1.same fun E B w ι a hs h1 => ⟨.bool !b, ?_, rfl⟩
    have rx := PRep.bool_eq (rdP hs.2.1 hx ex h1)
    simp [execOp, ho, rx, Op.unary]
  · cases h

theorem snd_neg {t : TypeId} {x : Operand} {x' : Opd} (ho : o.op = .unOp .neg t x) (hx : okOpd x x' = true) {c : Prop} {r : AV} (h : Ze fr L (.neg x') = some (c, r)) : Val1 P o fr L c r := by
  simp only [Ze] at h
  split at h
  · rename_i cx n ex
    simp only [Option.some.injEq, Prod.mk.injEq] at h
    obtain ⟨rfl, rfl⟩ := h
    refine Val1.same fun E B w ι a hs ⟨h1, h2⟩ => ⟨.int .i64 (0 - n), ?_, rfl⟩
    have rx := PRep.int_eq (rdP hs.2.1 hx ex h1)
    have hw := wrap_in h2
    simp only [execOp, ho, rx, Op.unary, Op.intArith, hw, Sem.run_bind]
    rfl
  · cases h

theorem slOf_len {E : Envt} {B : Base} {a : Act} (hs : StF E B w L ι fr a) {x : AV} {v : Value} {q : Nat × List (List PV)} (e : Zv L x = some q) (h : ARep w (fun b => Own L ι b ∨ B.X b) ι x v) : ∃ A c, v = .slice A q.2.length c ∧ q.2.length ≤ c := by
  unfold Zv at e
  split at e
  · simp only [Option.some.injEq] at e
    subst e
    obtain ⟨A, c, e1, e2, _⟩ := h
    exact ⟨A, c, e1, e2⟩
  · simp only [Option.some.injEq] at e
    subst e
    exact ⟨none, 0, h, Nat.le_refl _⟩
  · rename_i k
    split at e
    · rename_i es e' z ap hl
      simp only [Option.some.injEq] at e
      subst e
      obtain ⟨vs, hown, _⟩ := hs.1.sim.obj k _ hl
      rw [h.1]
      rcases hown.2 with ⟨e1, e2⟩ | ⟨g, cap, cur, fz, e1, _, e3, _⟩
      · exact ⟨none, 0, by rw [e1, e2], by simp [e2]⟩
      · exact ⟨_, cap, e1, e3⟩
    · cases e
  · cases e

theorem run_builtin (b : Builtin) (args : Array Operand) (tys : Array TypeId) (a : Act) (ho : o.op = .call { callee := .builtin b, args := args, argTypes := tys }) :
    (execOp a.eval o).run P w = (builtin b tys o.type (args.map fun | .const _ => true | _ => false) (args.map a.eval)).run P w := by
  simp only [execOp, ho, resolve, Sem.run_bind, Sem.run_pure, Result.andThen_ok, invoke]
  rfl

theorem snd_len {t e : TypeId} {x : Operand} {x' : Opd} (ho : o.op = .call { callee := .builtin .len, args := #[x], argTypes := #[t] }) (ht : P.underlying t = some (.slice e)) (hx : okOpd x x' = true) {c : Prop} {r : AV}
    (h : Ze fr L (.len x') = some (c, r)) : Val1 P o fr L c r := by
  simp only [Ze] at h
  obtain ⟨q, e1, e2⟩ := Option.map_eq_some_iff.1 h
  simp only [Prod.mk.injEq] at e2
  obtain ⟨rfl, rfl⟩ := e2
  refine Val1.same fun E B w ι a hs h1 => ⟨.int .i64 q.2.length, ?_, rfl⟩
  obtain ⟨A, c, e3, _⟩ := slOf_len hs e1 ((rdOk hs.2.1 hx).un h1)
  rw [run_builtin _ _ _ a ho]
  simp [builtin, Builtin.len_, run_underlying ht, e3, goInt]

theorem snd_sln {t : TypeId} {x : Operand} {x' : Opd} (ho : o.op = .call { callee := .builtin .len, args := #[x], argTypes := #[t] }) (ht : P.underlying t = some .string) (hx : okOpd x x' = true) {c : Prop} {r : AV}
    (h : Ze fr L (.sln x') = some (c, r)) : Val1 P o fr L c r := by
  simp only [Ze] at h
  split at h
  · rename_i cx s ex
    simp only [Option.some.injEq, Prod.mk.injEq] at h
    obtain ⟨rfl, rfl⟩ := h
    refine Val1.same fun E B w ι a hs h1 => ⟨.int .i64 s.length, ?_, rfl⟩
    have rx := PRep.str_eq (rdP hs.2.1 hx ex h1)
    rw [run_builtin _ _ _ a ho]
    have hz : (⟨s.toArray⟩ : ByteArray).size = s.length := by simp [ByteArray.size]
    simp [builtin, Builtin.len_, run_underlying ht, rx, goInt, hz]
  · cases h

theorem snd_mx {ts : Array TypeId} {x y : Operand} {x' y' : Opd} (ho : o.op = .call { callee := .builtin .max, args := #[x, y], argTypes := ts }) (hx : okOpd x x' = true) (hy : okOpd y y' = true) {c : Prop} {r : AV}
    (h : Ze fr L (.mx x' y') = some (c, r)) : Val1 P o fr L c r := by
  simp only [Ze] at h
  split at h
  · rename_i cx p cy q ex ey
    simp only [Option.some.injEq, Prod.mk.injEq] at h
    obtain ⟨rfl, rfl⟩ := h
    refine Val1.same fun E B w ι a hs ⟨h1, h2⟩ => ⟨.int .i64 (max p q), ?_, rfl⟩
    have rx := PRep.int_eq (rdP hs.2.1 hx ex h1)
    have ry := PRep.int_eq (rdP hs.2.1 hy ey h2)
    rw [run_builtin _ _ _ a ho]
    have e : (if q > p then q else p) = max p q := by split <;> omega
    simp [builtin, Builtin.max_, Builtin.max2, rx, ry, e]
  · cases h

theorem snd_mn {ts : Array TypeId} {x y : Operand} {x' y' : Opd} (ho : o.op = .call { callee := .builtin .min, args := #[x, y], argTypes := ts }) (hx : okOpd x x' = true) (hy : okOpd y y' = true) {c : Prop} {r : AV}
    (h : Ze fr L (.mn x' y') = some (c, r)) : Val1 P o fr L c r := by
  simp only [Ze] at h
  split at h
  · rename_i cx p cy q ex ey
    simp only [Option.some.injEq, Prod.mk.injEq] at h
    obtain ⟨rfl, rfl⟩ := h
    refine Val1.same fun E B w ι a hs ⟨h1, h2⟩ => ⟨.int .i64 (min p q), ?_, rfl⟩
    have rx := PRep.int_eq (rdP hs.2.1 hx ex h1)
    have ry := PRep.int_eq (rdP hs.2.1 hy ey h2)
    rw [run_builtin _ _ _ a ho]
    have e : (if q < p then q else p) = min p q := by split <;> omega
    simp [builtin, Builtin.min_, Builtin.min2, rx, ry, e]
  · cases h

theorem snd_idx {t : TypeId} {x y : Operand} {x' y' : Opd} (ho : o.op = .index t x y) (ht : P.underlying t = some .string) (hx : okOpd x x' = true) (hy : okOpd y y' = true) {c : Prop} {r : AV}
    (h : Ze fr L (.idx x' y') = some (c, r)) : Val1 P o fr L c r := by
  simp only [Ze] at h
  split at h
  · rename_i cx s cy k n ex ey
    simp only [Option.some.injEq, Prod.mk.injEq] at h
    obtain ⟨rfl, rfl⟩ := h
    refine Val1.same fun E B w ι a hs ⟨h1, h2, h3, h4⟩ => ⟨.int .u8 ((s.getD n.toNat 0).toNat : Nat), ?_, rfl⟩
    have rx := PRep.str_eq (rdP hs.2.1 hx ex h1)
    have ry := PRep.int_eq (rdP hs.2.1 hy ey h2)
    have hlt : n.toNat < s.length := by omega
    simp only [execOp, ho, rx, ry, Instr.index, Sem.run_bind, asIntOf, Sem.run_pure, Result.andThen_ok, run_underlying ht, if_pos h3]
    have e : (⟨s.toArray⟩ : ByteArray)[n.toNat]? = some (s.getD n.toNat 0) := by
      rw [getElem?_pos _ _ (by simpa [ByteArray.size] using hlt)]
      simp [ByteArray.getElem_eq_getElem_data, List.getD, hlt]
    rw [e]
    rfl
  · cases h

theorem snd_ext {x : Operand} {x' : Opd} {i : Nat} (ho : o.op = .extract x i) (hx : okOpd x x' = true) {c : Prop} {r : AV} (h : Ze fr L (.ext i x') = some (c, r)) : Val1 P o fr L c r := by
  simp only [Ze] at h
  split at h
  · rename_i cx cs ex
    split at h
    · rename_i v hv
      simp only [Option.some.injEq, Prod.mk.injEq] at h
      obtain ⟨rfl, rfl⟩ := h
      refine Val1.same fun E B w ι a hs h1 => ?_
      obtain ⟨vs, e, hl⟩ := rdP hs.2.1 hx ex h1
      obtain ⟨u, hu, hr⟩ := hl.get hv
      refine ⟨u, ?_, hr⟩
      simp [execOp, ho, e, Instr.extract, hu]
    · cases h
  · cases h

theorem snd_cvi {s d : TypeId} {k : IntKind} {x : Operand} {x' : Opd} (ho : o.op = .convert s d x) (hsT : (P.underlying s).isSome = true) (hd : P.underlying d = some (.int k)) (hx : okOpd x x' = true) {c : Prop} {r : AV}
    (h : Ze fr L (.cvi k x') = some (c, r)) : Val1 P o fr L c r := by
  simp only [Ze] at h
  split at h
  · rename_i cx k' n ex
    simp only [Option.some.injEq, Prod.mk.injEq] at h
    obtain ⟨rfl, rfl⟩ := h
    refine Val1.same fun E B w ι a hs ⟨h1, h2⟩ => ?_
    have rx := PRep.int_eq (rdP hs.2.1 hx ex h1)
    rw [ari_eq h2]
    refine ⟨.int k (k.wrap n), ?_, rfl⟩
    obtain ⟨ds, hds⟩ := Option.isSome_iff_exists.1 hsT
    simp only [execOp, ho, rx, convert, Sem.run_bind, run_underlying hds, run_underlying hd, Result.andThen_ok, Conv.intToInt]
    cases ds <;> rfl
  · cases h

theorem snd_cvs {s d : TypeId} {x : Operand} {x' : Opd} {k : IntKind} (ho : o.op = .convert s d x) (hsT : P.underlying s = some (.int k)) (hd : P.underlying d = some .string) (hx : okOpd x x' = true) {c : Prop} {r : AV}
    (h : Ze fr L (.cvs x') = some (c, r)) : Val1 P o fr L c r := by
  simp only [Ze] at h
  split at h
  · rename_i cx k' n ex
    simp only [Option.some.injEq, Prod.mk.injEq] at h
    obtain ⟨rfl, rfl⟩ := h
    refine Val1.same fun E B w ι a hs h1 => ?_
    have rx := PRep.int_eq (rdP hs.2.1 hx ex h1)
    refine ⟨.string (Utf8.encode n), ?_, by simp [ARep, PRep]⟩
    simp only [execOp, ho, rx, convert, Sem.run_bind, run_underlying hsT, run_underlying hd, Result.andThen_ok, Conv.intToString]
    rfl
  · cases h

theorem snd_nck {x : Operand} {x' : Opd} (ho : o.op = .nilCheck x) (hx : okOpd x x' = true) {c : Prop} {r : AV} (h : Ze fr L (.nck x') = some (c, r)) : Val1 P o fr L c r := by
  simp only [Ze] at h
  split at h
  all_goals first | (cases h; done) | skip
  all_goals
    simp only [Option.some.injEq, Prod.mk.injEq] at h
    obtain ⟨rfl, rfl⟩ := h
    refine Val1.same fun E B w ι a hs h1 => ⟨a.eval x, ?_, rdA hs.2.1 hx ‹_› h1⟩
    have rx := rdA hs.2.1 hx ‹_› h1
    first
    | (obtain ⟨b, n, c, e1, e2⟩ := rx; simp [execOp, ho, e2]; done)
    | (obtain ⟨b, e1, e2⟩ := rx; simp [execOp, ho, e2]; done)
    | (obtain ⟨b, n, e1, e2⟩ := rx; simp [execOp, ho, e1]; done)
end
end Go.Proofs.YtpddiepfolfnoaaDoor
