/- Meaning of small operations, continued: parts of strings and slices, addresses, loads, literals. -/
import Derived.Test.YtpddiepfolfnoaaDoorA5
import Derived.Laws.Cells
namespace Go.Proofs.YtpddiepfolfnoaaDoor
set_option linter.unusedVariables false
set_option linter.unusedSimpArgs false
set_option linter.defProp false

section
variable {P : Program} {L : Objs} {fr : List AV} {o : Oper} {w : World} {U : Nat → Prop} {ι : Key → Value}

theorem bnd_run {a : Act} (hf : FRep w U ι fr a) {x : Option Operand} {x' : Option Opd} (hx : okOpt x x' = true) {n d m : Nat} {c : Prop} (h : Zu n (x'.map (rd fr)) d = some (c, m)) (hc : c) (cd : BoundsCode) :
    (match x.map a.eval with | some v => Instr.sliceBound v n cd | none => pure d).run P w = .ok m w ∧ (x' = none → m = d) ∧ (x' ≠ none → m ≤ n) := by
  cases x with
  | none =>
    cases x' with
    | none =>
      simp only [Option.map_none, Zu, Option.some.injEq, Prod.mk.injEq] at h
      obtain ⟨rfl, rfl⟩ := h
      exact ⟨rfl, fun _ => rfl, fun h => absurd rfl h⟩
    | some y => simp [okOpt] at hx
  | some y =>
    cases x' with
    | none => simp [okOpt] at hx
    | some y' =>
      have hr := rdOk hf (show okOpd y y' = true from hx)
      simp only [Option.map_some] at h ⊢
      generalize rd fr y' = q at *
      simp only [Zu] at h
      split at h
      · rename_i c1 k i heq
        simp only [Option.some.injEq, Prod.mk.injEq] at h
        obtain ⟨rfl, rfl⟩ := h
        have hr1 := hr.un (by rw [heq]; exact hc.1)
        rw [heq] at hr1
        have e := PRep.int_eq hr1
        rw [e]
        refine ⟨?_, fun h => (by cases h), fun _ => by omega⟩
        simp [Instr.sliceBound, asIntOf, hc.2]
      · cases h

theorem snd_ssl {t : TypeId} {x : Operand} {lo hi : Option Operand} {x' : Opd} {lo' hi' : Option Opd} (ho : o.op = .slice t x lo hi none) (ht : P.underlying t = some .string) (hx : okOpd x x' = true) (hl : okOpt lo lo' = true) (hh : okOpt hi hi' = true) {c : Prop} {r : AV}
    (h : Ze fr L (.ssl x' lo' hi') = some (c, r)) : Val1 P o fr L c r := by
  simp only [Ze] at h
  split at h
  · rename_i cx s ex
    split at h
    · rename_i ch hb e1
      obtain ⟨⟨cl, lb⟩, e2, e3⟩ := Option.map_eq_some_iff.1 h
      simp only [Prod.mk.injEq] at e3
      obtain ⟨rfl, rfl⟩ := e3
      refine Val1.same fun E B w ι a hs ⟨h1, h2, h3⟩ => ⟨.string ((⟨s.toArray⟩ : ByteArray).extract lb hb), ?_, ?_⟩
      · have rx := PRep.str_eq (rdP hs.2.1 hx ex h1)
        have hz : (⟨s.toArray⟩ : ByteArray).size = s.length := by simp [ByteArray.size]
        have r1 := (bnd_run (P := P) hs.2.1 hh e1 h2 .sliceAlen).1
        have r2 := (bnd_run (P := P) hs.2.1 hl e2 h3 .sliceB).1
        simp only [execOp, ho, rx, Instr.sliceAt, Sem.run_bind, run_underlying ht, Result.andThen_ok, Instr.slice, Option.map_none, Instr.sliceBounds, hz]
        cases hi with
        | none =>
          simp only [Option.map_none] at r1 ⊢
          simp only [Sem.run_pure, Result.ok.injEq, and_true] at r1
          subst r1
          cases lo with
          | none =>
            simp only [Option.map_none, Sem.run_pure, Result.ok.injEq, and_true] at r2 ⊢
            subst r2
            simp
          | some lv =>
            simp only [Option.map_some] at r2 ⊢
            simp [r2]
        | some hv =>
          simp only [Option.map_some] at r1 ⊢
          cases lo with
          | none =>
            simp only [Option.map_none, Sem.run_pure, Result.ok.injEq, and_true] at r2 ⊢
            subst r2
            simp [r1]
          | some lv =>
            simp only [Option.map_some] at r2 ⊢
            simp [r1, r2]
      · simp only [ARep, PRep]
        congr 1
        apply ByteArray.ext
        apply Array.ext'
        simp [ByteArray.data_extract, List.drop_take]
    · cases h
  · cases h

theorem PRepE.drop {b z : Nat} {es : List (List PV)} {off : Nat} (h : PRepE w U b z off es) (l : Nat) : PRepE w U b z (off + l * z) (es.drop l) := by
  induction l generalizing es off with
  | zero => simpa using h
  | succ l ih =>
    cases es with
    | nil => simp [PRepE]
    | cons e es =>
      simp only [PRepE] at h
      have := ih h.2.2
      rw [List.drop_succ_cons]
      rwa [show off + z + l * z = off + (l + 1) * z from by rw [Nat.add_mul]; omega] at this
theorem PRepE.take {b z : Nat} {es : List (List PV)} {off : Nat} (h : PRepE w U b z off es) (l : Nat) : PRepE w U b z off (es.take l) := by
  induction l generalizing es off with
  | zero => simp [PRepE]
  | succ l ih =>
    cases es with
    | nil => simp [PRepE]
    | cons e es =>
      simp only [PRepE] at h
      rw [List.take_succ_cons]
      simp only [PRepE]
      exact ⟨h.1, h.2.1, ih h.2.2⟩

theorem addr_addA (b off j : Nat) : (⟨b, off, none⟩ : Addr).add j = ⟨b, off + j, none⟩ := by unfold Addr.add; split <;> simp_all

def sizeB (P : Program) (t : TypeId) (z : Nat) : Bool := (P.info? t).map (·.size) == some z
theorem run_size {t : TypeId} {z : Nat} (h : sizeB P t z = true) (w : World) : (sizeOf t).run P w = .ok z w := by
  simp only [sizeB, beq_iff_eq, Option.map_eq_some_iff] at h
  obtain ⟨i, h1, h2⟩ := h
  simp [sizeOf, typeInfo, h1, h2]

theorem snd_vsl {t e : TypeId} {z : Nat} {x : Operand} {lo hi : Option Operand} {x' : Opd} {lo' hi' : Option Opd} (ho : o.op = .slice t x lo hi none) (ht : P.underlying t = some (.slice e)) (hz : sizeB P e z = true) (hx : okOpd x x' = true) (hl : okOpt lo lo' = true) (hh : okOpt hi hi' = true) {c : Prop} {r : AV}
    (h : Ze fr L (.vsl z x' lo' hi') = some (c, r)) : Val1 P o fr L c r := by
  simp only [Ze] at h
  split at h
  · rename_i cx z1 es ex
    split at h
    · rename_i hzz
      subst hzz
      split at h
      · rename_i ch hb e1
        obtain ⟨⟨cl, lb⟩, e2, e3⟩ := Option.map_eq_some_iff.1 h
        simp only [Prod.mk.injEq] at e3
        obtain ⟨rfl, rfl⟩ := e3
        refine Val1.same fun E B w ι a hs ⟨h1, h2, h3⟩ => ?_
        obtain ⟨A, cp, eA, hcp, hE⟩ := rdP hs.2.1 hx ex h1
        have b1 := bnd_run (P := P) hs.2.1 hh e1 h2 .sliceAcap
        have b2 := bnd_run (P := P) hs.2.1 hl e2 h3 .sliceB
        have hbn : hb ≤ es.length := by
          by_cases hn : hi' = none
          · rw [b1.2.1 hn]; exact Nat.le_refl _
          · exact b1.2.2 hn
        have hlb : lb ≤ hb := by
          by_cases hn : lo' = none
          · rw [b2.2.1 hn]; exact Nat.zero_le _
          · exact b2.2.2 hn
        -- the bound of the upper end speaks of the capacity
        have r1 : (match hi.map a.eval with | some v => Instr.sliceBound v cp .sliceAcap | none => pure es.length).run P w = .ok hb w := by
          cases hi with
          | none => exact b1.1
          | some y =>
            cases hi' with
            | none => simp [okOpt] at hh
            | some y' =>
              have hr := rdOk hs.2.1 (show okOpd y y' = true from hh)
              simp only [Option.map_some] at e1 ⊢
              generalize rd fr y' = q at *
              simp only [Zu] at e1
              split at e1
              · rename_i c1 k i heq
                simp only [Option.some.injEq, Prod.mk.injEq] at e1
                obtain ⟨rfl, rfl⟩ := e1
                have hr1 := hr.un (by rw [heq]; exact h2.1)
                rw [heq] at hr1
                rw [PRep.int_eq hr1]
                simp only [Instr.sliceBound, asIntOf, Sem.run_bind, Sem.run_pure, Result.andThen_ok]
                rw [if_pos ⟨h2.2.1, by omega⟩]
                rfl
              · cases e1
        refine ⟨.slice (if cp = lb then A else A.map (·.add (lb * z))) (hb - lb) (cp - lb), ?_, ?_⟩
        · have r2 := b2.1
          simp only [execOp, ho, eA, Instr.sliceAt, Sem.run_bind, run_underlying ht, Result.andThen_ok, Instr.slice, Option.map_none, Instr.sliceBounds]
          cases hi with
          | none =>
            simp only [Option.map_none] at r1 ⊢
            simp only [Sem.run_pure, Result.ok.injEq, and_true] at r1
            subst r1
            cases lo with
            | none =>
              simp only [Option.map_none, Sem.run_pure, Result.ok.injEq, and_true] at r2 ⊢
              subst r2
              simp [run_size hz]
            | some lv =>
              simp only [Option.map_some] at r2 ⊢
              simp [r2, run_size hz]
          | some hv =>
            simp only [Option.map_some] at r1 ⊢
            cases lo with
            | none =>
              simp only [Option.map_none, Sem.run_pure, Result.ok.injEq, and_true] at r2 ⊢
              subst r2
              simp [r1, run_size hz]
            | some lv =>
              simp only [Option.map_some] at r2 ⊢
              simp [r1, r2, run_size hz]
        · have hlen : ((es.take hb).drop lb).length = hb - lb := by simp; omega
          refine ⟨_, cp - lb, by rw [hlen], by rw [hlen]; omega, fun hne => ?_⟩
          have hlt : lb < hb := by
            rcases Nat.lt_or_ge lb hb with h' | h'
            · exact h'
            · exact absurd (List.eq_nil_of_length_eq_zero (by rw [hlen]; omega)) hne
          obtain ⟨b, off, rfl, hb1, hb2, hb3⟩ := hE (by intro e; subst e; simp at hbn; omega)
          refine ⟨b, off + lb * z, ?_, hb1, hb2, (hb3.take hb).drop lb⟩
          rw [if_neg (by omega)]
          simp [addr_addA]
      · cases h
    · cases h
  · cases h

theorem snd_ixa {t e : TypeId} {z : Nat} {x y : Operand} {x' y' : Opd} (ho : o.op = .indexAddr t x y) (ht : P.underlying t = some (.slice e)) (hz : sizeB P e z = true) (hx : okOpd x x' = true) (hy : okOpd y y' = true) {c : Prop} {r : AV}
    (h : Ze fr L (.ixa z x' y') = some (c, r)) : Val1 P o fr L c r := by
  simp only [Ze] at h
  split at h
  · rename_i cx z1 es cy k n ex ey
    split at h
    · rename_i hzz
      subst hzz
      simp only [Option.some.injEq, Prod.mk.injEq] at h
      obtain ⟨rfl, rfl⟩ := h
      refine Val1.same fun E B w ι a hs ⟨h1, h2, h3, h4⟩ => ?_
      obtain ⟨A, cp, eA, hcp, hE⟩ := rdP hs.2.1 hx ex h1
      have ry := PRep.int_eq (rdP hs.2.1 hy ey h2)
      obtain ⟨b, off, rfl, hb1, hb2, hb3⟩ := hE (by intro e; subst e; simp at h4; omega)
      refine ⟨.pointer (some ⟨b, off + n.toNat * z1 + 0, none⟩), ?_, b, off, rfl, hb1, hb2, hb3⟩
      simp only [execOp, ho, eA, ry, Instr.indexAt, Sem.run_bind, asIntOf, Sem.run_pure, Result.andThen_ok, run_underlying ht]
      rw [if_pos ⟨h3, h4⟩]
      simp [run_size hz, addr_addA]
    · cases h
  · rename_i cx k1 cy k n ex ey
    split at h
    · rename_i es e1 z1 ap hl
      split at h
      · rename_i hzz
        subst hzz
        simp only [Option.some.injEq, Prod.mk.injEq] at h
        obtain ⟨rfl, rfl⟩ := h
        refine Val1.same fun E B w ι a hs ⟨h1, h2, h3, h4⟩ => ?_
        obtain ⟨eA, _⟩ := rdP hs.2.1 hx ex h1
        have ry := PRep.int_eq (rdP hs.2.1 hy ey h2)
        obtain ⟨vs, hown, _⟩ := hs.1.sim.obj k1 _ hl
        rcases hown.2 with ⟨e3, e4⟩ | ⟨g, cap, cur, fz, e3, _⟩
        · omega
        · refine ⟨.pointer (some ⟨g, n.toNat * z1 + 0, none⟩), ?_, g, _, _, e3, rfl⟩
          simp only [execOp, ho, eA, e3, ry, Instr.indexAt, Sem.run_bind, asIntOf, Sem.run_pure, Result.andThen_ok, run_underlying ht]
          rw [if_pos ⟨h3, h4⟩]
          simp [run_size hz, addr_addA]
      · cases h
    · cases h
  · cases h

def fieldB (P : Program) (s : TypeId) (f : Nat) (off sz : Nat) : Bool :=
  match P.underlying s with
  | some (.struct fs) => match fs[f]? with
    | some fd => fd.offset == off && sizeB P fd.type sz
    | none => false
  | _ => false

theorem snd_fla {s : TypeId} {f off sz : Nat} {x : Operand} {x' : Opd} (ho : o.op = .fieldAddr s x f) (hf : fieldB P s f off (sz + 1) = true) (hx : okOpd x x' = true) {c : Prop} {r : AV}
    (h : Ze fr L (.fla off x') = some (c, r)) : Val1 P o fr L c r := by
  unfold fieldB at hf
  split at hf
  · rename_i fs hs1
    split at hf
    · rename_i fd hfd
      simp only [Bool.and_eq_true, beq_iff_eq] at hf
      obtain ⟨rfl, hsz⟩ := hf
      have run : ∀ (a : Act) (w : World) (b i : Nat), a.eval x = .pointer (some ⟨b, i, none⟩) → (execOp a.eval o).run P w = .ok (.value (.pointer (some ⟨b, i + fd.offset, none⟩))) w := by
        intro a w b i e
        simp only [execOp, ho, e, Instr.fieldAt, Sem.run_bind, run_underlying hs1, Result.andThen_ok, hfd, Instr.sureAddr, Sem.run_pure, fieldPlace, run_size hsz]
        simp [addr_addA]
      simp only [Ze] at h
      split at h
      · rename_i cx k i ex
        simp only [Option.some.injEq, Prod.mk.injEq] at h
        obtain ⟨rfl, rfl⟩ := h
        refine Val1.same fun E B w ι a hs h1 => ?_
        obtain ⟨b, e1, e2⟩ := rdA hs.2.1 hx ex h1
        exact ⟨_, run a w b i e2, b, e1, rfl⟩
      · rename_i cx k z i off ex
        simp only [Option.some.injEq, Prod.mk.injEq] at h
        obtain ⟨rfl, rfl⟩ := h
        refine Val1.same fun E B w ι a hs h1 => ?_
        obtain ⟨b, n, cp, e1, e2⟩ := rdA hs.2.1 hx ex h1
        exact ⟨_, run a w b _ e2, b, n, cp, e1, by rw [Nat.add_assoc]⟩
      · rename_i cx z es i off ex
        simp only [Option.some.injEq, Prod.mk.injEq] at h
        obtain ⟨rfl, rfl⟩ := h
        refine Val1.same fun E B w ι a hs h1 => ?_
        obtain ⟨b, o1, e2, rest⟩ := rdA hs.2.1 hx ex h1
        exact ⟨_, run a w b _ e2, b, o1, by rw [Nat.add_assoc], rest⟩
      · cases h
    · cases hf
  · cases hf
end
end Go.Proofs.YtpddiepfolfnoaaDoor
