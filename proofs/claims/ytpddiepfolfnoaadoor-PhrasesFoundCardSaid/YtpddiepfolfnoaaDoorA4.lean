/- The check that a small operation is what a translated one says, and that its meaning is right: operations that leave the owned objects alone. -/
import Derived.Test.YtpddiepfolfnoaaDoorA3
import Derived.IntWalk
namespace Go.Proofs.YtpddiepfolfnoaaDoor
set_option linter.unusedVariables false
set_option linter.unusedSimpArgs false
set_option linter.defProp false

def okOpd : Operand → Opd → Bool
  | .tmp i, .t j => i == j
  | .const (.int k n), .c (.int k' n') => k == k' && n == n'
  | .const (.bool b), .c (.bool b') => b == b'
  | .const (.string s), .c (.str l) => s.data.toList == l
  | .const (.slice none 0 0), .c (.nl _) => true
  | .const .nilFunc, .c (.raw .nilFunc) => true
  | .func f, .f f' => f == f'
  | .global g, .gl g' => g == g'
  | _, _ => false

def okOpds : List Operand → List Opd → Bool
  | [], [] => true
  | x :: xs, y :: ys => okOpd x y && okOpds xs ys
  | _, _ => false

def okOpt : Option Operand → Option Opd → Bool
  | none, none => true
  | some x, some y => okOpd x y
  | _, _ => false

section
variable {P : Program} {E : Envt} {B : Base} {w : World} {L : Objs} {ι : Key → Value} {fr : List AV} {a : Act} {U : Nat → Prop}

theorem rdOk (hf : FRep w U ι fr a) {o : Operand} {x : Opd} (h : okOpd o x = true) : ARep w U ι (rd fr x) (a.eval o) := by
  unfold okOpd at h
  split at h
  · rename_i i j
    obtain rfl : i = j := by simpa using h
    simp only [rd, List.getD]
    cases hx : fr[i]? with
    | none => trivial
    | some y => simpa using hf.eval hx
  · rename_i k n k' n'
    simp only [Bool.and_eq_true, beq_iff_eq] at h
    obtain ⟨rfl, rfl⟩ := h
    rfl
  · rename_i b b'
    obtain rfl : b = b' := by simpa using h
    rfl
  · rename_i s l
    obtain rfl : s.data.toList = l := by simpa using h
    simp [rd, ARep, PRep, Act.eval]
  · simp [rd, ARep, PRep, Act.eval]
  · simp [rd, ARep, PRep, Act.eval, Value.oneCell']
  · rename_i f f'
    obtain rfl : f = f' := by simpa using h
    simp [rd, ARep, Act.eval]
  · rename_i g g'
    obtain rfl : g = g' := by simpa using h
    simp [rd, ARep, PRep, Act.eval, Value.oneCell']
  · cases h

/-- Under its condition a slot reads as it says. -/
theorem ARep.un {x : AV} {v : Value} (h : ARep w U ι x v) : x.un.1 → ARep w U ι x.un.2 v := by
  induction x generalizing v with
  | g c a ih => simp only [AV.un]; exact fun hc => ih (h.1 hc.1) hc.2
  | _ => exact fun _ => h

/-- One operation that leaves the objects alone: new blocks alone, and the result reads as said. -/
def Val1 (P : Program) (o : Oper) (fr : List AV) (L : Objs) (c : Prop) (r : AV) : Prop :=
  ∀ (E : Envt) (B : Base) (w : World) (ι : Key → Value) (a : Act), StF E B w L ι fr a → c →
    ∃ v w', (execOp a.eval o).run P w = .ok (.value v) w' ∧ Grow w w' (fun _ => False) ∧ ARep w' (fun b => Own L ι b ∨ B.X b) ι r v

theorem Val1.same {o : Oper} {c : Prop} {r : AV} (h : ∀ (E : Envt) (B : Base) (w : World) (ι : Key → Value) (a : Act), StF E B w L ι fr a → c → ∃ v, (execOp a.eval o).run P w = .ok (.value v) w ∧ ARep w (fun b => Own L ι b ∨ B.X b) ι r v) : Val1 P o fr L c r :=
  fun E B w ι a hs hc => let ⟨v, e, hr⟩ := h E B w ι a hs hc; ⟨v, w, e, Grow.refl w _, hr⟩

theorem snd_mov {o : Oper} {x : Operand} {y : Opd} (ho : o.op = .move x ∨ o.op = .assign x) (hx : okOpd x y = true) : Val1 P o fr L True (rd fr y) := by
  refine Val1.same fun E B w ι a hs _ => ⟨a.eval x, ?_, rdOk hs.2.1 hx⟩
  rcases ho with ho | ho <;> simp [execOp, ho]

theorem PRep.int_eq {k : IntKind} {n : Int} {v : Value} (h : PRep w U (.int k n) v) : v = .int k n := by simpa [PRep] using h
theorem PRep.bool_eq {b : Bool} {v : Value} (h : PRep w U (.bool b) v) : v = .bool b := by simpa [PRep] using h
theorem PRep.str_eq {s : List UInt8} {v : Value} (h : PRep w U (.str s) v) : v = .string ⟨s.toArray⟩ := by simpa [PRep] using h

theorem snd_pick {o : Oper} {c x y : Operand} {c' x' y' : Opd} (ho : o.op = .pick c x y) (hc : okOpd c c' = true) (hx : okOpd x x' = true) (hy : okOpd y y' = true) {t p q : Bool} {cc cx cy : Prop}
    (ec : (rd fr c').un = (cc, .p (.bool t))) (ex : (rd fr x').un = (cx, .p (.bool p))) (ey : (rd fr y').un = (cy, .p (.bool q))) : Val1 P o fr L (cc ∧ (t = true → cx) ∧ (t = false → cy)) (.p (.bool (bif t then p else q))) := by
  refine Val1.same fun E B w ι a hs ⟨h1, h2, h3⟩ => ?_
  have rc := (rdOk hs.2.1 hc).un; rw [ec] at rc
  have rx := (rdOk hs.2.1 hx).un; rw [ex] at rx
  have ry := (rdOk hs.2.1 hy).un; rw [ey] at ry
  have e1 := PRep.bool_eq (rc h1)
  cases t with
  | true => have e2 := PRep.bool_eq (rx (h2 rfl)); exact ⟨.bool p, by simp [execOp, ho, e1, e2, asBool], rfl⟩
  | false => have e2 := PRep.bool_eq (ry (h3 rfl)); exact ⟨.bool q, by simp [execOp, ho, e1, e2, asBool], rfl⟩
theorem snd_pick1 {o : Oper} {c x y : Operand} {c' x' : Opd} (ho : o.op = .pick c x y) (hc : okOpd c c' = true) (hx : okOpd x x' = true) {t p : Bool} {cc cx : Prop}
    (ec : (rd fr c').un = (cc, .p (.bool t))) (ex : (rd fr x').un = (cx, .p (.bool p))) : Val1 P o fr L (cc ∧ cx ∧ t = true) (.p (.bool p)) := by
  refine Val1.same fun E B w ι a hs ⟨h1, h2, h3⟩ => ?_
  have rc := (rdOk hs.2.1 hc).un; rw [ec] at rc
  have rx := (rdOk hs.2.1 hx).un; rw [ex] at rx
  have e1 := PRep.bool_eq (rc h1)
  subst h3
  have e2 := PRep.bool_eq (rx h2)
  exact ⟨.bool p, by simp [execOp, ho, e1, e2, asBool], rfl⟩
theorem snd_pick2 {o : Oper} {c x y : Operand} {c' y' : Opd} (ho : o.op = .pick c x y) (hc : okOpd c c' = true) (hy : okOpd y y' = true) {t q : Bool} {cc cy : Prop}
    (ec : (rd fr c').un = (cc, .p (.bool t))) (ey : (rd fr y').un = (cy, .p (.bool q))) : Val1 P o fr L (cc ∧ cy ∧ t = false) (.p (.bool q)) := by
  refine Val1.same fun E B w ι a hs ⟨h1, h2, h3⟩ => ?_
  have rc := (rdOk hs.2.1 hc).un; rw [ec] at rc
  have ry := (rdOk hs.2.1 hy).un; rw [ey] at ry
  have e1 := PRep.bool_eq (rc h1)
  subst h3
  have e2 := PRep.bool_eq (ry h2)
  exact ⟨.bool q, by simp [execOp, ho, e1, e2, asBool], rfl⟩
end

theorem wrap_in {n : Int} (h : I64 n) : IntKind.i64.wrap n = n := IntWalk.i64_in n h
theorem ari_eq {k : IntKind} {n : Int} (h : (Zs k n).1) : (Zs k n).2 = .int k (k.wrap n) := by
  unfold Zs at h ⊢
  split
  · rename_i e; subst e; simp only [if_true] at h; simp only [wrap_in h]
  · rfl
theorem run_guard {P : Program} {op : BinOp} {t : TypeId} {x y : Operand} {v u : Value} {w : World} (h1 : v ≠ .nilIface) (h2 : ∀ cs, v ≠ .agg cs) : (eqGuard op t x y v u).run P w = .ok () w := by
  unfold eqGuard
  cases v <;> first | (exact absurd rfl h1) | (exact absurd rfl (h2 _)) | (cases op <;> simp)
theorem run_equalIn_bool {P : Program} {t : TypeId} {w : World} {x y : Bool} (h : P.underlying t = some .bool) (d : Nat) : (Op.equalIn (d + 1) t (.bool x) (.bool y)).run P w = .ok (x == y) w := by
  simp only [Op.equalIn, Sem.run_bind, run_underlying h, Result.andThen_ok]
  rfl
theorem run_equal_bool {P : Program} {t : TypeId} {w : World} {x y : Bool} (h : P.underlying t = some .bool) : (Op.equal t (.bool x) (.bool y)).run P w = .ok (x == y) w := run_equalIn_bool h 9999
theorem binP_sound {P : Program} {op : BinOp} {p q r : PV} {c : Prop} {w : World} {U : Nat → Prop} {t : TypeId} {x y : Operand} {v u : Value}
    (h : Zn op p q = some (c, r)) (hp : PRep w U p v) (hq : PRep w U q u) (hc : c) :
    ∃ rv, (do eqGuard op t x y v u; binOp op t v u : Sem Value).run P w = .ok rv w ∧ PRep w U r rv := by
  unfold Zn at h
  split at h
  · rename_i k a k' b
    have e1 := PRep.int_eq hp
    have e2 := PRep.int_eq hq
    subst e1; subst e2
    rw [Sem.run_bind, run_guard (by simp) (by simp)]
    simp only [Result.andThen_ok]
    split at h
    · simp only [Zp, Option.some.injEq, Prod.mk.injEq] at h
      obtain ⟨rfl, rfl⟩ := h
      exact ⟨_, by simp [binOp, Op.shift, show ¬ b < 0 by omega], rfl⟩
    · simp only [Zp, Option.some.injEq, Prod.mk.injEq] at h
      obtain ⟨rfl, rfl⟩ := h
      exact ⟨_, by simp [binOp, Op.shift, show ¬ b < 0 by omega], rfl⟩
    · split at h
      · rename_i hk
        subst hk
        cases op <;> simp only [Zo, Option.some.injEq, Prod.mk.injEq, reduceCtorEq] at h
        · have e := ari_eq (k := k) (n := a + b) (by rw [h]; exact hc)
          rw [h] at e; simp only at e; subst e
          exact ⟨_, by simp [binOp, Op.intArith], rfl⟩
        · have e := ari_eq (k := k) (n := a - b) (by rw [h]; exact hc)
          rw [h] at e; simp only at e; subst e
          exact ⟨_, by simp [binOp, Op.intArith], rfl⟩
        · have e := ari_eq (k := k) (n := a * b) (by rw [h]; exact hc)
          rw [h] at e; simp only at e; subst e
          exact ⟨_, by simp [binOp, Op.intArith], rfl⟩
        · obtain ⟨rfl, rfl⟩ := h
          rw [ari_eq hc.2]
          exact ⟨_, by simp [binOp, Op.intDiv, hc.1], rfl⟩
        · obtain ⟨rfl, rfl⟩ := h
          exact ⟨_, by simp [binOp, Op.intDiv, hc], rfl⟩
        · obtain ⟨rfl, rfl⟩ := h
          exact ⟨.int k (bitA k a b), by simp [binOp, Op.intBits, bitA], rfl⟩
        · obtain ⟨rfl, rfl⟩ := h
          exact ⟨.int k (bitX k a b), by simp [binOp, Op.intBits, bitX], rfl⟩
        all_goals
          obtain ⟨rfl, rfl⟩ := h
          exact ⟨.bool _, by first | (simp [binOp, Op.intCmp]; done) | (simp [binOp, Op.intCmp]; rfl), rfl⟩
      · cases h
  · rename_i x1 y1
    have e1 := PRep.str_eq hp
    have e2 := PRep.str_eq hq
    subst e1; subst e2
    rw [Sem.run_bind, run_guard (by simp) (by simp)]
    simp only [Result.andThen_ok]
    have ht : ∀ l : List UInt8, (⟨l.toArray⟩ : ByteArray).toList = l := fun l => by rw [ByteArray.toList_eq]
    cases op <;> simp only [Zq, Option.some.injEq, Prod.mk.injEq, reduceCtorEq] at h
    · obtain ⟨rfl, rfl⟩ := h
      refine ⟨.string (⟨x1.toArray⟩ ++ ⟨y1.toArray⟩), ?_, ?_⟩
      · have hm : IntKind.i64.max = 9223372036854775807 := by decide
        have hs : ∀ l : List UInt8, (⟨l.toArray⟩ : ByteArray).size = l.length := fun l => by simp [ByteArray.size]
        simp only [binOp, Op.stringOp, hs, hm]
        rw [if_neg (by omega)]
        try rfl
      · simp only [PRep]
        congr 1
    all_goals
      obtain ⟨rfl, rfl⟩ := h
      refine ⟨.bool _, ?_, rfl⟩
      simp only [binOp, Op.stringOp, ht, bytesLess]
      first | rfl | (rw [show (x1 == y1) = decide (x1 = y1) from by rw [Bool.eq_iff_iff]; simp]; rfl)
  · cases h
end Go.Proofs.YtpddiepfolfnoaaDoor
