/- Equality of flat structs. -/
import Derived.Test.YtpddiepfolfnoaaDoorA9
namespace Go.Proofs.YtpddiepfolfnoaaDoor
set_option linter.unusedVariables false
set_option linter.unusedSimpArgs false
set_option linter.defProp false

section
variable {P : Program} {L : Objs} {fr : List AV} {o : Oper} {w : World} {U : Nat → Prop} {ι : Key → Value}

def fkB (P : Program) (t : TypeId) : FK → Bool
  | .i => match P.underlying t with | some (.int _) => true | _ => false
  | .s => match P.underlying t with | some .string => true | _ => false
  | .b => match P.underlying t with | some .bool => true | _ => false
def flatFs (P : Program) : Nat → List Field → List FK → Bool
  | _, [], [] => true
  | k, f :: fs, q :: ks => f.offset == k && f.name != "_" && fkB P f.type q && flatFs P (k + 1) fs ks
  | _, _, _ => false
def flatT (P : Program) (t : TypeId) (ks : List FK) : Bool :=
  match P.underlying t with
  | some (.struct fs) => flatFs P 0 fs.toList ks && !P.stoodInHeld t && !P.eqGuardType P.depth t
  | _ => false

theorem ba_eq (x y : List UInt8) : ((⟨x.toArray⟩ : ByteArray) == ⟨y.toArray⟩) = decide (x = y) := by
  rw [beq_toListBytes, ByteArray.toList_eq, ByteArray.toList_eq, Bool.eq_iff_iff]
  simp

theorem eqL_fields : ∀ (fs : List Field) (ks : List FK) (k : Nat) (a b : List PV) (xs ys : Array Value) (q : Bool), flatFs P k fs ks = true → Zt ks a b = some q → PRepL w U a (xs.toList.drop k) → PRepL w U b (ys.toList.drop k) → ∀ d, (Op.eqFields (d + 1) xs ys fs).run P w = .ok q w := by
  intro fs
  induction fs with
  | nil =>
    intro ks k a b xs ys q hf he ha hb d
    cases ks with
    | nil =>
      cases a <;> cases b <;> simp only [Zt, Option.some.injEq, reduceCtorEq] at he
      subst he
      rfl
    | cons _ _ => simp [flatFs] at hf
  | cons f fs ih =>
    intro ks k a b xs ys q hf he ha hb d
    cases ks with
    | nil => simp [flatFs] at hf
    | cons fk ks =>
    simp only [flatFs, Bool.and_eq_true, beq_iff_eq, bne_iff_ne, ne_eq] at hf
    obtain ⟨⟨⟨h1, h2⟩, h3⟩, h4⟩ := hf
    cases a with
    | nil => cases fk <;> simp [Zt] at he
    | cons x a =>
      cases b with
      | nil => cases fk <;> cases x <;> simp [Zt] at he
      | cons y b =>
        simp only [PRepL] at ha hb
        obtain ⟨vx, rx, ex, hx, ha'⟩ := ha
        obtain ⟨vy, ry, ey, hy, hb'⟩ := hb
        have gx : xs[f.offset]? = some vx := by
          have : (xs.toList.drop k)[0]? = some vx := by rw [ex]; rfl
          rw [List.getElem?_drop] at this
          rw [h1]
          simpa using this
        have gy : ys[f.offset]? = some vy := by
          have : (ys.toList.drop k)[0]? = some vy := by rw [ey]; rfl
          rw [List.getElem?_drop] at this
          rw [h1]
          simpa using this
        have dx : xs.toList.drop (k + 1) = rx := by rw [← List.drop_drop, ex]; rfl
        have dy : ys.toList.drop (k + 1) = ry := by rw [← List.drop_drop, ey]; rfl
        have hag : aggB P f.type false = true := by
          unfold aggB
          cases fk <;> simp only [fkB] at h3 <;> split at h3 <;> simp_all
        have px : (part f.type xs f.offset).run P w = .ok vx w := by simp [part, run_agg hag, gx]
        have py : (part f.type ys f.offset).run P w = .ok vy w := by simp [part, run_agg hag, gy]
        have cont : ∀ (e : Bool) (q' : Bool), (Op.equalIn (d + 1) f.type vx vy).run P w = .ok e w → Zt ks a b = some q' → (Op.eqFields (d + 1) xs ys (f :: fs)).run P w = .ok (e && q') w := by
          intro e q' hE hq
          have hr := ih ks (k + 1) a b xs ys q' h4 hq (by rw [dx]; exact ha') (by rw [dy]; exact hb') d
          simp only [Op.eqFields]
          rw [if_pos h2]
          simp only [Sem.run_bind, px, py, hE, Result.andThen_ok]
          cases e
          · rfl
          · simpa using hr
        unfold Zt at he
        split at he
        · rename_i h _ _; cases h
        · rename_i ks1 k1 n1 xs1 k2 n2 ys1 e0 e1 e2
          cases e0; cases e1; cases e2
          split at he
          · rename_i hk
            subst hk
            obtain ⟨q', g1, rfl⟩ := Option.map_eq_some_iff.1 he
            refine cont _ q' ?_ g1
            rw [PRep.int_eq hx, PRep.int_eq hy]
            simp only [fkB] at h3
            split at h3
            · rename_i kk hu; simp only [Op.equalIn, Sem.run_bind, run_underlying hu, Result.andThen_ok, if_true]; rfl
            · cases h3
          · cases he
        · rename_i ks1 s1 xs1 s2 ys1 e0 e1 e2
          cases e0; cases e1; cases e2
          obtain ⟨q', g1, rfl⟩ := Option.map_eq_some_iff.1 he
          refine cont _ q' ?_ g1
          rw [PRep.str_eq hx, PRep.str_eq hy]
          simp only [fkB] at h3
          split at h3
          · rename_i hu
            simp only [Op.equalIn, Sem.run_bind, run_underlying hu, Result.andThen_ok, ba_eq]
            rfl
          · cases h3
        · rename_i ks1 s1 xs1 s2 ys1 e0 e1 e2
          cases e0; cases e1; cases e2
          obtain ⟨q', g1, rfl⟩ := Option.map_eq_some_iff.1 he
          refine cont _ q' ?_ g1
          rw [PRep.bool_eq hx, PRep.bool_eq hy]
          simp only [fkB] at h3
          split at h3
          · rename_i hu
            exact run_equalIn_bool hu d
          · cases h3
        · cases he

theorem snd_eqa {neg : Bool} {t t' : TypeId} {ks : List FK} {x y : Operand} {x' y' : Opd} (ho : o.op = .binOp (if neg then .neq else .eql) t x y t') (ht : flatT P t ks = true) (hx : okOpd x x' = true) (hy : okOpd y y' = true) {c : Prop} {r : AV}
    (h : Ze fr L (.eqa neg ks x' y') = some (c, r)) : Val1 P o fr L c r := by
  simp only [Ze] at h
  split at h
  · rename_i cx p cy q ex ey
    obtain ⟨e, e1, e2⟩ := Option.map_eq_some_iff.1 h
    simp only [Prod.mk.injEq] at e2
    obtain ⟨rfl, rfl⟩ := e2
    refine Val1.same fun E B w ι a hs ⟨h1, h2⟩ => ⟨.bool (if neg then !e else e), ?_, rfl⟩
    obtain ⟨vs, ev, hv⟩ := rdP hs.2.1 hx ex h1
    obtain ⟨us, eu, hu⟩ := rdP hs.2.1 hy ey h2
    unfold flatT at ht
    split at ht
    · rename_i fs hfs
      simp only [Bool.and_eq_true, Bool.not_eq_true'] at ht
      obtain ⟨⟨k1, k2⟩, k3⟩ := ht
      have hF : P.fieldsOf t = fs := by simp [Program.fieldsOf, hfs]
      have hE : (Op.equal t (.agg vs.toArray) (.agg us.toArray)).run P w = .ok e w := by
        show (Op.equalIn (9999 + 1) t _ _).run P w = _
        rw [run_equalIn_struct w 9999 t _ _ (by rw [hF]; exact hfs) k2, hF]
        exact eqL_fields fs.toList ks 0 p q _ _ e k1 e1 (by simpa using hv) (by simpa using hu) 9998
      have hG : ∀ op : BinOp, (eqGuard op t x y (.agg vs.toArray) (.agg us.toArray)).run P w = .ok () w := by
        intro op
        unfold eqGuard
        cases op <;> simp [k3]
      simp only [execOp, ho, Sem.run_bind, ev, eu, hG, Result.andThen_ok]
      cases neg
      · simp only [Bool.false_eq_true, if_false, binOp, Sem.run_bind, hE, Result.andThen_ok]; rfl
      · simp only [if_true, binOp, Sem.run_bind, hE, Result.andThen_ok]; rfl
    · cases ht
  · cases h
end
end Go.Proofs.YtpddiepfolfnoaaDoor
