/- Whole bodies: what awp says of a body holds of its run; contracts out of bodies. -/
import Derived.Test.YtpddiepfolfnoaaDoorA17
namespace Go.Proofs.YtpddiepfolfnoaaDoor
set_option linter.unusedVariables false
set_option linter.unusedSimpArgs false
set_option linter.defProp false

section
variable {P : Program} {E : Envt} {B : Base} {w w' : World} {L L' : Objs} {ι ι' : Key → Value} {fr : List AV} {a : Act} {o : Oper} {X : Nat → Prop}

theorem isFz_eq {i : IOper} (h : isFz i = true) : ∃ x, i = ⟨none, .fz x, none⟩ := by
  unfold isFz at h
  split at h
  · exact ⟨_, rfl⟩
  · cases h

theorem awpOps_fz {Y : List PV} {x : Opd} {is : List IOper} {K : List AV → Objs → Prop} (h : awpOps P E Y (⟨none, .fz x, none⟩ :: is) fr L K) (hs : StF E B w L ι fr a) : ∃ fr' L', awpOps P E Y is fr' L' K ∧ StF E B w L' ι fr' a := by
  simp only [awpOps] at h
  split at h
  · rename_i k z es hk; exact ⟨_, _, h, fz_ok hs hk⟩
  · exact ⟨_, _, h, hs⟩

theorem awpOps_sound {Y : List PV} {ops : Array Oper} {K : List AV → Objs → Prop} {Q : Exit → Act → World → Prop} (hK : ∀ fr L ι a w, K fr L → StF E B w L ι fr a → Q .normal a w) : ∀ (is : List IOper) (os : List Oper) (fr : List AV) (L : Objs) (ι : Key → Value) (a : Act) (w : World),
    chkOps P ops os is = true → awpOps P E Y is fr L K → StF E B w L ι fr a → wpList P ops Q os a w := by
  intro is
  induction is with
  | nil =>
    intro os fr L ι a w hchk h hs
    simp only [chkOps, List.isEmpty_iff] at hchk
    subst hchk
    exact wpList_nil (hK fr L ι a w h hs)
  | cons i is ih =>
    intro os fr L ι a w hchk h hs
    simp only [chkOps] at hchk
    by_cases hf : isFz i = true
    · rw [if_pos hf] at hchk
      obtain ⟨x, rfl⟩ := isFz_eq hf
      obtain ⟨fr', L', h', hs'⟩ := awpOps_fz h hs
      exact ih os fr' L' ι a w hchk h' hs'
    · rw [if_neg hf] at hchk
      split at hchk
      · rename_i o os'
        simp only [Bool.and_eq_true] at hchk
        refine wpList_step fun Kc hKc => ?_
        exact oper_sound hchk.1 (by simpa using hf) h hs (fun fr' L' ι' a' w' h' hs' => hKc a' w' (ih os' fr' L' ι' a' w' hchk.2 h' hs'))
      · cases hchk

/-- What a check of regions that draw their order must give. -/
def DrawOk (P : Program) (D : Array Oper → List IOper → Bool) : Prop :=
  ∀ (E : Envt) (B : Base) (Y : List PV) (ops : Array Oper) (is : List IOper) (id : Nat) (fr : List AV) (L : Objs) (ι : Key → Value) (a : Act) (w : World) (K : List AV → Objs → Prop) (Q : Exit → Act → World → Prop),
    (∀ fr L ι a w, K fr L → StF E B w L ι fr a → Q .normal a w) → chkOps P ops ops.toList is = true → D ops is = true → awpOps P E Y is fr L K → StF E B w L ι fr a → (Code.region id ops true).wp P Q a w

theorem awp_sound {D : Array Oper → List IOper → Bool} (hD : DrawOk P D) : ∀ (ic : IC) (c : Code) (fr : List AV) (L : Objs) (Q : AQ), chkC P D ic c = true → awp P E ic fr L Q → AWp P E c fr L Q := by
  intro ic
  induction ic with
  | skip => intro c fr L Q hc h; cases c <;> simp [chkC] at hc; exact AWp.skip h
  | reg ops =>
    intro c fr L Q hc h
    cases c with
    | region id os draw =>
      cases draw with
      | true => simp [chkC] at hc
      | false =>
        simp only [chkC] at hc
        intro B w ι a hs
        refine wp_region_list ?_
        exact awpOps_sound (Q := Q.conc E B) (fun fr L ι a w hk hs => ⟨fr, L, ι, hk, hs⟩) ops os.toList fr L ι a w hc h hs
    | _ => simp [chkC] at hc
  | drg ops =>
    intro c fr L Q hc h
    cases c with
    | region id os draw =>
      cases draw with
      | false => simp [chkC] at hc
      | true =>
        simp only [chkC, Bool.and_eq_true] at hc
        intro B w ι a hs
        obtain ⟨Y, h⟩ := h
        exact hD E B Y os ops id fr L ι a w _ (Q.conc E B) (fun fr L ι a w hk hs => ⟨fr, L, ι, hk, hs⟩) hc.1 hc.2 h hs
    | _ => simp [chkC] at hc
  | seq x y ihx ihy =>
    intro c fr L Q hc h
    cases c with
    | seq a b =>
      simp only [chkC, Bool.and_eq_true] at hc
      refine AWp.seq ((ihx a fr L _ hc.1 h).mono ?_)
      intro e fr L hq
      cases e <;> first | exact ihy b fr L Q hc.2 hq | exact hq
    | _ => simp [chkC] at hc
  | cond d x y ihx ihy =>
    intro c fr L Q hc h
    cases c with
    | cond c a b =>
      simp only [chkC, Bool.and_eq_true] at hc
      simp only [awp] at h
      split at h
      · rename_i t ht
        refine AWp.cond (b := t) (fun B w ι ac hs => ?_) (fun e => ihx a fr L Q hc.1.2 (h.1 e)) (fun e => ihy b fr L Q hc.2 (h.2 e))
        have := rdOk hs.2.1 hc.1.1
        rw [ht] at this
        exact PRep.bool_eq this
      · exact h.elim
    | _ => simp [chkC] at hc
  | block id x ih =>
    intro c fr L Q hc h
    cases c with
    | block j a =>
      simp only [chkC, Bool.and_eq_true, beq_iff_eq] at hc
      obtain ⟨rfl, hc⟩ := hc
      exact AWp.block (ih a fr L _ hc h)
    | _ => simp [chkC] at hc
  | loop x ih =>
    intro c fr L Q hc h
    cases c with
    | loop a =>
      simp only [chkC] at hc
      obtain ⟨I, ⟨n, fr0, L0, e1, e2, h0⟩, hr⟩ := h
      intro B w ι ac hs
      refine AWp.loop (Q := Q) I (fun n fr L hi => ?_) n h0 B w ι ac (hs.weak e1 e2)
      intro B w ι ac hs
      refine wp_mono (ih a fr L _ hc (hr n fr L hi) B w ι ac hs) ?_
      rintro e a' w' ⟨fr', L', ι', q, s⟩
      cases e with
      | normal => obtain ⟨m, fr2, L2, hm, e1, e2, hi⟩ := q; exact ⟨fr2, L2, ι', ⟨m, hm, hi⟩, s.weak e1 e2⟩
      | _ => exact ⟨fr', L', ι', q, s⟩
    | _ => simp [chkC] at hc
  | exit id =>
    intro c fr L Q hc h
    cases c with
    | exit j => simp only [chkC, beq_iff_eq] at hc; subst hc; exact AWp.exit h
    | _ => simp [chkC] at hc
  | ret =>
    intro c fr L Q hc h
    cases c with
    | ret => exact AWp.ret h
    | _ => simp [chkC] at hc
  | dead => intro c fr L Q hc h; exact h.elim
  | cut x ih =>
    intro c fr L Q hc h
    simp only [chkC] at hc
    obtain ⟨fr', L', e1, e2, h⟩ := h
    intro B w ι ac hs
    exact ih c fr' L' Q hc h B w ι ac (hs.weak e1 e2)
end
end Go.Proofs.YtpddiepfolfnoaaDoor
