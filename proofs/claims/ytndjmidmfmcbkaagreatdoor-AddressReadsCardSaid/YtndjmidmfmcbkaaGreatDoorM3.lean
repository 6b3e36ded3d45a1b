
/- Own texts, put together: A22 A23 A25 A29 A30. -/
import Derived.Test.YtndjmidmfmcbkaaGreatDoorM2
import Derived.Lib.Builder
import Derived.Lib.UnsafeStr
import Derived.Lib.AppendStr
/- Rules for reckoning with awp, and contracts used at calls. -/
namespace Go.Proofs.YtndjmidmfmcbkaaGreatDoor
set_option linter.unusedVariables false
set_option linter.unusedSimpArgs false
set_option linter.defProp false

def chkF (P : Program) (fn : Func) (ic : IC) (rs : List IRes) (n : Nat) : Bool :=
  match fn.body with
  | some c => chkC P okDraw ic c && okResL P fn.results.toList rs && fn.ntmps == n
  | none => false

section
variable {P : Program} {E : Envt}

theorem pcallF (hm : P.follows .mixedOrders = true) {f : FuncId} {fn : Func} {ic : IC} {rs : List IRes} {args : List PV} {n : Nat} {φ : PV → Prop} (hf : P.funcs[f]? = some fn) (hc : chkF P fn ic rs n = true)
    (h : awp P E ic (args.map .p ++ List.replicate (n - args.length) .any) [] (retQ rs fun x _ => φ x)) : PCall P E f args φ := by
  unfold chkF at hc
  split at hc
  · rename_i c hb
    simp only [Bool.and_eq_true, beq_iff_eq] at hc
    exact pcall_of_awp (drawOk hm) hf hb hc.2 hc.1.1 hc.1.2 h
  · cases hc

def thenC (P : Program) (E : Envt) (y : IC) (Q : AQ) : AQ := thenQ (fun fr L => awp P E y fr L Q) Q
def BrC (P : Program) (E : Envt) (b : Bool) (x y : IC) (fr : List AV) (L : Objs) (Q : AQ) : Prop := BrQ b (awp P E x fr L Q) (awp P E y fr L Q)
def LoopC (P : Program) (E : Envt) (x : IC) (fr : List AV) (L : Objs) (Q : AQ) : Prop := awp P E (.loop x) fr L Q
def DrgC (P : Program) (E : Envt) (ops : List IOper) (fr : List AV) (L : Objs) (K : List AV → Objs → Prop) : Prop := ∃ X, awpOps P E X ops fr L K
def contO (P : Program) (E : Envt) (X : List PV) (is : List IOper) (K : List AV → Objs → Prop) : List AV → Objs → Prop := fun fr L => awpOps P E X is fr L K
def EndR (I : Nat → List AV → Objs → Prop) (n : Nat) (fr : List AV) (L : Objs) : Prop := ∃ m fr' L', m < n ∧ Za fr fr' ∧ Zc L' L ∧ I m fr' L'
def roundQ (I : Nat → List AV → Objs → Prop) (n : Nat) (Q : AQ) : AQ := thenQ (EndR I n) Q
def CutC (P : Program) (E : Envt) (x : IC) (fr : List AV) (L : Objs) (Q : AQ) : Prop := ∃ fr' L', Za fr fr' ∧ Zc L' L ∧ awp P E x fr' L' Q
def MidK (M : List AV → Objs → Prop) (fr : List AV) (L : Objs) : Prop := ∃ fr' L', Za fr fr' ∧ Zc L' L ∧ M fr' L'
def midQ (M : List AV → Objs → Prop) (Q : AQ) : AQ := thenQ (MidK M) Q

variable {fr : List AV} {L : Objs} {Q : AQ} {X : List PV} {K : List AV → Objs → Prop}
theorem awp_skip : awp P E .skip fr L Q = Q .normal fr L := rfl
theorem awp_exit {i : Nat} : awp P E (.exit i) fr L Q = Q (.exit i) fr L := rfl
theorem awp_ret : awp P E .ret fr L Q = Q .ret fr L := rfl
theorem awp_seq {x y : IC} : awp P E (.seq x y) fr L Q = awp P E x fr L (thenC P E y Q) := rfl
theorem awp_block {i : Nat} {x : IC} : awp P E (.block i x) fr L Q = awp P E x fr L (blockQ i Q) := rfl
theorem awp_reg {ops : List IOper} : awp P E (.reg ops) fr L Q = awpOps P E [] ops fr L (Q .normal) := rfl
theorem awp_drg {ops : List IOper} : awp P E (.drg ops) fr L Q = DrgC P E ops fr L (Q .normal) := rfl
theorem awp_loop {x : IC} : awp P E (.loop x) fr L Q = LoopC P E x fr L Q := rfl
theorem awp_cond {c : Opd} {x y : IC} : awp P E (.cond c x y) fr L Q = (match rd fr c with | .p (.bool b) => BrC P E b x y fr L Q | _ => False) := rfl
theorem thenC_n {y : IC} : thenC P E y Q .normal fr L = awp P E y fr L Q := rfl
theorem thenC_r {y : IC} : thenC P E y Q .ret fr L = Q .ret fr L := rfl
theorem thenC_e {y : IC} {i : Nat} : thenC P E y Q (.exit i) fr L = Q (.exit i) fr L := rfl
theorem blockQ_n {i : Nat} : blockQ i Q .normal fr L = Q .normal fr L := rfl
theorem blockQ_r {i : Nat} : blockQ i Q .ret fr L = Q .ret fr L := rfl
theorem blockQ_e {i j : Nat} : blockQ i Q (.exit j) fr L = if j = i then Q .normal fr L else Q (.exit j) fr L := rfl
theorem roundQ_n {I : Nat → List AV → Objs → Prop} {n : Nat} : roundQ I n Q .normal fr L = EndR I n fr L := rfl
theorem awp_cut {x : IC} : awp P E (.cut x) fr L Q = CutC P E x fr L Q := rfl
theorem midQ_n {M : List AV → Objs → Prop} : midQ M Q .normal fr L = MidK M fr L := rfl
theorem midQ_r {M : List AV → Objs → Prop} : midQ M Q .ret fr L = Q .ret fr L := rfl
theorem midQ_e {M : List AV → Objs → Prop} {i : Nat} : midQ M Q (.exit i) fr L = Q (.exit i) fr L := rfl
theorem roundQ_r {I : Nat → List AV → Objs → Prop} {n : Nat} : roundQ I n Q .ret fr L = Q .ret fr L := rfl
theorem roundQ_e {I : Nat → List AV → Objs → Prop} {n i : Nat} : roundQ I n Q (.exit i) fr L = Q (.exit i) fr L := rfl
theorem retQ_r {rs : List IRes} {φ : PV → Objs → Prop} : retQ rs φ .ret fr L = RetK (Zaw fr L rs) φ L := rfl
theorem retQ_n {rs : List IRes} {φ : PV → Objs → Prop} : retQ rs φ .normal fr L = RetK (Zaw fr L rs) φ L := rfl
theorem BrC_true {x y : IC} : BrC P E true x y fr L Q = awp P E x fr L Q := by simp [BrC, BrQ]
theorem BrC_false {x y : IC} : BrC P E false x y fr L Q = awp P E y fr L Q := by simp [BrC, BrQ]
theorem br {b : Bool} {x y : IC} (h1 : b = true → awp P E x fr L Q) (h2 : b = false → awp P E y fr L Q) : BrC P E b x y fr L Q := ⟨h1, h2⟩
theorem loop_intro {x : IC} (I : Nat → List AV → Objs → Prop) (n : Nat) (fr' : List AV) (L' : Objs) (h1 : Za fr fr') (h2 : Zc L' L) (h0 : I n fr' L') (hr : ∀ n fr L, I n fr L → awp P E x fr L (roundQ I n Q)) : LoopC P E x fr L Q := ⟨I, ⟨n, fr', L', h1, h2, h0⟩, hr⟩
theorem end_round {I : Nat → List AV → Objs → Prop} {n : Nat} (m : Nat) (fr' : List AV) (L' : Objs) (hm : m < n) (h1 : Za fr fr') (h2 : Zc L' L) (h0 : I m fr' L') : EndR I n fr L := ⟨m, fr', L', hm, h1, h2, h0⟩
theorem to_mid {M : List AV → Objs → Prop} (fr' : List AV) (L' : Objs) (h1 : Za fr fr') (h2 : Zc L' L) (h0 : M fr' L') : MidK M fr L := ⟨fr', L', h1, h2, h0⟩
theorem Le_refl : ∀ fr : List AV, Za fr fr
  | [] => trivial
  | a :: as => ⟨by unfold Zb; split <;> trivial, Le_refl as⟩
theorem map_kill_p (k : Key) (cs : List PV) : (cs.map AV.p).map (fun x => AV.kill k x) = cs.map AV.p := by
  rw [List.map_map]; exact List.map_congr_left fun x _ => rfl
theorem map_thaw_p (k : Key) (z : Nat) (es : List (List PV)) (cs : List PV) : (cs.map AV.p).map (fun x => AV.thaw k z es x) = cs.map AV.p := by
  rw [List.map_map]; exact List.map_congr_left fun x _ => rfl
theorem cut_same {x : IC} (h2 : Zc L L) (h : awp P E x fr L Q) : CutC P E x fr L Q := ⟨fr, L, Le_refl fr, h2, h⟩

theorem awpOps_mono {K' : List AV → Objs → Prop} (hk : ∀ fr L, K fr L → K' fr L) : ∀ (is : List IOper) (fr : List AV) (L : Objs), awpOps P E X is fr L K → awpOps P E X is fr L K' := by
  intro is
  induction is with
  | nil => intro fr L h; exact hk fr L h
  | cons i is ih =>
    obtain ⟨d, op, gd⟩ := i
    intro fr L h
    have hcall : ∀ f as d fr, CallOp P E f as L d fr (fun fr L => awpOps P E X is fr L K) → CallOp P E f as L d fr (fun fr L => awpOps P E X is fr L K') := by
      intro f as d fr h
      rcases h with ⟨φ, h1, h2⟩ | ⟨bk, post, h1, h2, h3, h4⟩ | ⟨i0, h⟩
      · exact .inl ⟨φ, h1, fun x hx => ih _ _ (h2 x hx)⟩
      · refine .inr (.inl ⟨bk, post, h1, h2, h3, fun r os' hp => ?_⟩)
        have := h4 r os' hp
        cases r with
        | p x => exact ih _ _ this
        | fr es e z => cases d with
          | none => exact ih _ _ this
          | some d => exact ih _ _ this
      · refine .inr (.inr ⟨i0, fun w X' ι vs a1 a2 a3 a4 a5 => (h w X' ι vs a1 a2 a3 a4 a5).mono ?_⟩)
        rintro e w' ⟨v, r, L', ι', b1, b2, b3⟩
        exact ⟨v, r, L', ι', b1, ih _ _ b2, b3⟩
    cases gd with
    | none =>
      cases op with
      | call f args => exact ⟨h.1, hcall _ _ _ _ h.2⟩
      | pcall n f args => exact ⟨h.1, ih _ _ h.2⟩
      | dcall b f args =>
        obtain ⟨h0, k, t, cs, post, h1, h2, h3, h4, h5, h6⟩ := h
        exact ⟨h0, k, t, cs, post, h1, h2, h3, h4, h5, fun x cs' hp => ih _ _ (h6 x cs' hp)⟩
      | callv g args =>
        simp only [awpOps] at h ⊢
        split at h
        · exact ⟨h.1, h.2.1, h.2.2.1, h.2.2.2.1, hcall _ _ _ _ h.2.2.2.2⟩
        · exact h.elim
      | fz x =>
        simp only [awpOps] at h ⊢
        split at h
        · exact ih _ _ h
        · exact ih _ _ h
      | hole x => exact ih _ _ h
      | isn x =>
        simp only [awpOps] at h ⊢
        split at h
        · exact ⟨h.1, fun b hb => ih _ _ (h.2 b hb)⟩
        · exact h.elim
      | _ =>
        simp only [awpOps] at h ⊢
        split at h
        · exact ⟨h.1, ih _ _ h.2⟩
        · exact h.elim
    | some q =>
      obtain ⟨s, want⟩ := q
      simp only [awpOps] at h ⊢
      split at h
      · cases op with
        | call f args =>
          simp only at h ⊢
          rcases h with ⟨h1, ⟨x, h2, h3⟩ | ⟨h2, h3⟩⟩
          · exact ⟨h1, .inl ⟨x, h2, ih _ _ h3⟩⟩
          · exact ⟨h1, .inr ⟨fun e => hcall _ _ _ _ (h2 e), fun e => ih _ _ (h3 e)⟩⟩
        | pcall n f args => simp only at h ⊢; exact ⟨h.1, ih _ _ h.2⟩
        | callv g args =>
          simp only at h ⊢
          split at h
          · rcases h with ⟨h0, h1, ⟨x, h2, h3⟩ | ⟨h2, h3⟩⟩
            · exact ⟨h0, h1, .inl ⟨x, h2, ih _ _ h3⟩⟩
            · exact ⟨h0, h1, .inr ⟨fun e => hcall _ _ _ _ (h2 e), fun e => ih _ _ (h3 e)⟩⟩
          · exact ⟨h.1, ih _ _ h.2⟩
        | _ =>
          simp only at h ⊢
          split at h
          · exact ⟨h.1, ih _ _ h.2⟩
          · exact ⟨h.1, h.2.1, ih _ _ h.2.2⟩
      · exact h.elim

theorem awp_mono : ∀ (x : IC) (fr : List AV) (L : Objs) (Q Q' : AQ), (∀ e fr L, Q e fr L → Q' e fr L) → awp P E x fr L Q → awp P E x fr L Q' := by
  intro x
  induction x with
  | skip => intro fr L Q Q' hq h; exact hq _ _ _ h
  | reg ops => intro fr L Q Q' hq h; exact awpOps_mono (hq .normal) ops fr L h
  | drg ops => intro fr L Q Q' hq h; obtain ⟨Y, h⟩ := h; exact ⟨Y, awpOps_mono (hq .normal) ops fr L h⟩
  | seq x y ihx ihy =>
    intro fr L Q Q' hq h
    refine ihx fr L _ _ (fun e fr L h => ?_) h
    cases e <;> first | exact ihy fr L Q Q' hq h | exact hq _ _ _ h
  | cond c x y ihx ihy =>
    intro fr L Q Q' hq h
    simp only [awp] at h ⊢
    split at h
    · exact ⟨fun e => ihx fr L Q Q' hq (h.1 e), fun e => ihy fr L Q Q' hq (h.2 e)⟩
    · exact h.elim
  | block i x ih =>
    intro fr L Q Q' hq h
    refine ih fr L _ _ (fun e fr L h => ?_) h
    cases e with
    | exit j =>
      simp only [blockQ] at h ⊢
      split at h
      · rename_i hj; rw [if_pos hj]; exact hq _ _ _ h
      · rename_i hj; rw [if_neg hj]; exact hq _ _ _ h
    | _ => exact hq _ _ _ h
  | loop x ih =>
    intro fr L Q Q' hq h
    obtain ⟨I, h0, hr⟩ := h
    refine ⟨I, h0, fun n fr L hi => ih fr L _ _ (fun e fr L h => ?_) (hr n fr L hi)⟩
    cases e with
    | normal => exact h
    | _ => exact hq _ _ _ h
  | exit i => intro fr L Q Q' hq h; exact hq _ _ _ h
  | ret => intro fr L Q Q' hq h; exact hq _ _ _ h
  | dead => intro fr L Q Q' hq h; exact h.elim
  | cut x ih => intro fr L Q Q' hq h; obtain ⟨fr', L', h1, h2, h⟩ := h; exact ⟨fr', L', h1, h2, ih fr' L' Q Q' hq h⟩

/-- Two ways that meet again. -/
theorem br_join {b : Bool} {x y r : IC} (M : List AV → Objs → Prop) (h1 : b = true → awp P E x fr L (midQ M Q)) (h2 : b = false → awp P E y fr L (midQ M Q)) (hM : ∀ fr L, M fr L → awp P E r fr L Q) : BrC P E b x y fr L (thenC P E (.cut r) Q) := by
  have hq : ∀ e fr L, midQ M Q e fr L → thenC P E (.cut r) Q e fr L := by
    intro e fr L h
    cases e with
    | normal => obtain ⟨fr', L', a1, a2, a3⟩ := h; exact ⟨fr', L', a1, a2, hM fr' L' a3⟩
    | _ => exact h
  exact ⟨fun e => awp_mono x fr L _ _ hq (h1 e), fun e => awp_mono y fr L _ _ hq (h2 e)⟩
theorem drg0 {ops : List IOper} (h : awpOps P E [] ops fr L K) : DrgC P E ops fr L K := ⟨_, h⟩
theorem drg1 {ops : List IOper} {x1 : PV} (h : awpOps P E [x1] ops fr L K) : DrgC P E ops fr L K := ⟨_, h⟩
def isOp : IOp → Bool
  | .call .. | .pcall .. | .dcall .. | .callv .. | .fz .. | .hole .. | .isn .. => false
  | _ => true
def OpsK (P : Program) (E : Envt) (X : List PV) (q : Option (Prop × List AV × Objs)) (is : List IOper) (K : List AV → Objs → Prop) : Prop :=
  match q with
  | some (c, fr', L') => c ∧ awpOps P E X is fr' L' K
  | none => False
def GdK (P : Program) (E : Envt) (X : List PV) (pl : Bool) (g : Option Bool) (q : Option (Prop × AV)) (d : Option Nat) (is : List IOper) (fr : List AV) (L : Objs) (K : List AV → Objs → Prop) : Prop :=
  match g with
  | some c0 => match q with
    | some (c, r) => (c0 = true → c) ∧ awpOps P E X is (Zf fr d (.g c0 r)) L K
    | none => pl = true ∧ c0 = false ∧ awpOps P E X is (Zf fr d (.g c0 .any)) L K
  | none => False
theorem OpsK_some {c : Prop} {fr' : List AV} {L' : Objs} {is : List IOper} : OpsK P E X (some (c, fr', L')) is K = (c ∧ awpOps P E X is fr' L' K) := rfl
theorem GdK_none {c0 : Bool} {d : Option Nat} {is : List IOper} : GdK P E X true (some c0) none d is fr L K = (c0 = false ∧ awpOps P E X is (Zf fr d (.g c0 .any)) L K) := by simp [GdK]
theorem GdK_some {pl c0 : Bool} {c : Prop} {r : AV} {d : Option Nat} {is : List IOper} : GdK P E X pl (some c0) (some (c, r)) d is fr L K = ((c0 = true → c) ∧ awpOps P E X is (Zf fr d (.g c0 r)) L K) := rfl
theorem ops_nil : awpOps P E X [] fr L K = K fr L := rfl
theorem ops_op {d : Option Nat} {op : IOp} {is : List IOper} (h : isOp op = true) : awpOps P E X (⟨d, op, none⟩ :: is) fr L K = OpsK P E X (Zd d fr L op) is K := by
  cases op <;> first | rfl | (simp [isOp] at h)
theorem ops_gd {d : Option Nat} {op : IOp} {is : List IOper} {s : Nat} {want : Bool} (h : isOp op = true) : awpOps P E X (⟨d, op, some (s, want)⟩ :: is) fr L K = GdK P E X (plainOp op) (Zg fr s want) (Ze fr L op) d is fr L K := by
  cases op <;> first | rfl | (simp [isOp] at h)
def StepK (P : Program) (E : Envt) (X : List PV) (q : Option (Prop × AV)) (d : Option Nat) (is : List IOper) (fr : List AV) (L : Objs) (K : List AV → Objs → Prop) : Prop :=
  match q with
  | some (c, r) => c ∧ awpOps P E X is (Zf fr d r) L K
  | none => False
theorem StepK_some {c : Prop} {r : AV} {d : Option Nat} {is : List IOper} : StepK P E X (some (c, r)) d is fr L K = (c ∧ awpOps P E X is (Zf fr d r) L K) := rfl
theorem StepK_eq {op : IOp} {d : Option Nat} {is : List IOper} (h : Zd d fr L op = (Ze fr L op).map (fun q => (q.1, Zf fr d q.2, L))) : OpsK P E X (Zd d fr L op) is K = StepK P E X (Ze fr L op) d is fr L K := by
  rw [h]
  cases Ze fr L op <;> rfl
theorem o_mov {d : Option Nat} {is : List IOper} {_x} : awpOps P E X (⟨d, .mov _x, none⟩ :: is) fr L K = StepK P E X (Ze fr L (.mov _x)) d is fr L K := by rw [ops_op rfl]; exact StepK_eq rfl
theorem g_mov {d : Option Nat} {is : List IOper} {s : Nat} {want : Bool} {_x} : awpOps P E X (⟨d, .mov _x, some (s, want)⟩ :: is) fr L K = GdK P E X true (Zg fr s want) (Ze fr L (.mov _x)) d is fr L K := ops_gd rfl
theorem o_pick {d : Option Nat} {is : List IOper} {_c} {_a} {_b} : awpOps P E X (⟨d, .pick _c _a _b, none⟩ :: is) fr L K = StepK P E X (Ze fr L (.pick _c _a _b)) d is fr L K := by rw [ops_op rfl]; exact StepK_eq rfl
theorem g_pick {d : Option Nat} {is : List IOper} {s : Nat} {want : Bool} {_c} {_a} {_b} : awpOps P E X (⟨d, .pick _c _a _b, some (s, want)⟩ :: is) fr L K = GdK P E X true (Zg fr s want) (Ze fr L (.pick _c _a _b)) d is fr L K := ops_gd rfl
theorem o_bin {d : Option Nat} {is : List IOper} {_b} {_x} {_y} : awpOps P E X (⟨d, .bin _b _x _y, none⟩ :: is) fr L K = StepK P E X (Ze fr L (.bin _b _x _y)) d is fr L K := by rw [ops_op rfl]; exact StepK_eq rfl
theorem g_bin {d : Option Nat} {is : List IOper} {s : Nat} {want : Bool} {_b} {_x} {_y} : awpOps P E X (⟨d, .bin _b _x _y, some (s, want)⟩ :: is) fr L K = GdK P E X true (Zg fr s want) (Ze fr L (.bin _b _x _y)) d is fr L K := ops_gd rfl
theorem o_bnb {d : Option Nat} {is : List IOper} {_b} {_x} {_y} : awpOps P E X (⟨d, .bnb _b _x _y, none⟩ :: is) fr L K = StepK P E X (Ze fr L (.bnb _b _x _y)) d is fr L K := by rw [ops_op rfl]; exact StepK_eq rfl
theorem g_bnb {d : Option Nat} {is : List IOper} {s : Nat} {want : Bool} {_b} {_x} {_y} : awpOps P E X (⟨d, .bnb _b _x _y, some (s, want)⟩ :: is) fr L K = GdK P E X true (Zg fr s want) (Ze fr L (.bnb _b _x _y)) d is fr L K := ops_gd rfl
theorem o_eqa {d : Option Nat} {is : List IOper} {_n} {_k} {_x} {_y} : awpOps P E X (⟨d, .eqa _n _k _x _y, none⟩ :: is) fr L K = StepK P E X (Ze fr L (.eqa _n _k _x _y)) d is fr L K := by rw [ops_op rfl]; exact StepK_eq rfl
theorem g_eqa {d : Option Nat} {is : List IOper} {s : Nat} {want : Bool} {_n} {_k} {_x} {_y} : awpOps P E X (⟨d, .eqa _n _k _x _y, some (s, want)⟩ :: is) fr L K = GdK P E X true (Zg fr s want) (Ze fr L (.eqa _n _k _x _y)) d is fr L K := ops_gd rfl
theorem o_not {d : Option Nat} {is : List IOper} {_x} : awpOps P E X (⟨d, .not _x, none⟩ :: is) fr L K = StepK P E X (Ze fr L (.not _x)) d is fr L K := by rw [ops_op rfl]; exact StepK_eq rfl
theorem g_not {d : Option Nat} {is : List IOper} {s : Nat} {want : Bool} {_x} : awpOps P E X (⟨d, .not _x, some (s, want)⟩ :: is) fr L K = GdK P E X true (Zg fr s want) (Ze fr L (.not _x)) d is fr L K := ops_gd rfl
theorem o_neg {d : Option Nat} {is : List IOper} {_x} : awpOps P E X (⟨d, .neg _x, none⟩ :: is) fr L K = StepK P E X (Ze fr L (.neg _x)) d is fr L K := by rw [ops_op rfl]; exact StepK_eq rfl
theorem g_neg {d : Option Nat} {is : List IOper} {s : Nat} {want : Bool} {_x} : awpOps P E X (⟨d, .neg _x, some (s, want)⟩ :: is) fr L K = GdK P E X true (Zg fr s want) (Ze fr L (.neg _x)) d is fr L K := ops_gd rfl
theorem o_len {d : Option Nat} {is : List IOper} {_x} : awpOps P E X (⟨d, .len _x, none⟩ :: is) fr L K = StepK P E X (Ze fr L (.len _x)) d is fr L K := by rw [ops_op rfl]; exact StepK_eq rfl
theorem g_len {d : Option Nat} {is : List IOper} {s : Nat} {want : Bool} {_x} : awpOps P E X (⟨d, .len _x, some (s, want)⟩ :: is) fr L K = GdK P E X true (Zg fr s want) (Ze fr L (.len _x)) d is fr L K := ops_gd rfl
theorem o_sln {d : Option Nat} {is : List IOper} {_x} : awpOps P E X (⟨d, .sln _x, none⟩ :: is) fr L K = StepK P E X (Ze fr L (.sln _x)) d is fr L K := by rw [ops_op rfl]; exact StepK_eq rfl
theorem g_sln {d : Option Nat} {is : List IOper} {s : Nat} {want : Bool} {_x} : awpOps P E X (⟨d, .sln _x, some (s, want)⟩ :: is) fr L K = GdK P E X true (Zg fr s want) (Ze fr L (.sln _x)) d is fr L K := ops_gd rfl
theorem o_mx {d : Option Nat} {is : List IOper} {_x} {_y} : awpOps P E X (⟨d, .mx _x _y, none⟩ :: is) fr L K = StepK P E X (Ze fr L (.mx _x _y)) d is fr L K := by rw [ops_op rfl]; exact StepK_eq rfl
theorem g_mx {d : Option Nat} {is : List IOper} {s : Nat} {want : Bool} {_x} {_y} : awpOps P E X (⟨d, .mx _x _y, some (s, want)⟩ :: is) fr L K = GdK P E X true (Zg fr s want) (Ze fr L (.mx _x _y)) d is fr L K := ops_gd rfl
theorem o_mn {d : Option Nat} {is : List IOper} {_x} {_y} : awpOps P E X (⟨d, .mn _x _y, none⟩ :: is) fr L K = StepK P E X (Ze fr L (.mn _x _y)) d is fr L K := by rw [ops_op rfl]; exact StepK_eq rfl
theorem g_mn {d : Option Nat} {is : List IOper} {s : Nat} {want : Bool} {_x} {_y} : awpOps P E X (⟨d, .mn _x _y, some (s, want)⟩ :: is) fr L K = GdK P E X true (Zg fr s want) (Ze fr L (.mn _x _y)) d is fr L K := ops_gd rfl
theorem o_idx {d : Option Nat} {is : List IOper} {_x} {_y} : awpOps P E X (⟨d, .idx _x _y, none⟩ :: is) fr L K = StepK P E X (Ze fr L (.idx _x _y)) d is fr L K := by rw [ops_op rfl]; exact StepK_eq rfl
theorem g_idx {d : Option Nat} {is : List IOper} {s : Nat} {want : Bool} {_x} {_y} : awpOps P E X (⟨d, .idx _x _y, some (s, want)⟩ :: is) fr L K = GdK P E X true (Zg fr s want) (Ze fr L (.idx _x _y)) d is fr L K := ops_gd rfl
theorem o_ssl {d : Option Nat} {is : List IOper} {_x} {_l} {_h} : awpOps P E X (⟨d, .ssl _x _l _h, none⟩ :: is) fr L K = StepK P E X (Ze fr L (.ssl _x _l _h)) d is fr L K := by rw [ops_op rfl]; exact StepK_eq rfl
theorem g_ssl {d : Option Nat} {is : List IOper} {s : Nat} {want : Bool} {_x} {_l} {_h} : awpOps P E X (⟨d, .ssl _x _l _h, some (s, want)⟩ :: is) fr L K = GdK P E X true (Zg fr s want) (Ze fr L (.ssl _x _l _h)) d is fr L K := ops_gd rfl
theorem o_vsl {d : Option Nat} {is : List IOper} {_z} {_x} {_l} {_h} : awpOps P E X (⟨d, .vsl _z _x _l _h, none⟩ :: is) fr L K = StepK P E X (Ze fr L (.vsl _z _x _l _h)) d is fr L K := by rw [ops_op rfl]; exact StepK_eq rfl
theorem g_vsl {d : Option Nat} {is : List IOper} {s : Nat} {want : Bool} {_z} {_x} {_l} {_h} : awpOps P E X (⟨d, .vsl _z _x _l _h, some (s, want)⟩ :: is) fr L K = GdK P E X true (Zg fr s want) (Ze fr L (.vsl _z _x _l _h)) d is fr L K := ops_gd rfl
theorem o_ixa {d : Option Nat} {is : List IOper} {_z} {_x} {_y} : awpOps P E X (⟨d, .ixa _z _x _y, none⟩ :: is) fr L K = StepK P E X (Ze fr L (.ixa _z _x _y)) d is fr L K := by rw [ops_op rfl]; exact StepK_eq rfl
theorem g_ixa {d : Option Nat} {is : List IOper} {s : Nat} {want : Bool} {_z} {_x} {_y} : awpOps P E X (⟨d, .ixa _z _x _y, some (s, want)⟩ :: is) fr L K = GdK P E X true (Zg fr s want) (Ze fr L (.ixa _z _x _y)) d is fr L K := ops_gd rfl
theorem o_fla {d : Option Nat} {is : List IOper} {_o} {_x} : awpOps P E X (⟨d, .fla _o _x, none⟩ :: is) fr L K = StepK P E X (Ze fr L (.fla _o _x)) d is fr L K := by rw [ops_op rfl]; exact StepK_eq rfl
theorem g_fla {d : Option Nat} {is : List IOper} {s : Nat} {want : Bool} {_o} {_x} : awpOps P E X (⟨d, .fla _o _x, some (s, want)⟩ :: is) fr L K = GdK P E X true (Zg fr s want) (Ze fr L (.fla _o _x)) d is fr L K := ops_gd rfl
theorem o_fld {d : Option Nat} {is : List IOper} {_o} {_s} {_a} {_x} : awpOps P E X (⟨d, .fld _o _s _a _x, none⟩ :: is) fr L K = StepK P E X (Ze fr L (.fld _o _s _a _x)) d is fr L K := by rw [ops_op rfl]; exact StepK_eq rfl
theorem g_fld {d : Option Nat} {is : List IOper} {s : Nat} {want : Bool} {_o} {_s} {_a} {_x} : awpOps P E X (⟨d, .fld _o _s _a _x, some (s, want)⟩ :: is) fr L K = GdK P E X true (Zg fr s want) (Ze fr L (.fld _o _s _a _x)) d is fr L K := ops_gd rfl
theorem o_ld {d : Option Nat} {is : List IOper} {_s} {_a} {_x} : awpOps P E X (⟨d, .ld _s _a _x, none⟩ :: is) fr L K = StepK P E X (Ze fr L (.ld _s _a _x)) d is fr L K := by rw [ops_op rfl]; exact StepK_eq rfl
theorem g_ld {d : Option Nat} {is : List IOper} {s : Nat} {want : Bool} {_s} {_a} {_x} : awpOps P E X (⟨d, .ld _s _a _x, some (s, want)⟩ :: is) fr L K = GdK P E X true (Zg fr s want) (Ze fr L (.ld _s _a _x)) d is fr L K := ops_gd rfl
theorem o_ldl {d : Option Nat} {is : List IOper} {_s} {_a} {_x} : awpOps P E X (⟨d, .ldl _s _a _x, none⟩ :: is) fr L K = StepK P E X (Ze fr L (.ldl _s _a _x)) d is fr L K := by rw [ops_op rfl]; exact StepK_eq rfl
theorem g_ldl {d : Option Nat} {is : List IOper} {s : Nat} {want : Bool} {_s} {_a} {_x} : awpOps P E X (⟨d, .ldl _s _a _x, some (s, want)⟩ :: is) fr L K = GdK P E X false (Zg fr s want) (Ze fr L (.ldl _s _a _x)) d is fr L K := ops_gd rfl
theorem o_ext {d : Option Nat} {is : List IOper} {_i} {_x} : awpOps P E X (⟨d, .ext _i _x, none⟩ :: is) fr L K = StepK P E X (Ze fr L (.ext _i _x)) d is fr L K := by rw [ops_op rfl]; exact StepK_eq rfl
theorem g_ext {d : Option Nat} {is : List IOper} {s : Nat} {want : Bool} {_i} {_x} : awpOps P E X (⟨d, .ext _i _x, some (s, want)⟩ :: is) fr L K = GdK P E X true (Zg fr s want) (Ze fr L (.ext _i _x)) d is fr L K := ops_gd rfl
theorem o_bld {d : Option Nat} {is : List IOper} {_z} {_p} : awpOps P E X (⟨d, .bld _z _p, none⟩ :: is) fr L K = StepK P E X (Ze fr L (.bld _z _p)) d is fr L K := by rw [ops_op rfl]; exact StepK_eq rfl
theorem g_bld {d : Option Nat} {is : List IOper} {s : Nat} {want : Bool} {_z} {_p} : awpOps P E X (⟨d, .bld _z _p, some (s, want)⟩ :: is) fr L K = GdK P E X true (Zg fr s want) (Ze fr L (.bld _z _p)) d is fr L K := ops_gd rfl
theorem o_cvi {d : Option Nat} {is : List IOper} {_k} {_x} : awpOps P E X (⟨d, .cvi _k _x, none⟩ :: is) fr L K = StepK P E X (Ze fr L (.cvi _k _x)) d is fr L K := by rw [ops_op rfl]; exact StepK_eq rfl
theorem g_cvi {d : Option Nat} {is : List IOper} {s : Nat} {want : Bool} {_k} {_x} : awpOps P E X (⟨d, .cvi _k _x, some (s, want)⟩ :: is) fr L K = GdK P E X true (Zg fr s want) (Ze fr L (.cvi _k _x)) d is fr L K := ops_gd rfl
theorem o_cvs {d : Option Nat} {is : List IOper} {_x} : awpOps P E X (⟨d, .cvs _x, none⟩ :: is) fr L K = StepK P E X (Ze fr L (.cvs _x)) d is fr L K := by rw [ops_op rfl]; exact StepK_eq rfl
theorem g_cvs {d : Option Nat} {is : List IOper} {s : Nat} {want : Bool} {_x} : awpOps P E X (⟨d, .cvs _x, some (s, want)⟩ :: is) fr L K = GdK P E X true (Zg fr s want) (Ze fr L (.cvs _x)) d is fr L K := ops_gd rfl
theorem o_b2s {d : Option Nat} {is : List IOper} {_x} : awpOps P E X (⟨d, .b2s _x, none⟩ :: is) fr L K = StepK P E X (Ze fr L (.b2s _x)) d is fr L K := by rw [ops_op rfl]; exact StepK_eq rfl
theorem g_b2s {d : Option Nat} {is : List IOper} {s : Nat} {want : Bool} {_x} : awpOps P E X (⟨d, .b2s _x, some (s, want)⟩ :: is) fr L K = GdK P E X true (Zg fr s want) (Ze fr L (.b2s _x)) d is fr L K := ops_gd rfl
theorem o_bsl {d : Option Nat} {is : List IOper} {_z} {_p} : awpOps P E X (⟨d, .bsl _z _p, none⟩ :: is) fr L K = StepK P E X (Ze fr L (.bsl _z _p)) d is fr L K := by rw [ops_op rfl]; exact StepK_eq rfl
theorem g_bsl {d : Option Nat} {is : List IOper} {s : Nat} {want : Bool} {_z} {_p} : awpOps P E X (⟨d, .bsl _z _p, some (s, want)⟩ :: is) fr L K = GdK P E X true (Zg fr s want) (Ze fr L (.bsl _z _p)) d is fr L K := ops_gd rfl
theorem o_nck {d : Option Nat} {is : List IOper} {_x} : awpOps P E X (⟨d, .nck _x, none⟩ :: is) fr L K = StepK P E X (Ze fr L (.nck _x)) d is fr L K := by rw [ops_op rfl]; exact StepK_eq rfl
theorem g_nck {d : Option Nat} {is : List IOper} {s : Nat} {want : Bool} {_x} : awpOps P E X (⟨d, .nck _x, some (s, want)⟩ :: is) fr L K = GdK P E X true (Zg fr s want) (Ze fr L (.nck _x)) d is fr L K := ops_gd rfl
theorem o_mkf {d : Option Nat} {is : List IOper} {_f} {_c} : awpOps P E X (⟨d, .mkf _f _c, none⟩ :: is) fr L K = StepK P E X (Ze fr L (.mkf _f _c)) d is fr L K := by rw [ops_op rfl]; exact StepK_eq rfl
theorem g_mkf {d : Option Nat} {is : List IOper} {s : Nat} {want : Bool} {_f} {_c} : awpOps P E X (⟨d, .mkf _f _c, some (s, want)⟩ :: is) fr L K = GdK P E X true (Zg fr s want) (Ze fr L (.mkf _f _c)) d is fr L K := ops_gd rfl
theorem o_cap0 {d : Option Nat} {is : List IOper} {_x} : awpOps P E X (⟨d, .cap0 _x, none⟩ :: is) fr L K = StepK P E X (Ze fr L (.cap0 _x)) d is fr L K := by rw [ops_op rfl]; exact StepK_eq rfl
theorem g_cap0 {d : Option Nat} {is : List IOper} {s : Nat} {want : Bool} {_x} : awpOps P E X (⟨d, .cap0 _x, some (s, want)⟩ :: is) fr L K = GdK P E X true (Zg fr s want) (Ze fr L (.cap0 _x)) d is fr L K := ops_gd rfl
theorem o_vsn {d : Option Nat} {is : List IOper} {_x} {_h} : awpOps P E X (⟨d, .vsn _x _h, none⟩ :: is) fr L K = StepK P E X (Ze fr L (.vsn _x _h)) d is fr L K := by rw [ops_op rfl]; exact StepK_eq rfl
theorem g_vsn {d : Option Nat} {is : List IOper} {s : Nat} {want : Bool} {_x} {_h} : awpOps P E X (⟨d, .vsn _x _h, some (s, want)⟩ :: is) fr L K = GdK P E X true (Zg fr s want) (Ze fr L (.vsn _x _h)) d is fr L K := ops_gd rfl
theorem o_mpl {d : Option Nat} {is : List IOper} {_o} {_z} {_x} {_h} : awpOps P E X (⟨d, .mpl _o _z _x _h, none⟩ :: is) fr L K = StepK P E X (Ze fr L (.mpl _o _z _x _h)) d is fr L K := by rw [ops_op rfl]; exact StepK_eq rfl
theorem g_mpl {d : Option Nat} {is : List IOper} {s : Nat} {want : Bool} {_o} {_z} {_x} {_h} : awpOps P E X (⟨d, .mpl _o _z _x _h, some (s, want)⟩ :: is) fr L K = GdK P E X true (Zg fr s want) (Ze fr L (.mpl _o _z _x _h)) d is fr L K := ops_gd rfl
theorem o_mpn {d : Option Nat} {is : List IOper} {_x} : awpOps P E X (⟨d, .mpn _x, none⟩ :: is) fr L K = StepK P E X (Ze fr L (.mpn _x)) d is fr L K := by rw [ops_op rfl]; exact StepK_eq rfl
theorem g_mpn {d : Option Nat} {is : List IOper} {s : Nat} {want : Bool} {_x} : awpOps P E X (⟨d, .mpn _x, some (s, want)⟩ :: is) fr L K = GdK P E X true (Zg fr s want) (Ze fr L (.mpn _x)) d is fr L K := ops_gd rfl
theorem o_bldg {d : Option Nat} {is : List IOper} {_z} {_p} : awpOps P E X (⟨d, .bldg _z _p, none⟩ :: is) fr L K = StepK P E X (Ze fr L (.bldg _z _p)) d is fr L K := by rw [ops_op rfl]; exact StepK_eq rfl
theorem g_bldg {d : Option Nat} {is : List IOper} {s : Nat} {want : Bool} {_z} {_p} : awpOps P E X (⟨d, .bldg _z _p, some (s, want)⟩ :: is) fr L K = GdK P E X true (Zg fr s want) (Ze fr L (.bldg _z _p)) d is fr L K := ops_gd rfl
theorem o_ldg {d : Option Nat} {is : List IOper} {_s} {_x} : awpOps P E X (⟨d, .ldg _s _x, none⟩ :: is) fr L K = StepK P E X (Ze fr L (.ldg _s _x)) d is fr L K := by rw [ops_op rfl]; exact StepK_eq rfl
theorem g_ldg {d : Option Nat} {is : List IOper} {s : Nat} {want : Bool} {_s} {_x} : awpOps P E X (⟨d, .ldg _s _x, some (s, want)⟩ :: is) fr L K = GdK P E X true (Zg fr s want) (Ze fr L (.ldg _s _x)) d is fr L K := ops_gd rfl
theorem o_stg {d : Option Nat} {is : List IOper} {_s} {_p} {_x} : awpOps P E X (⟨d, .stg _s _p _x, none⟩ :: is) fr L K = OpsK P E X (Zd d fr L (.stg _s _p _x)) is K := ops_op rfl
theorem o_alcd {d : Option Nat} {is : List IOper} {_t} {_z} : awpOps P E X (⟨d, .alcd _t _z, none⟩ :: is) fr L K = OpsK P E X (Zd d fr L (.alcd _t _z)) is K := ops_op rfl
theorem o_bsrd {d : Option Nat} {is : List IOper} {_e} {_z} {_p} : awpOps P E X (⟨d, .bsrd _e _z _p, none⟩ :: is) fr L K = OpsK P E X (Zd d fr L (.bsrd _e _z _p)) is K := ops_op rfl
/-- Is a slice nil: told only of those that have elements. -/
def IsnK (P : Program) (E : Envt) (X : List PV) (c : Prop) (q : Option (Nat × List (List PV))) (d : Option Nat) (is : List IOper) (fr : List AV) (L : Objs) (K : List AV → Objs → Prop) : Prop :=
  match q with
  | some (_, es) => c ∧ ∀ b : Bool, (b = true → es = []) → awpOps P E X is (Zf fr d (.p (.bool b))) L K
  | none => False
theorem IsnK_some {c : Prop} {z : Nat} {es : List (List PV)} {d : Option Nat} {is : List IOper} : IsnK P E X c (some (z, es)) d is fr L K = (c ∧ ∀ b : Bool, (b = true → es = []) → awpOps P E X is (Zf fr d (.p (.bool b))) L K) := rfl
theorem ops_isn {x : Opd} {d : Option Nat} {is : List IOper} : awpOps P E X (⟨d, .isn x, none⟩ :: is) fr L K = IsnK P E X (rd fr x).un.1 (Zv L (rd fr x).un.2) d is fr L K := rfl
theorem ops_hole {x : Nat} {is : List IOper} : awpOps P E X (⟨none, .hole x, none⟩ :: is) fr L K = awpOps P E X is (fr.map (·.kill (.l x))) (Zau L (.l x) Zam) K := rfl
theorem o_mkm {d : Option Nat} {is : List IOper} {_t} {_z} : awpOps P E X (⟨d, .mkm _t _z, none⟩ :: is) fr L K = OpsK P E X (Zd d fr L (.mkm _t _z)) is K := ops_op rfl
theorem o_mpu {d : Option Nat} {is : List IOper} {_m} {_k} {_v} : awpOps P E X (⟨d, .mpu _m _k _v, none⟩ :: is) fr L K = OpsK P E X (Zd d fr L (.mpu _m _k _v)) is K := ops_op rfl
theorem o_apz {d : Option Nat} {is : List IOper} {_e} {_z} {_b} {_o} {_x} {_y} : awpOps P E X (⟨d, .apz _e _z _b _o _x _y, none⟩ :: is) fr L K = OpsK P E X (Zd d fr L (.apz _e _z _b _o _x _y)) is K := ops_op rfl
theorem o_trn {d : Option Nat} {is : List IOper} {_z} {_x} {_y} : awpOps P E X (⟨d, .trn _z _x _y, none⟩ :: is) fr L K = OpsK P E X (Zd d fr L (.trn _z _x _y)) is K := ops_op rfl
theorem o_mks {d : Option Nat} {is : List IOper} {_e} {_z} {_b} {_o} {_x} {_y} : awpOps P E X (⟨d, .mks _e _z _b _o _x _y, none⟩ :: is) fr L K = OpsK P E X (Zd d fr L (.mks _e _z _b _o _x _y)) is K := ops_op rfl
theorem o_nilr {d : Option Nat} {is : List IOper} {_e} {_z} : awpOps P E X (⟨d, .nilr _e _z, none⟩ :: is) fr L K = OpsK P E X (Zd d fr L (.nilr _e _z)) is K := ops_op rfl
theorem o_alc {d : Option Nat} {is : List IOper} {_t} {_z} : awpOps P E X (⟨d, .alc _t _z, none⟩ :: is) fr L K = OpsK P E X (Zd d fr L (.alc _t _z)) is K := ops_op rfl
theorem o_box {d : Option Nat} {is : List IOper} {_t} {_x} : awpOps P E X (⟨d, .box _t _x, none⟩ :: is) fr L K = OpsK P E X (Zd d fr L (.box _t _x)) is K := ops_op rfl
theorem o_st {d : Option Nat} {is : List IOper} {_s} {_p} {_x} : awpOps P E X (⟨d, .st _s _p _x, none⟩ :: is) fr L K = OpsK P E X (Zd d fr L (.st _s _p _x)) is K := ops_op rfl
theorem o_app {d : Option Nat} {is : List IOper} {_e} {_z} {_b} {_x} {_y} : awpOps P E X (⟨d, .app _e _z _b _x _y, none⟩ :: is) fr L K = OpsK P E X (Zd d fr L (.app _e _z _b _x _y)) is K := ops_op rfl
theorem o_bsr {d : Option Nat} {is : List IOper} {_e} {_z} {_p} : awpOps P E X (⟨d, .bsr _e _z _p, none⟩ :: is) fr L K = OpsK P E X (Zd d fr L (.bsr _e _z _p)) is K := ops_op rfl
theorem o_s2b {d : Option Nat} {is : List IOper} {_e} {_x} : awpOps P E X (⟨d, .s2b _e _x, none⟩ :: is) fr L K = OpsK P E X (Zd d fr L (.s2b _e _x)) is K := ops_op rfl
theorem ops_call {d : Option Nat} {f : FuncId} {args : List Opd} {is : List IOper} : awpOps P E X (⟨d, .call f args, none⟩ :: is) fr L K = (Zl fr args ∧ CallOp P E f (Zm fr args) L d fr (contO P E X is K)) := rfl
def FnK (P : Program) (E : Envt) (X : List PV) (o : Option (FuncId × List AV)) (c : Prop) (d : Option Nat) (args : List Opd) (is : List IOper) (fr : List AV) (L : Objs) (K : List AV → Objs → Prop) : Prop :=
  match o with
  | some (f, ks) => c ∧ fnB P f = true ∧ Zk L ks = true ∧ Zl fr args ∧ CallOp P E f (Zm fr args ++ ks) L d fr (contO P E X is K)
  | none => False
theorem FnK_some {f : FuncId} {ks : List AV} {c : Prop} {d : Option Nat} {args : List Opd} {is : List IOper} : FnK P E X (some (f, ks)) c d args is fr L K = (c ∧ fnB P f = true ∧ Zk L ks = true ∧ Zl fr args ∧ CallOp P E f (Zm fr args ++ ks) L d fr (contO P E X is K)) := rfl
theorem ops_callv {d : Option Nat} {g : Opd} {args : List Opd} {is : List IOper} : awpOps P E X (⟨d, .callv g args, none⟩ :: is) fr L K = FnK P E X (Zaq fr g) (rd fr g).un.1 d args is fr L K := by
  cases h : Zaq fr g with
  | none => simp only [awpOps, FnK, h]
  | some q => obtain ⟨f, ks⟩ := q; simp only [awpOps, FnK, h]; rfl
def FnG (P : Program) (E : Envt) (X : List PV) (o : Option (FuncId × List AV)) (c0 : Bool) (c : Prop) (d : Option Nat) (args : List Opd) (is : List IOper) (fr : List AV) (L : Objs) (K : List AV → Objs → Prop) : Prop :=
  match o with
  | some (f, ks) => (fnB P f = true ∧ Zk L ks = true) ∧ (c0 = true → c ∧ Zl fr args) ∧ CallG c0 P E f (Zm fr args ++ ks) L d fr (contO P E X is K)
  | none => c0 = false ∧ awpOps P E X is (Zf fr d (.g c0 .any)) L K
theorem FnG_some {f : FuncId} {ks : List AV} {c0 : Bool} {c : Prop} {d : Option Nat} {args : List Opd} {is : List IOper} : FnG P E X (some (f, ks)) c0 c d args is fr L K = ((fnB P f = true ∧ Zk L ks = true) ∧ (c0 = true → c ∧ Zl fr args) ∧ CallG c0 P E f (Zm fr args ++ ks) L d fr (contO P E X is K)) := rfl
theorem ops_callvg {d : Option Nat} {g : Opd} {args : List Opd} {is : List IOper} {s : Nat} {want : Bool} : awpOps P E X (⟨d, .callv g args, some (s, want)⟩ :: is) fr L K = (match Zg fr s want with | some c0 => FnG P E X (Zaq fr g) c0 (rd fr g).un.1 d args is fr L K | none => False) := by
  simp only [awpOps]
  cases Zg fr s want with
  | none => rfl
  | some c0 => cases h : Zaq fr g with
    | none => rfl
    | some q => obtain ⟨f, ks⟩ := q; rfl
theorem ops_dcall {b : Bool} {d : Option Nat} {f : FuncId} {args : List Opd} {is : List IOper} : awpOps P E X (⟨d, .dcall b f args, none⟩ :: is) fr L K = (Zl fr args ∧ DCallOp b P E f (Zm fr args) L d fr (contO P E X is K)) := rfl
def PcK (P : Program) (E : Envt) (f : FuncId) (as : List AV) (L : Objs) (x : PV) : Prop := PureC P E f as L (· = x)
theorem ops_pcall {d : Option Nat} {n : Nat} {f : FuncId} {args : List Opd} {is : List IOper} : awpOps P E X (⟨d, .pcall n f args, none⟩ :: is) fr L K = ((Zl fr args ∧ PcK P E f (Zm fr args) L (X.getD n (.bool false))) ∧ awpOps P E X is (Zf fr d (.p (X.getD n (.bool false)))) L K) := rfl
theorem ops_pcallg {d : Option Nat} {n : Nat} {f : FuncId} {args : List Opd} {is : List IOper} {s : Nat} {want : Bool} : awpOps P E X (⟨d, .pcall n f args, some (s, want)⟩ :: is) fr L K = (match Zg fr s want with | some c0 => (c0 = true → Zl fr args ∧ PcK P E f (Zm fr args) L (X.getD n (.bool false))) ∧ awpOps P E X is (Zf fr d (.g c0 (.p (X.getD n (.bool false))))) L K | none => False) := rfl
theorem ops_callg {d : Option Nat} {f : FuncId} {args : List Opd} {is : List IOper} {s : Nat} {want : Bool} : awpOps P E X (⟨d, .call f args, some (s, want)⟩ :: is) fr L K = (match Zg fr s want with | some c0 => (c0 = true → Zl fr args) ∧ CallG c0 P E f (Zm fr args) L d fr (contO P E X is K) | none => False) := rfl
def FzK (P : Program) (E : Envt) (X : List PV) (q : Option (Key × Nat × List (List PV))) (is : List IOper) (fr : List AV) (L : Objs) (K : List AV → Objs → Prop) : Prop :=
  match q with
  | some (k, z, es) => awpOps P E X is (fr.map (·.thaw k z es)) (Zav k z es L) K
  | none => awpOps P E X is fr L K
theorem FzK_some {k : Key} {z : Nat} {es : List (List PV)} {is : List IOper} : FzK P E X (some (k, z, es)) is fr L K = awpOps P E X is (fr.map (·.thaw k z es)) (Zav k z es L) K := rfl
theorem FzK_none {is : List IOper} : FzK P E X none is fr L K = awpOps P E X is fr L K := rfl
theorem ops_fz {x : Opd} {is : List IOper} : awpOps P E X (⟨none, .fz x, none⟩ :: is) fr L K = FzK P E X (Zap fr L x) is fr L K := rfl

/-- What a variable holds, if it is plain; what captured variables hold. -/
def Zi (L : Objs) (k : Key) : Option (List PV) :=
  match Zar L k with
  | some (.box cs _) => Zw cs
  | _ => none
def Zj (L : Objs) : List Key → Option (List PV)
  | [] => some []
  | k :: r => match Zi L k, Zj L r with
    | some cs, some l => some (.ptr cs :: l)
    | _, _ => none
/-- What an argument hands over as a plain value. -/
def Zbb (L : Objs) : AV → Option PV
  | .p x => some (wk x)
  | .row k => match Zar L k with
    | some (.row es _ z _) => some (.sl z es)
    | _ => none
  | .fn f ks => (Zj L ks).map (.clo f)
  | .adr k o => if o = 0 then (Zi L k).map .ptr else none
  | _ => none
def Zba (L : Objs) : List AV → Option (List PV)
  | [] => some []
  | x :: r => match Zbb L x, Zba L r with
    | some y, some l => some (y :: l)
    | _, _ => none
def Zbc : List AV → Bool
  | [] => true
  | .row _ :: _ => false
  | .adr _ _ :: _ => false
  | .fn _ ks :: r => ks.isEmpty && Zbc r
  | _ :: r => Zbc r
def Zbd : PV → Bool
  | .int .. | .bool .. | .str .. => true
  | .agg cs => cs.all fun | .int .. | .bool .. | .str .. => true | _ => false
  | .tup cs => cs.all fun | .int .. | .bool .. | .str .. => true | _ => false
  | _ => false

theorem bool_beq_true (b : Bool) : (b == true) = b := by cases b <;> rfl
theorem bool_beq_false (b : Bool) : (b == false) = !b := by cases b <;> rfl

theorem PRep.flat {w : World} {U U' : Nat → Prop} {x : PV} {v : Value} (hf : Zbd x = true) (h : PRep w U x v) : PRep w U' x v := by
  have one : ∀ (y : PV) (u : Value), (match y with | .int .. | .bool .. | .str .. => true | _ => false) = true → PRep w U y u → PRep w U' y u := by
    intro y u hy hr
    cases y <;> simp_all [PRep]
  have lst : ∀ (cs : List PV) (vs : List Value), (cs.all fun | .int .. | .bool .. | .str .. => true | _ => false) = true → PRepL w U cs vs → PRepL w U' cs vs := by
    intro cs
    induction cs with
    | nil => intro vs _ h; exact h
    | cons c cs ih =>
      intro vs hc hr
      simp only [List.all_cons, Bool.and_eq_true] at hc
      simp only [PRepL] at hr ⊢
      obtain ⟨v, r, rfl, h1, h2⟩ := hr
      exact ⟨v, r, rfl, one c v hc.1 h1, ih r hc.2 h2⟩
  cases x with
  | agg cs => simp only [Zbd] at hf; simp only [PRep] at h ⊢; obtain ⟨vs, e, hl⟩ := h; exact ⟨vs, e, lst cs vs hf hl⟩
  | tup cs => simp only [Zbd] at hf; simp only [PRep] at h ⊢; obtain ⟨vs, e, hl⟩ := h; exact ⟨vs, e, lst cs vs hf hl⟩
  | int k n => exact h
  | bool b => exact h
  | str s => exact h
  | raw v => simp [Zbd] at hf
  | nl z => simp [Zbd] at hf
  | sl z es => simp [Zbd] at hf
  | ptr cs => simp [Zbd] at hf
  | clo f ps => simp [Zbd] at hf

theorem fn_raw {w : World} {U U' : Nat → Prop} {ι : Key → Value} {f : FuncId} {v : Value} (h : ARep w U ι (.fn f []) v) : PRep w U' (.clo f []) v := by
  exact ⟨[], by simpa [ARep] using h, by simp [PRepL]⟩
theorem allP_map {as : List AV} {l : List PV} (h : Zw as = some l) : as = l.map .p := by
  induction as generalizing l with
  | nil => simp only [Zw, Option.some.injEq] at h; subst h; rfl
  | cons q as ih =>
    cases q with
    | p x =>
      simp only [Zw, Option.map_eq_some_iff] at h
      obtain ⟨m, h1, rfl⟩ := h
      rw [ih h1]
      rfl
    | _ => simp [Zw] at h
theorem boxP_rep {w : World} {B : Nat → Prop} {ι : Key → Value} (hs : Sim w B L ι) (hX : ∀ b, B b → ¬ Own L ι b) {k : Key} {cs : List PV} (h : Zi L k = some cs) : PRep w B (.ptr cs) (ι k) := by
  have hk := keeps_x w L ι B
  unfold Zi at h
  split at h
  · rename_i as t hl
    have e := allP_map h
    subst e
    obtain ⟨b, vs, e1, e2, e3, e4, e5⟩ := hs.obj k _ hl
    have hO : Own L ι b := ⟨k, _, hl, by rw [e1]; rfl⟩
    have hr : PRepL w (fun b => Own L ι b ∨ B b) cs vs := PRepL.of_get (by simpa using e3) (fun j x u hx hu => by
      obtain ⟨u', hu', hr'⟩ := e5 j (.p x) (by rw [List.getElem?_map, hx]; rfl)
      rw [hu'] at hu
      cases hu
      exact hr')
    refine ⟨b, e1, sim_own_lt hs hO, fun hb => hX b hb hO, PRepC.of (PRepL.mono hk _ _ hr) e4 (fun j v hv => ?_)⟩
    rw [Nat.zero_add, cell_of_row w b j _ t (0, 0) e2]
    simpa using hv
  · cases h
theorem capPs_rep {w : World} {B : Nat → Prop} {ι : Key → Value} (hs : Sim w B L ι) (hX : ∀ b, B b → ¬ Own L ι b) : ∀ {ks : List Key} {ps : List PV}, Zj L ks = some ps → PRepL w B ps (ks.map ι) := by
  intro ks
  induction ks with
  | nil => intro ps h; simp only [Zj, Option.some.injEq] at h; subst h; simp [PRepL]
  | cons k ks ih =>
    intro ps h
    simp only [Zj] at h
    split at h
    · rename_i cs l e1 e2
      cases h
      exact ⟨_, _, rfl, boxP_rep hs hX e1, ih e2⟩
    · cases h

theorem argPs_norow {w : World} {U : Nat → Prop} {ι : Key → Value} : ∀ {as : List AV} {ps : List PV} {vs : List Value}, Zbc as = true → Zba L as = some ps → ARepL w U ι as vs → PRepL w U ps vs := by
  intro as
  induction as with
  | nil => intro ps vs _ h hr; simp only [Zba, Option.some.injEq] at h; subst h; exact hr
  | cons a as ih =>
    intro ps vs hn h hr
    simp only [Zba] at h
    split at h
    · rename_i y l e1 e2
      cases h
      simp only [ARepL] at hr
      obtain ⟨v, r, rfl, h1, h2⟩ := hr
      simp only [PRepL]
      cases a with
      | p x => simp only [Zbb, Option.some.injEq] at e1; subst e1; exact ⟨v, r, rfl, PRep.wk h1, ih (by simpa [Zbc] using hn) e2 h2⟩
      | row k => simp [Zbc] at hn
      | adr k o => simp [Zbc] at hn
      | fn f ks =>
        cases ks with
        | nil => simp only [Zbb, Zj, Option.map_some, Option.some.injEq] at e1; subst e1; exact ⟨v, r, rfl, fn_raw h1, ih (by simpa [Zbc] using hn) e2 h2⟩
        | cons k ks => simp [Zbc] at hn
      | _ => simp [Zbb] at e1
    · cases h

/-- The blocks of rows among the arguments. -/
theorem argPs_rows {w : World} {B : Nat → Prop} {ι : Key → Value} (hs : Sim w B L ι) (hX : ∀ b, B b → ¬ Own L ι b) : ∀ {as : List AV} {ps : List PV} {vs : List Value}, Zba L as = some ps → ARepL w (fun b => Own L ι b ∨ B b) ι as vs → PRepL w B ps vs := by
  have hk := keeps_x w L ι B
  intro as
  induction as with
  | nil => intro ps vs h hr; simp only [Zba, Option.some.injEq] at h; subst h; exact hr
  | cons a as ih =>
    intro ps vs h hr
    simp only [Zba] at h
    split at h
    · rename_i y l e1 e2
      cases h
      simp only [ARepL] at hr
      obtain ⟨v, r, rfl, h1, h2⟩ := hr
      simp only [PRepL]
      refine ⟨v, r, rfl, ?_, ih e2 h2⟩
      cases a with
      | p x => simp only [Zbb, Option.some.injEq] at e1; subst e1; exact (PRep.mono hk _ _ h1).wk
      | row k =>
        simp only [Zbb] at e1
        split at e1
        · rename_i es e' z ap hl
          cases e1
          obtain ⟨vs', hrow, e4, e5, e6⟩ := hs.obj k _ hl
          rcases hrow.2 with ⟨g1, g2⟩ | ⟨g, cap, cur, fz, g1, _, g3, _⟩
          · rw [h1.1, g1]
            exact ⟨none, 0, by rw [g2], by omega, fun hne => absurd (List.eq_nil_of_length_eq_zero g2) hne⟩
          · rw [h1.1, g1]
            have hE := row_cells hs hl g1
            have hO : Own L ι g := ⟨k, _, hl, by rw [g1]; rfl⟩
            refine ⟨_, cap, rfl, g3, fun _ => ⟨g, 0, rfl, sim_own_lt hs hO, fun hx => hX g hx hO, ?_⟩⟩
            have key : ∀ (es' : List (List PV)) (off : Nat), PRepE w (fun b => Own L ι b ∨ B b) g z off es' → PRepE w B g z off es' := by
              intro es'
              induction es' with
              | nil => intro off _; simp [PRepE]
              | cons x r ih =>
                intro off hh
                simp only [PRepE] at hh ⊢
                refine ⟨hh.1, ?_, ih _ hh.2.2⟩
                obtain ⟨us, a1, a2, a3⟩ := hh.2.1.vals
                exact PRepC.of (PRepL.mono hk _ _ a1) a2 a3
            exact key es 0 hE
        · cases e1
      | fn f ks =>
        simp only [Zbb, Option.map_eq_some_iff] at e1
        obtain ⟨ps', h3, rfl⟩ := e1
        exact ⟨ks.map ι, h1, capPs_rep hs hX h3⟩
      | adr k o =>
        simp only [Zbb] at e1
        split at e1
        · rename_i ho
          subst ho
          simp only [Option.map_eq_some_iff] at e1
          obtain ⟨cs, h3, rfl⟩ := e1
          obtain ⟨b, e4, e5⟩ := h1
          rw [e5, ← e4]
          exact boxP_rep hs hX h3
        · cases e1
      | _ => simp [Zbb] at e1
    · cases h

/-- A contract at a call: no row among the arguments, or a result without memory. -/
theorem pure_of {f : FuncId} {as : List AV} {ps : List PV} {φ : PV → Prop} (h : PCall P E f ps φ) (ha : Zba L as = some ps) (hn : Zbc as = true ∨ ∀ x, φ x → Zbd x = true) : PureC P E f as L φ := by
  intro w X ι vs hs hX hE hEb hA
  rcases hn with hn | hn
  · exact h w (fun b => Own L ι b ∨ X b) vs (fun b hb => hb.elim (fun h => sim_own_lt hs h) (fun h => (hX b h).1)) hE (fun b hb => (hEb b hb).1) (argPs_norow hn ha hA)
  · refine (h w X vs (fun b hb => (hX b hb).1) hE (fun b hb => (hEb b hb).1) (argPs_rows hs (fun b hb => (hX b hb).2) ha hA)).mono ?_
    rintro e w' ⟨v, x, rfl, hx, hr, hG⟩
    exact ⟨v, x, rfl, hx, hr.flat (hn x hx), hG⟩

/-- The same with one result. -/
theorem use1 {f : FuncId} {as : List AV} {ps : List PV} {r : PV} {d : Option Nat} {is : List IOper} (h : PCall P E f ps (· = r)) (ha : Zba L as = some ps) (hn : Zbc as = true ∨ Zbd r = true) (hk : awpOps P E X is (Zf fr d (.p r)) L K) : CallOp P E f as L d fr (contO P E X is K) :=
  .inl ⟨(· = r), pure_of h ha (hn.imp id (fun h x e => by rw [e]; exact h)), fun x e => by rw [e]; exact hk⟩
theorem useG {c0 : Bool} {f : FuncId} {as : List AV} {ps : List PV} {r : PV} {d : Option Nat} {is : List IOper} (h : c0 = true → PCall P E f ps (· = r)) (ha : Zba L as = some ps) (hn : Zbc as = true ∨ Zbd r = true) (hk : awpOps P E X is (Zf fr d (.g c0 (.p r))) L K) : CallG c0 P E f as L d fr (contO P E X is K) :=
  .inl ⟨r, fun hc => pure_of (h hc) ha (hn.imp id fun h x e => by rw [e]; exact h), hk⟩
theorem usep {f : FuncId} {as : List AV} {ps : List PV} {r : PV} (h : PCall P E f ps (· = r)) (ha : Zba L as = some ps) (hn : Zbc as = true ∨ Zbd r = true) : PcK P E f as L r :=
  pure_of h ha (hn.imp id (fun h x e => by rw [e]; exact h))
end
end Go.Proofs.YtndjmidmfmcbkaaGreatDoor

/- Contracts with one borrowed variable and with fresh rows: out of bodies, and at calls. -/
namespace Go.Proofs.YtndjmidmfmcbkaaGreatDoor
set_option linter.unusedVariables false
set_option linter.unusedSimpArgs false
set_option linter.defProp false

/-- A contract: bx: the object behind the first argument, if there is one. -/
def GCall (P : Program) (E : Envt) (f : FuncId) (bx : Option OS) (args : List PV) (post : RV → OS → Prop) : Prop :=
  ∀ (w : World) (U : Nat → Prop) (vs : List Value) (v0 : Value), (∀ c, U c → c < w.heap.size) → E.ok w → (∀ c, E.bl c → c < w.heap.size ∧ (bx.isSome = true → blk v0 ≠ some c)) → PRepL w U args vs →
    (match bx with | none => True | some os => (∀ c, blk v0 = some c → U c) ∧ ObjAt w U v0 os) →
    Calls P f ((match bx with | none => vs | some _ => v0 :: vs)).toArray w fun e w' => ∃ v r os', e = .returned v ∧ post r os' ∧ RVok w' U w.heap.size r v ∧
      (match bx with
       | none => Grow w w' (fun _ => False)
       | some _ => Grow w w' (fun c => blk v0 = some c) ∧ ObjAt w' (fun c => U c ∨ r.own v c) v0 os')

def noOS : OS := .box 0 []
/-- What a body must end with: a plain result. -/
def finP (bx : Option OS) (post : RV → OS → Prop) (x : PV) (L : Objs) : Prop :=
  match bx with
  | none => post (.p x) noOS
  | some _ => ∃ os', Zar L (.b 0) = some os'.ao ∧ post (.p x) os'
/-- .. or a fresh row in slot i. -/
def finF (bx : Option OS) (post : RV → OS → Prop) (i : Nat) (fr : List AV) (L : Objs) : Prop :=
  (∃ j es e z, fr.getD i .any = .row (.l j) ∧ Zar L (.l j) = some (.row es e z true) ∧
    match bx with
    | none => post (.fr es e z) noOS
    | some _ => ∃ os', Zar L (.b 0) = some os'.ao ∧ post (.fr es e z) os') ∨
  ∃ e z z0, fr.getD i .any = .p (.nl z0) ∧
    match bx with
    | none => post (.fr [] e z) noOS
    | some _ => ∃ os', Zar L (.b 0) = some os'.ao ∧ post (.fr [] e z) os'
def retF (i : Nat) (bx : Option OS) (post : RV → OS → Prop) : AQ
  | .normal, fr, L => finF bx post i fr L
  | .ret, fr, L => finF bx post i fr L
  | _, _, _ => False

theorem retF_r {i : Nat} {bx : Option OS} {post : RV → OS → Prop} {fr : List AV} {L : Objs} : retF i bx post .ret fr L = finF bx post i fr L := rfl
theorem retF_n {i : Nat} {bx : Option OS} {post : RV → OS → Prop} {fr : List AV} {L : Objs} : retF i bx post .normal fr L = finF bx post i fr L := rfl

def l0 (bx : Option OS) : Objs :=
  match bx with
  | none => []
  | some os => [(.b 0, os.ao)]
def a0 (bx : Option OS) (args : List PV) : List AV :=
  match bx with
  | none => args.map .p
  | some (.box _ _) => .adr (.b 0) 0 :: args.map .p
  | some (.row _ _ _) => .row (.b 0) :: args.map .p

section
variable {P : Program} {E : Envt}

theorem gcall_of_awp (hm : P.follows .mixedOrders = true) {f : FuncId} {fn : Func} {c : Code} {ic : IC} {bx : Option OS} {args : List PV} {post : RV → OS → Prop} {Q : AQ} (hf : P.funcs[f]? = some fn) (hb : fn.body = some c) (hchk : chkC P okDraw ic c = true)
    (h : awp P E ic (a0 bx args ++ List.replicate (fn.ntmps - (a0 bx args).length) .any) (l0 bx) Q)
    (hQ : ∀ (B : Base) (w' : World) (L : Objs) (ι : Key → Value) (fr : List AV) (a : Act) (e : Exit), Q e fr L → StF E B w' L ι fr a → B.L0 = l0 bx → (e = .normal ∨ e = .ret) ∧ ∃ v r os', (results fn a.tmps).run P w' = .ok v w' ∧ post r os' ∧ RVok w' (ZB L ι B.X) B.w0.heap.size r v ∧ (bx.isSome = true → Zar L (.b 0) = some os'.ao) ∧ (∀ b, r.own v b → Own L ι b)) : GCall P E f bx args post := by
  intro w U vs v0 hU hE hEb hA hB
  refine calls_of_wp hf hb ?_
  let ι : Key → Value := fun _ => v0
  let B : Base := { w0 := w, X := fun c => U c ∧ (bx.isSome = true → blk v0 ≠ some c), L0 := l0 bx, i0 := ι }
  have hlk : ∀ k q, Zar (l0 bx) k = some q → k = .b 0 ∧ ∃ os, bx = some os ∧ q = os.ao := by
    intro k q hq
    cases hbx : bx with
    | none => rw [hbx] at hq; simp [l0, Zar] at hq
    | some os =>
      rw [hbx] at hq
      simp only [l0, Zar] at hq
      split at hq
      · rename_i e; cases hq; exact ⟨e.symm, os, rfl, rfl⟩
      · cases hq
  have hO : ∀ c, Own (l0 bx) ι c → blk v0 = some c ∧ bx.isSome = true := by
    rintro c ⟨k, q, h1, h2⟩
    obtain ⟨_, os, e, _⟩ := hlk k q h1
    exact ⟨h2, by rw [e]; rfl⟩
  have hUb : ∀ c, (Own (l0 bx) ι c ∨ B.X c) → U c := by
    rintro c (h' | h')
    · obtain ⟨h1, hs⟩ := hO c h'
      cases hbx : bx with
      | none => rw [hbx] at hs; cases hs
      | some p => rw [hbx] at hB; exact hB.1 c h1
    · exact h'.1
  have hkeep : Keeps w w U (fun c => Own (l0 bx) ι c ∨ B.X c) := fun c _ hu => ⟨rfl, fun h => hu (hUb c h)⟩
  have hsim : Sim w B.X (l0 bx) ι := by
    constructor
    · intro k q hq
      obtain ⟨rfl, os, e, rfl⟩ := hlk k q hq
      rw [e] at hB
      exact ObjAt.ok (hB.2.mono hkeep (fun _ _ => rfl))
    · intro k k' q q' c h1 h2 _ _
      rw [(hlk k q h1).1, (hlk k' q' h2).1]
  have hst : St E B w (l0 bx) ι := ⟨Grow.refl _ _, hsim, fun c hc => .inl hc, fun c hc => hU c hc.1, fun k _ _ => rfl, hE, fun c hc => ⟨(hEb c hc).1, fun ho => by obtain ⟨e1, e2⟩ := hO c ho; exact (hEb c hc).2 e2 e1⟩, (fun i => by
    show Zar (l0 bx) (.l i) = none
    cases hq : Zar (l0 bx) (.l i) with
    | none => rfl
    | some q => have := (hlk _ _ hq).1; cases this), (fun c hc ho => by obtain ⟨e1, e2⟩ := hO c ho; exact hc.2 e2 e1)⟩
  have hlen := hA.length
  have hfr : ∀ as : List Value, ARepL w (fun c => Own (l0 bx) ι c ∨ B.X c) ι (a0 bx args) as → StF E B w (l0 bx) ι (a0 bx args ++ List.replicate (fn.ntmps - (a0 bx args).length) .any) { tmps := as.toArray ++ Array.replicate (fn.ntmps - as.toArray.size) undef, defers := [] } := by
    intro as has
    have hl : ∀ (xs : List AV) (ys : List Value), ARepL w (fun c => Own (l0 bx) ι c ∨ B.X c) ι xs ys → ys.length = xs.length ∧ ∀ (i : Nat) (x : AV), xs[i]? = some x → ∃ v, ys[i]? = some v ∧ ARep w (fun c => Own (l0 bx) ι c ∨ B.X c) ι x v := by
      intro xs
      induction xs with
      | nil => intro ys h; simp only [ARepL] at h; subst h; simp
      | cons x xs ih =>
        intro ys h
        simp only [ARepL] at h
        obtain ⟨v, r, rfl, h1, h2⟩ := h
        obtain ⟨g1, g2⟩ := ih r h2
        refine ⟨by simp [g1], fun i y hy => ?_⟩
        cases i with
        | zero => simp at hy; subst hy; exact ⟨v, rfl, h1⟩
        | succ i => simp at hy; simpa using g2 i y hy
    obtain ⟨g1, g2⟩ := hl _ _ has
    refine ⟨hst, ⟨by simp [g1], fun i x hx => ?_⟩, rfl⟩
    rw [List.getElem?_append] at hx
    split at hx
    · rename_i hi
      obtain ⟨v, hv, hrep⟩ := g2 i x hx
      refine ⟨v, ?_, hrep⟩
      rw [Array.getElem?_append_left (by simp; omega)]
      simpa using hv
    · rename_i hi
      rw [List.getElem?_replicate] at hx
      split at hx
      · rename_i hlt
        cases hx
        refine ⟨undef, ?_, trivial⟩
        rw [Array.getElem?_append_right (by simp; omega)]
        simp only [List.size_toArray]
        rw [Array.getElem?_replicate, if_pos (by rw [g1]; omega)]
      · cases hx
  have hargs : ARepL w (fun c => Own (l0 bx) ι c ∨ B.X c) ι (a0 bx args) (match bx with | none => vs | some _ => v0 :: vs) := by
    have hp : ∀ (xs : List PV) (ys : List Value), PRepL w U xs ys → ARepL w (fun c => Own (l0 bx) ι c ∨ B.X c) ι (xs.map .p) ys := by
      intro xs
      induction xs with
      | nil => intro ys h; simp only [PRepL] at h; subst h; simp [ARepL]
      | cons x xs ih =>
        intro ys h
        simp only [PRepL] at h
        obtain ⟨v, r, rfl, h1, h2⟩ := h
        simp only [List.map_cons, ARepL]
        exact ⟨v, r, rfl, PRep.mono hkeep _ _ h1, ih r h2⟩
    have hpv := hp args vs hA
    cases hbx : bx with
    | none => rw [hbx] at hpv; exact hpv
    | some os =>
      rw [hbx] at hpv hB
      cases os with
      | box t cs =>
        obtain ⟨b, vs', e1, _⟩ := hB.2
        simp only [a0, ARepL]
        exact ⟨_, _, rfl, ⟨b, e1, e1⟩, hpv⟩
      | row e z es =>
        obtain ⟨vs', h1, _⟩ := hB.2
        simp only [a0, ARepL]
        refine ⟨_, _, rfl, ⟨rfl, ?_⟩, hpv⟩
        rcases h1.2 with ⟨q1, _⟩ | ⟨g, cap, cur, fz, q1, _⟩
        · exact ⟨none, 0, 0, q1⟩
        · exact ⟨_, _, _, q1⟩
  refine wp_mono (awp_sound (drawOk hm) ic c _ _ _ hchk h B w ι _ (hfr _ hargs)) ?_
  rintro e a' w' ⟨fr', L', ι', q, hs'⟩
  obtain ⟨he, v, r, os', hv, hp, hr, hbox, hown⟩ := hQ B w' L' ι' fr' a' e q hs' rfl
  have hkey : bx.isSome = true → ι' (.b 0) = v0 := by
    intro e
    refine hs'.1.keep (.b 0) ?_ (by rw [hbox e]; rfl)
    show (Zar (l0 bx) (.b 0)).isSome = true
    obtain ⟨os, e⟩ := Option.isSome_iff_exists.1 e
    rw [e]; simp [l0, Zar]
  -- what is borrowed is the one object
  have hZ : ∀ c, U c → ZB L' ι' B.X c := by
    intro c hc
    by_cases hcb : bx.isSome = true ∧ blk v0 = some c
    · exact .inr ⟨0, _, hbox hcb.1, by rw [hkey hcb.1]; exact hcb.2⟩
    · exact .inl ⟨hc, fun h1 h2 => hcb ⟨h1, h2⟩⟩
  have hkz : Keeps w' w' (ZB L' ι' B.X) U := fun c _ hz => ⟨rfl, fun hu => hz (hZ c hu)⟩
  have hres : RVok w' U w.heap.size r v := by
    cases r with
    | p x => exact PRep.mono hkz _ _ hr
    | fr es e z =>
      obtain ⟨vs', r1, r2, r3, r4, r5⟩ := hr
      exact ⟨vs', r1, r2, PRepL.mono (fun c _ hz => ⟨rfl, fun hu => hz (hu.imp (hZ c) id)⟩) _ _ r3, r4, r5⟩
  have hg := hs'.1.grow
  have fin : ∃ v_1 r os', Ending.returned v = .returned v_1 ∧ post r os' ∧ RVok w' U w.heap.size r v_1 ∧ (match bx with | none => Grow w w' (fun _ => False) | some _ => Grow w w' (fun c => blk v0 = some c) ∧ ObjAt w' (fun c => U c ∨ r.own v_1 c) v0 os') := by
    refine ⟨v, r, os', rfl, hp, hres, ?_⟩
    cases hbx : bx with
    | none => exact ⟨hg.os, hg.tape, hg.output, hg.size, fun c hc _ => hg.block c hc (fun ho => by have := (hO c ho).2; rw [hbx] at this; cases this)⟩
    | some os =>
      have hbs : bx.isSome = true := by rw [hbx]; rfl
      refine ⟨⟨hg.os, hg.tape, hg.output, hg.size, fun c hc hn => hg.block c hc (fun ho => hn (hO c ho).1)⟩, ?_⟩
      have hat := ObjAt.of (hs'.1.sim.obj (.b 0) _ (hbox hbs))
      rw [hkey hbs] at hat
      refine hat.mono (fun c _ hz => ⟨rfl, fun hu => hz ?_⟩) (fun _ _ => rfl)
      rcases hu with hu | hu
      · rcases hZ c hu with h1 | ⟨i, q, h1, h2⟩
        · exact .inr h1
        · exact .inl ⟨_, q, h1, h2⟩
      · exact .inl (hown c hu)
  rcases he with rfl | rfl
  · exact ⟨hs'.2.2, v, hv, fin⟩
  · exact ⟨hs'.2.2, v, hv, fin⟩

/-- A contract with a plain result. -/
theorem gcallP (hm : P.follows .mixedOrders = true) {f : FuncId} {fn : Func} {ic : IC} {rs : List IRes} {n : Nat} {bx : Option OS} {args : List PV} {post : RV → OS → Prop} (hf : P.funcs[f]? = some fn) (hc : chkF P fn ic rs n = true)
    (h : awp P E ic (a0 bx args ++ List.replicate (n - (a0 bx args).length) .any) (l0 bx) (retQ rs (finP bx post))) : GCall P E f bx args post := by
  unfold chkF at hc
  split at hc
  · rename_i c hb
    simp only [Bool.and_eq_true, beq_iff_eq] at hc
    obtain ⟨⟨h1, h2⟩, rfl⟩ := hc
    refine gcall_of_awp hm hf hb h1 h ?_
    intro B w' L ι fr a e q hs hb0
    have key : RetK (Zaw fr L rs) (finP bx post) L → ∃ v r os', (results fn a.tmps).run P w' = .ok v w' ∧ post r os' ∧ RVok w' (ZB L ι B.X) B.w0.heap.size r v ∧ (bx.isSome = true → Zar L (.b 0) = some os'.ao) ∧ (∀ b, r.own v b → Own L ι b) := by
      intro q
      obtain ⟨l, e1, e2⟩ := RetK_ex q
      obtain ⟨v, hv, hr⟩ := results_ok hs h2 e1
      cases hbx : bx with
      | none => rw [hbx] at e2; exact ⟨v, .p (mkRes l), noOS, hv, e2, hr, (fun h => by cases h), fun _ h => h.elim⟩
      | some p =>
        rw [hbx] at e2
        obtain ⟨cs', g1, g2⟩ := e2
        exact ⟨v, .p (mkRes l), cs', hv, g2, hr, (fun _ => g1), fun _ h => h.elim⟩
    cases e with
    | normal => exact ⟨.inl rfl, key q⟩
    | ret => exact ⟨.inr rfl, key q⟩
    | _ => exact q.elim
  · cases hc

/-- Contracts in short: a variable behind the first argument, a plain result. -/
def SCall (P : Program) (E : Envt) (f : FuncId) (t : TypeId) (cs args : List PV) (ψ : PV → List PV → Prop) : Prop := GCall P E f (some (.box t cs)) args fun r os => ∃ x cs', r = .p x ∧ os = .box t cs' ∧ ψ x cs'
/-- No object; a fresh row. -/
def FCall (P : Program) (E : Envt) (f : FuncId) (args : List PV) (e z : Nat) (φ : List (List PV) → Prop) : Prop := GCall P E f none args fun r _ => ∃ es, r = .fr es e z ∧ φ es
/-- A row is written in place; a plain result. -/
def RCall (P : Program) (E : Envt) (f : FuncId) (e z : Nat) (es : List (List PV)) (args : List PV) (ψ : PV → List (List PV) → Prop) : Prop := GCall P E f (some (.row e z es)) args fun r os => ∃ x es', r = .p x ∧ os = .row e z es' ∧ ψ x es'
variable {L : Objs} {fr : List AV} {X : List PV} {K : List AV → Objs → Prop}

def AV.key1 (k : Key) : OS → AV
  | .box _ _ => .adr k 0
  | .row _ _ _ => .row k
theorem gc_obj {f : FuncId} {as : List AV} {ps : List PV} {os : OS} {k : Key} {post : RV → OS → Prop} (h : GCall P E f (some os) ps post) (hl : Zar L k = some os.ao) (ha : Zba L as = some ps) (hn : Zbc as = true) : GC P E f (AV.key1 k os :: as) L (some (k, os)) post := by
  intro w X ι vs hs hX hE hEb hA
  simp only [ARepL] at hA
  obtain ⟨v0, vr, rfl, hv0, hA⟩ := hA
  have hv0 : v0 = ι k := by
    cases os with
    | box t cs => obtain ⟨b, e1, e2⟩ := hv0; rw [e1, e2]
    | row e z es => exact hv0.1
  subst hv0
  have hOb : ∀ c, blk (ι k) = some c → Own L ι c := fun c hc => ⟨k, _, hl, hc⟩
  refine (h w (fun b => Own L ι b ∨ X b) vr (ι k) (fun b hb => hb.elim (fun h => sim_own_lt hs h) (fun h => (hX b h).1)) hE (fun c hc => ⟨(hEb c hc).1, fun _ e => (hEb c hc).2 (hOb c e)⟩) (argPs_norow hn ha hA) ⟨fun c hc => .inl (hOb c hc), ObjAt.of (hs.obj k _ hl)⟩).mono ?_
  rintro e w' ⟨v, r, os', rfl, hp, hr, hG, hB⟩
  exact ⟨v, r, os', rfl, hp, hr, ⟨hG.os, hG.tape, hG.output, hG.size, fun c hc hn => hG.block c hc (fun ec => hn ⟨_, hl, ec⟩)⟩, hB⟩

/-- At a call: a variable changes, the result is plain. -/
theorem useS {f : FuncId} {as : List AV} {ps cs : List PV} {t : TypeId} {k : Key} {ψ : PV → List PV → Prop} {d : Option Nat} {is : List IOper} (h : SCall P E f t cs ps ψ) (hl : Zar L k = some (.box (cs.map .p) t)) (ha : Zba L as = some ps) (hn : Zbc as = true) (hs : Zbe d (some (k, .box t cs)))
    (hk : ∀ x cs', ψ x cs' → awpOps P E X is (Zf fr d (.p x)) (Zas L k (.box (cs'.map .p) t)) K) : CallOp P E f (.adr k 0 :: as) L d fr (contO P E X is K) :=
  .inr (.inl ⟨some (k, .box t cs), _, gc_obj h hl ha hn, hl, hs, fun r os' hp => by obtain ⟨x, cs', rfl, rfl, hx⟩ := hp; exact hk x cs' hx⟩)
/-- Ends of bodies. -/
theorem GCall.mono {f : FuncId} {bx : Option OS} {args : List PV} {post post' : RV → OS → Prop} (h : GCall P E f bx args post) (hp : ∀ r os, post r os → post' r os) : GCall P E f bx args post' := by
  intro w U vs v0 hU hE hEb hA hB
  refine (h w U vs v0 hU hE hEb hA hB).mono ?_
  rintro e w' ⟨v, r, os', h1, h2, h3⟩
  exact ⟨v, r, os', h1, hp r os' h2, h3⟩
theorem RCall.mono {f : FuncId} {e z : Nat} {es : List (List PV)} {args : List PV} {ψ ψ' : PV → List (List PV) → Prop} (h : RCall P E f e z es args ψ) (hp : ∀ x es, ψ x es → ψ' x es) : RCall P E f e z es args ψ' :=
  GCall.mono h fun r os ⟨x, es', h1, h2, h3⟩ => ⟨x, es', h1, h2, hp x es' h3⟩
theorem FCall.mono {f : FuncId} {e z : Nat} {args : List PV} {φ φ' : List (List PV) → Prop} (h : FCall P E f args e z φ) (hp : ∀ es, φ es → φ' es) : FCall P E f args e z φ' :=
  GCall.mono h fun r os ⟨es, h1, h2⟩ => ⟨es, h1, hp es h2⟩
theorem PCall.mono {f : FuncId} {args : List PV} {φ φ' : PV → Prop} (h : PCall P E f args φ) (hp : ∀ x, φ x → φ' x) : PCall P E f args φ' := by
  intro w U vs hU hE hEb hA
  refine (h w U vs hU hE hEb hA).mono ?_
  rintro e w' ⟨v, x, h1, h2, h3⟩
  exact ⟨v, x, h1, hp x h2, h3⟩
theorem fin_S {t : TypeId} {cs : List PV} {ψ : PV → List PV → Prop} {x : PV} (cs' : List PV) (h1 : Zar L (.b 0) = some (.box (cs'.map .p) t)) (h2 : ψ x cs') : finP (some (.box t cs)) (fun r os => ∃ x cs', r = .p x ∧ os = .box t cs' ∧ ψ x cs') x L := ⟨.box t cs', h1, x, cs', rfl, rfl, h2⟩
end
end Go.Proofs.YtndjmidmfmcbkaaGreatDoor

/- From the library's contracts to contracts of the layer: values that need no memory. -/
namespace Go.Proofs.YtndjmidmfmcbkaaGreatDoor
open Go.RowKit
set_option linter.unusedVariables false
set_option linter.unusedSimpArgs false
set_option linter.defProp false
/-- Values that need no memory. -/
def flatD : PV → Bool
  | .int .. | .bool _ | .str _ => true
  | _ => false
def valD : PV → Value
  | .int k n => .int k n
  | .bool b => .bool b
  | .str s => .string ⟨s.toArray⟩
  | _ => undef
theorem PRep.valD {w : World} {U : Nat → Prop} {x : PV} {v : Value} (hf : flatD x = true) : PRep w U x v ↔ v = valD x := by
  cases x <;> simp_all [flatD, PRep, Go.Proofs.YtndjmidmfmcbkaaGreatDoor.valD]
theorem PRepL.valD {w : World} {U : Nat → Prop} : ∀ {xs : List PV} {vs : List Value}, (xs.all flatD) = true → (PRepL w U xs vs ↔ vs = xs.map Go.Proofs.YtndjmidmfmcbkaaGreatDoor.valD) := by
  intro xs
  induction xs with
  | nil => intro vs _; simp [PRepL]
  | cons x r ih =>
    intro vs h
    simp only [List.all_cons, Bool.and_eq_true] at h
    simp only [PRepL, List.map_cons]
    constructor
    · rintro ⟨v, s, rfl, h1, h2⟩
      rw [PRep.valD h.1] at h1
      rw [ih h.2] at h2
      rw [h1, h2]
    · rintro rfl
      exact ⟨_, _, rfl, (PRep.valD h.1).2 rfl, (ih h.2).2 rfl⟩
section
variable {P : Program} {E : Envt}
theorem grow_below {w w' : World} {O : Nat → Prop} (h : Below w.heap.size w w') : Grow w w' O := ⟨h.os, h.tape, h.output, h.size, fun b hb _ => h.block b hb⟩
/-- Results: flat, or a tuple of flat ones. -/
def flatX : PV → Bool
  | .tup cs => cs.all flatD
  | x => flatD x
def valX : PV → Value
  | .tup cs => .tuple (cs.map valD).toArray
  | x => valD x
theorem PRep.valX {w : World} {U : Nat → Prop} {x : PV} (hf : flatX x = true) : PRep w U x (valX x) := by
  cases x with
  | tup cs => exact ⟨_, rfl, (PRepL.valD (by simpa [flatX] using hf)).2 rfl⟩
  | int k n => rfl
  | bool b => rfl
  | str s => rfl
  | _ => simp [flatX, flatD] at hf
/-- A contract whose arguments and result need no memory. -/
theorem pcall_flat {f : FuncId} {args : List PV} {r : PV} (ha : args.all flatD = true) (hr : flatX r = true) (h : ∀ w, E.ok w → Calls P f (args.map valD).toArray w fun e w' => e = .returned (valX r) ∧ Grow w w' (fun _ => False)) : PCall P E f args (· = r) := by
  intro w U vs hU hE hEb hA
  rw [PRepL.valD ha] at hA
  subst hA
  refine (h w hE).mono ?_
  rintro e w' ⟨rfl, hg⟩
  exact ⟨_, r, rfl, rfl, PRep.valX hr, hg⟩
end
end Go.Proofs.YtndjmidmfmcbkaaGreatDoor

/- strings.Builder as two owned objects: the variable and its buffer's row; calls that write into it. No program in sight. -/
namespace Go.Proofs.YtndjmidmfmcbkaaGreatDoor
set_option linter.unusedVariables false
set_option linter.unusedSimpArgs false
set_option linter.defProp false

/-- What an append of a string does, and where the new row lies. -/
theorem run_app_str {P : Program} (w : World) (base : Nat) (t u ty e : TypeId) (i : TypeInfo) (ht : P.underlying t = some (.slice e)) (hu : P.underlying u = some .string) (hi : P.info? e = some i) (hz : i.zero = some (.int .u8 0))
    (hsize : i.size = 1) (hby : i.bytes = 1) (v : Value) (n : Nat) (xs : List Value) (hown : w.ownsRow base e 1 v n xs) (s : ByteArray)
    (h63 : n + s.size ≤ maxLen) (hbytes : n + s.size ≤ 140737488355328) (hbase : base ≤ w.heap.size) :
    ∃ v' w', (Builtin.append_ #[t, u] ty #[v, .string s]).run P w = .ok v' w' ∧ w'.ownsRow base e 1 v' (n + s.size) (xs ++ Lib.strCells s) ∧ w.grownBy w' v.ownBlock ∧
      ∀ x, v'.ownBlock = some x → v.ownBlock = some x ∨ w.heap.size ≤ x := by
  have hxl : xs.length = n := by simpa using hown.1
  have hlen : (xs ++ Lib.strCells s).length = (n + s.size) * 1 := by rw [List.length_append, hxl, Lib.strCells_length, Nat.mul_one]
  rcases hown.2 with ⟨rfl, rfl⟩ | ⟨g, cap, cur, rfl, hbg, hg, hnc, hcm, hcs, htake⟩
  · have h0 : w.ownsRow w.heap.size e 1 (.slice none 0 0) 0 xs := ⟨hown.1, .inl ⟨rfl, rfl⟩⟩
    obtain ⟨v', w', h1, h2, h3, h4⟩ := Lib.run_append_own_string (P := P) w w.heap.size t u ty e i ht hu hi hz hsize hby _ 0 xs h0 s h63 hbytes (Nat.le_refl _)
    refine ⟨v', w', h1, ⟨h2.1, ?_⟩, h3, fun x hx => ?_⟩
    · rcases h2.2 with g1 | ⟨g, cap, cur, g1, g2, g3⟩
      · exact .inl g1
      · exact .inr ⟨g, cap, cur, g1, Nat.le_trans hbase g2, g3⟩
    · rcases h2.2 with ⟨g1, _⟩ | ⟨g, cap, cur, g1, g2, g3⟩
      · rw [g1] at hx; cases hx
      · rw [g1] at hx; cases hx; exact .inr g2
  · have hsmall : n + s.size ≤ 9223372036854775807 := by simp only [maxLen] at h63; omega
    by_cases hroom : n + s.size ≤ cap
    · have hcs' : cur.size = cap := by simpa using hcs
      have hr := Lib.run_append_room_string (P := P) w t u ty e i ht hu hi hsize g n cap cur hg s hroom (by omega)
      refine ⟨_, _, hr, ⟨hlen, .inr ⟨g, cap, _, rfl, hbg, setRow_heap w g cur _ e _ hg, hroom, hcm, ?_, ?_⟩⟩, ⟨rfl, rfl, rfl, by simp, fun k _ hk => setRow_other w g k _ (fun e => hk (by simp [Value.ownBlock, e]))⟩, fun x hx => .inl hx⟩
      · simp only [List.size_toArray, List.length_append, List.length_take, List.length_drop, Array.length_toList, Lib.strCells_length]
        omega
      · have ht' : cur.toList.take n = xs := by simpa using htake
        rw [ht', ← hlen]
        exact List.take_left
    · have holds : ∀ j u, xs[j]? = some u → w.cell? ((⟨g, 0, none⟩ : Addr).add j) = some u := hown.cells (g := g) rfl
      have hr := Lib.run_append_grow_string (P := P) w t u ty e i (.int .u8 0) ht hu hi hz ⟨g, 0, none⟩ n cap xs (by rw [hsize]; simpa using hxl) holds s (by omega) (by omega) (by rw [hby]; exact growslice_fits (by omega) (by omega))
      have hge := grownCap_ge w (n + s.size) cap e
      have hcm2 : grownCap w (n + s.size) cap e ≤ maxLen := grownCap_le_maxLen w (n + s.size) cap e h63
      refine ⟨_, _, hr, ⟨hlen, .inr ⟨w.heap.size, _, _, rfl, hbase, heap_alloc_new w.drew _, hge, hcm2, ?_, ?_⟩⟩, ⟨rfl, rfl, rfl, by simp, fun k hk _ => Lib.alloc_old w.drew _ k hk⟩, fun x hx => ?_⟩
      · have hz1 : (Value.int IntKind.u8 0).cells.size = 1 := rfl
        simp only [Array.size_append, List.size_toArray, size_zeroCells, hz1, hxl, Lib.strCells_length]
        omega
      · simp only [Array.toList_append, List.append_assoc]
        rw [← List.append_assoc, ← hlen]
        exact List.take_left
      · simp [Value.ownBlock] at hx
        omega
theorem wpList_app_str {P : Program} {w : World} {ops : Array Oper} {rest : List Oper} {o : Oper} {a : Act} {Q : Exit → Act → World → Prop} (hgd : o.guard = none) (sl x : Operand) (t u : TypeId)
    (ho : o.op = .call { callee := .builtin .append, args := #[sl, x], argTypes := #[t, u] })
    (base : Nat) (e : TypeId) (i : TypeInfo) (ht : P.underlying t = some (.slice e)) (hu : P.underlying u = some .string) (hi : P.info? e = some i) (hz : i.zero = some (.int .u8 0))
    (hsize : i.size = 1) (hby : i.bytes = 1)
    (v : Value) (n : Nat) (xs : List Value) (hs : a.eval sl = v) (hown : w.ownsRow base e 1 v n xs) (s : ByteArray) (hx : a.eval x = .string s)
    (h63 : n + s.size ≤ maxLen) (hbytes : n + s.size ≤ 140737488355328) (hbase : base ≤ w.heap.size)
    (h : ∀ v' w', w'.ownsRow base e 1 v' (n + s.size) (xs ++ Lib.strCells s) → w.grownBy w' v.ownBlock → (∀ x, v'.ownBlock = some x → v.ownBlock = some x ∨ w.heap.size ≤ x) → wpList P ops Q rest (a.put o.dst v') w') : wpList P ops Q (o :: rest) a w := by
  refine wpList_plain hgd fun K hK => ?_
  obtain ⟨v', w', hr, h2, h3, h4⟩ := run_app_str (P := P) w base t u o.type e i ht hu hi hz hsize hby v n xs hown s h63 hbytes hbase
  unfold Oper.wp execOp
  simp only [ho, resolve, invoke, builtin, Sem.run_bind, Sem.run_pure, Result.andThen_ok, List.map_toArray, List.map_cons, List.map_nil, hs, hx, hr]
  exact hK _ _ (h v' w' h2 h3 h4)

def nilP : PV := .raw (.pointer none)
def bytC (s : List UInt8) : List (List PV) := s.map fun c => [.int .u8 c.toNat]
/-- The buffer's block. -/
def bufOf (w : World) (T : TypeId) (b x : Nat) : Prop := ∃ p u, w.heap[b]? = some (.cells #[p, u] T (0, 0)) ∧ u.ownBlock = some x
/-- A used builder that holds bs, and what changed on the way to it. -/
def SbPost (T e : TypeId) (b : Nat) (bs : List UInt8) (w w' : World) : Prop :=
  (∃ v, w'.heap[b]? = some (.cells #[.pointer (some ⟨b, 0, none⟩), v] T (0, 0)) ∧ w'.ownsRow 0 e 1 v bs.length (Lib.byteCells bs) ∧ v.ownBlock ≠ some b ∧ ∀ x, v.ownBlock = some x → bufOf w T b x ∨ w.heap.size ≤ x) ∧ Grow w w' (fun x => x = b ∨ bufOf w T b x)
/-- What the layer holds of a builder: its variable's cells, and the bytes. -/
def SbAt (L : Objs) (k : Key) (i : Nat) (T e : TypeId) (s : List UInt8) : Prop :=
  (Zar L k = some (.box [.p nilP, .p (.nl 1)] T) ∧ s = []) ∨ (Zar L k = some (.box [.adr k 0, .row (.l i)] T) ∧ Zar L (.l i) = some (.row (bytC s) e 1 true))
def putSb (L : Objs) (k : Key) (i : Nat) (T e : TypeId) (s : List UInt8) : Objs := Zas (Zau L (.l i) (.row (bytC s) e 1 true)) k (.box [.adr k 0, .row (.l i)] T)

theorem ObjOk.mono {w w' : World} {U U' : Nat → Prop} {ι : Key → Value} {j : Key} {ao : AO} (hk : Keeps w w' U U') (hb : ∀ b, blk (ι j) = some b → w'.heap[b]? = w.heap[b]?) (h : ObjOk w U ι j ao) : ObjOk w' U' ι j ao := by
  cases ao with
  | box cs t =>
    obtain ⟨b, vs, e1, e2, e3, e4, e5⟩ := h
    refine ⟨b, vs, e1, by rw [hb b (by rw [e1]; rfl)]; exact e2, e3, e4, fun i x hx => ?_⟩
    obtain ⟨u, hu, hr⟩ := e5 i x hx
    exact ⟨u, hu, hr.mono hk⟩
  | row es e z ap =>
    obtain ⟨vs, hown, e4, e5, e6⟩ := h
    refine ⟨vs, ⟨hown.1, ?_⟩, e4, PRepL.mono hk _ _ e5, e6⟩
    rcases hown.2 with ⟨g1, g2⟩ | ⟨g, cap, cur, fz, g1, g2, rest⟩
    · exact .inl ⟨g1, g2⟩
    · exact .inr ⟨g, cap, cur, fz, g1, by rw [hb g (by rw [g1]; rfl)]; exact g2, rest⟩
  | map kv x y =>
    obtain ⟨r, ents, cl, e1, e2, e3⟩ := h
    exact ⟨r, ents, cl, e1, by rw [hb r (by rw [e1]; rfl)]; exact e2, e3.1, PRepL.mono hk _ _ e3.2⟩

section
variable {w w1 w2 : World} {T e : TypeId} {b : Nat} {v v' : Value} {bs : List UInt8} {p : Value}
theorem lt_of_heap {o : Obj} (h : w.heap[b]? = some o) : b < w.heap.size := by
  rcases Nat.lt_or_ge b w.heap.size with h' | h'
  · exact h'
  · simp [Array.getElem?_eq_none h'] at h
theorem bufOf_eq (h : w.heap[b]? = some (.cells #[p, v] T (0, 0))) {x : Nat} : bufOf w T b x ↔ v.ownBlock = some x := by
  constructor
  · rintro ⟨q, u, h1, h2⟩
    rw [h] at h1
    simp at h1
    rw [h1.2]; exact h2
  · intro h2; exact ⟨_, _, h, h2⟩
theorem heap_set1 (h : w.heap[b]? = some (.cells #[p, v] T (0, 0))) : (w.setCell ⟨b, 1, none⟩ v').heap[b]? = some (.cells #[p, v'] T (0, 0)) := by
  simp [World.setCell, Array.getElem?_modify, h]
theorem heap_set0 {q : Value} (h : w.heap[b]? = some (.cells #[p, v] T (0, 0))) : (w.setCell ⟨b, 0, none⟩ q).heap[b]? = some (.cells #[q, v] T (0, 0)) := by
  simp [World.setCell, Array.getElem?_modify, h]
theorem grow_setCell {O : Nat → Prop} (off : Nat) (q : Value) (hO : O b) : Grow w (w.setCell ⟨b, off, none⟩ q) O :=
  ⟨rfl, rfl, rfl, by simp [World.setCell], fun c _ hn => heap_setCell_other _ _ _ _ (fun e => hn (by subst e; exact hO))⟩
theorem sbpost_mk (hTe : T ≠ e) (h1 : Grow w w1 (· = b)) (hb1 : ∀ x, bufOf w1 T b x → bufOf w T b x) (hk1 : w1.heap[b]? = some (.cells #[.pointer (some ⟨b, 0, none⟩), v] T (0, 0))) (hg : w1.grownBy w2 v.ownBlock) (hne : v.ownBlock ≠ some b)
    (hloc : ∀ x, v'.ownBlock = some x → v.ownBlock = some x ∨ w1.heap.size ≤ x) (hown : w2.ownsRow 0 e 1 v' bs.length (Lib.byteCells bs)) : SbPost T e b bs w (w2.setCell ⟨b, 1, none⟩ v') := by
  have hk2 : w2.heap[b]? = some (.cells #[.pointer (some ⟨b, 0, none⟩), v] T (0, 0)) := by rw [hg.block b (lt_of_heap hk1) (fun e => hne e.symm)]; exact hk1
  have hne' := Lib.ownBlock_ne hown hk2 hTe
  refine ⟨⟨v', heap_set1 hk2, ?_, hne', fun x hx => ?_⟩, ?_⟩
  · exact hown.kept (row := some b) ⟨rfl, rfl, rfl, by simp [World.setCell], fun k _ hk => heap_setCell_other _ _ _ _ (fun e => hk (by simp [e]))⟩ (Or.inr hne')
  · rcases hloc x hx with h | h
    · exact .inl (hb1 x ((bufOf_eq hk1).2 h))
    · exact .inr (Nat.le_trans h1.size h)
  · refine ⟨hg.os.trans h1.os, hg.tape.trans h1.tape, hg.output.trans h1.output, Nat.le_trans h1.size (Nat.le_trans hg.size (by simp [World.setCell])), fun c hc hn => ?_⟩
    have e1 := h1.block c hc (fun e => hn (.inl e))
    have e2 := hg.block c (Nat.lt_of_lt_of_le hc h1.size) (fun e => hn (.inr (hb1 c ((bufOf_eq hk1).2 e.symm))))
    rw [heap_setCell_other _ _ _ _ (fun e => hn (.inl (by simpa using e))), e2, e1]
/-- Behind copyCheck. -/
def CcPost (T e : TypeId) (b : Nat) (bs : List Value) (w w1 : World) : Prop :=
  ∃ v, w1.heap[b]? = some (.cells #[.pointer (some ⟨b, 0, none⟩), v] T (0, 0)) ∧ w1.ownsRow 0 e 1 v bs.length bs ∧ v.ownBlock ≠ some b ∧ Grow w w1 (· = b) ∧ ∀ x, bufOf w1 T b x → bufOf w T b x
theorem ccpost_used {bs : List Value} (h : Lib.BuilderAt T e 0 b (.pointer (some ⟨b, 0, none⟩)) bs w) : CcPost T e b bs w w := by
  obtain ⟨_, v, h1, h2, h3⟩ := h
  exact ⟨v, h1, h2, h3, Grow.refl _ _, fun _ h => h⟩
theorem ccpost_fresh {bs : List Value} (h : Lib.BuilderAt T e 0 b (.pointer none) bs w) : CcPost T e b bs w (w.setCell ⟨b, 0, none⟩ (.pointer (some ⟨b, 0, none⟩))) := by
  obtain ⟨_, v, h1, h2, h3⟩ := h
  refine ⟨v, heap_set0 h1, ?_, h3, grow_setCell 0 _ rfl, fun x hx => ?_⟩
  · exact h2.kept (row := some b) ⟨rfl, rfl, rfl, by simp [World.setCell], fun k _ hk => heap_setCell_other _ _ _ _ (fun e => hk (by simp [e]))⟩ (Or.inr h3)
  · exact (bufOf_eq h1).2 ((bufOf_eq (heap_set0 h1)).1 hx)
theorem grow_freeze {g n : Nat} {O : Nat → Prop} (hg : O g) : Grow w (w.drew.freeze ⟨g, 0, none⟩ n) O := by
  unfold World.freeze
  split
  · exact (Grow.refl w O).drew
  · exact ⟨rfl, rfl, rfl, by simp, fun k hk hn => by
      simp only [Array.getElem?_modify]
      rw [if_neg (fun e => hn (by subst e; exact hg))]
      rfl⟩
theorem grow_alloc' {o : Obj} {O : Nat → Prop} : Grow w (w.drew.alloc o) O := ⟨rfl, rfl, rfl, by simp, fun k hk _ => Lib.alloc_old w.drew _ k hk⟩
theorem SbPost.of_grown (hTe : T ≠ e) {cs : Array Value} (hbk : w.heap[b]? = some (.cells #[.pointer (some ⟨b, 0, none⟩), .slice none 0 0] T (0, 0))) (hm : cs.size ≤ maxLen) :
    SbPost T e b [] w ((w.alloc (.cells cs e)).setCell ⟨b, 1, none⟩ (.slice (some ⟨w.heap.size, 0, none⟩) 0 cs.size)).drew.drew.drew := by
  have h : SbPost T e b [] w ((w.alloc (.cells cs e)).setCell ⟨b, 1, none⟩ (.slice (some ⟨w.heap.size, 0, none⟩) 0 cs.size)) := by
    refine sbpost_mk (w1 := w) hTe (Grow.refl _ _) (fun _ h => h) hbk (w2 := w.alloc (.cells cs e)) ⟨rfl, rfl, rfl, by simp, fun k hk _ => Lib.alloc_old w _ k hk⟩ (by simp [Value.ownBlock]) (fun x hx => ?_) ?_
    · simp [Value.ownBlock] at hx; omega
    · exact ⟨rfl, .inr ⟨w.heap.size, cs.size, cs, rfl, Nat.zero_le _, heap_alloc_new w _, Nat.zero_le _, hm, by simp, by simp [Lib.byteCells]⟩⟩
  obtain ⟨⟨u, h1, h2, h3, h4⟩, hG⟩ := h
  exact ⟨⟨u, h1, h2, h3, h4⟩, hG.drew.drew.drew⟩
theorem SbPost.behind {q : Value} (hbk : w.heap[b]? = some (.cells #[q, .slice none 0 0] T (0, 0))) (h : SbPost T e b bs (w.setCell ⟨b, 0, none⟩ (.pointer (some ⟨b, 0, none⟩))).drew w2) : SbPost T e b bs w w2 := by
  obtain ⟨⟨u, h1, h2, h3, h4⟩, hG⟩ := h
  have hk := heap_set0 (q := .pointer (some ⟨b, 0, none⟩)) hbk
  have hno : ∀ x, ¬ bufOf (w.setCell ⟨b, 0, none⟩ (.pointer (some ⟨b, 0, none⟩))).drew T b x := fun x hx => by
    have := (bufOf_eq (w := (w.setCell ⟨b, 0, none⟩ (.pointer (some ⟨b, 0, none⟩))).drew) hk).1 hx
    simp [Value.ownBlock] at this
  refine ⟨⟨u, h1, h2, h3, fun x hx => ?_⟩, ?_⟩
  · rcases h4 x hx with h | h
    · exact (hno x h).elim
    · exact .inr (by simpa [World.setCell] using h)
  · refine (grow_setCell (w := w) 0 (.pointer (some ⟨b, 0, none⟩)) (O := fun x => x = b ∨ bufOf w T b x) (.inl rfl)).drew.trans hG (fun c hc => ?_)
    rcases hc with h | h
    · exact .inl (.inl h)
    · exact (hno c h).elim
theorem SbPost.of_used {q : Value} (hbk : w.heap[b]? = some (.cells #[q, .slice none 0 0] T (0, 0))) : SbPost T e b [] w (w.setCell ⟨b, 0, none⟩ (.pointer (some ⟨b, 0, none⟩))).drew := by
  refine ⟨⟨.slice none 0 0, heap_set0 hbk, World.ownsRow_nil _ _ _ _, by simp [Value.ownBlock], fun x hx => by simp [Value.ownBlock] at hx⟩, ?_⟩
  exact (grow_setCell (w := w) 0 (.pointer (some ⟨b, 0, none⟩)) (O := fun x => x = b ∨ bufOf w T b x) (.inl rfl)).drew
end

section
variable {P : Program} {E : Envt} {w w' : World} {X : Nat → Prop} {U : Nat → Prop} {L : Objs} {ι : Key → Value} {k : Key} {i : Nat} {T e : TypeId} {s s' : List UInt8}

theorem bytC_len : (bytC s).length = s.length := by simp [bytC]
theorem bytC_rep : ∀ {s : List UInt8} {vs : List Value}, PRepL w U (bytC s).flatten vs ↔ vs = Lib.byteCells s
  | [], vs => by simp [bytC, PRepL, Lib.byteCells]
  | c :: r, vs => by
    have ih : ∀ vs, PRepL w U (bytC r).flatten vs ↔ vs = Lib.byteCells r := fun vs => bytC_rep
    simp only [bytC, List.map_cons, List.flatten_cons, List.cons_append, List.nil_append, PRepL, PRep, Lib.byteCells] at ih ⊢
    constructor
    · rintro ⟨v, r', rfl, rfl, h⟩
      rw [(ih r').1 h]
    · rintro rfl
      exact ⟨_, _, rfl, rfl, (ih _).2 rfl⟩

theorem own_ne (hs : Sim w X L ι) {k j : Key} {a q : AO} (h1 : Zar L k = some a) (h2 : Zar L j = some q) (hne : k ≠ j) {b : Nat} (hb : blk (ι k) = some b) : blk (ι j) ≠ some b := fun h => hne (hs.inj k j a q b h1 h2 hb h)

/-- The builder in the world. -/
theorem sb_world (hs : Sim w X L ι) (hki : k ≠ .l i) (h : SbAt L k i T e s) : ∃ b, ι k = .pointer (some ⟨b, 0, none⟩) ∧ (∃ a, Zar L k = some a) ∧ Lib.IsBuilder T e 0 b (Lib.byteCells s) w ∧ (∀ x, bufOf w T b x → Old L ι (.l i) x) ∧ (Zar L k = some (.box [.p nilP, .p (.nl 1)] T) → w.heap[b]? = some (.cells #[.pointer none, .slice none 0 0] T (0, 0))) := by
  rcases h with ⟨h1, rfl⟩ | ⟨h1, h2⟩
  · obtain ⟨b, vs, e1, e2, e3, e4, e5⟩ := hs.obj k _ h1
    obtain ⟨v0, f0, r0⟩ := e5 0 _ rfl
    obtain ⟨v1, f1, r1⟩ := e5 1 _ rfl
    simp only [ARep, PRep, nilP] at r0 r1
    have hvs : vs = [.pointer none, .slice none 0 0] := by
      match vs, e3, f0, f1 with
      | [x, y], _, f0, f1 =>
        simp at f0 f1
        rw [f0, f1, r0.1, r1]
    subst hvs
    refine ⟨b, e1, ⟨_, h1⟩, .inl ⟨Nat.zero_le _, .slice none 0 0, e2, World.ownsRow_nil _ _ _ _, by simp [Value.ownBlock]⟩, ?_, fun _ => e2⟩
    rintro x ⟨p, u, g1, g2⟩
    rw [g1] at e2
    simp at e2
    rw [e2.2] at g2
    simp [Value.ownBlock] at g2
  · obtain ⟨b, vs, e1, e2, e3, e4, e5⟩ := hs.obj k _ h1
    obtain ⟨v0, f0, r0⟩ := e5 0 _ rfl
    obtain ⟨v1, f1, r1⟩ := e5 1 _ rfl
    obtain ⟨b', q1, q2⟩ := r0
    obtain ⟨q3, q4⟩ := r1
    have hbb : b' = b := by rw [e1] at q1; cases q1; rfl
    subst hbb
    have hvs : vs = [.pointer (some ⟨b', 0, none⟩), ι (.l i)] := by
      match vs, e3, f0, f1 with
      | [x, y], _, f0, f1 =>
        simp at f0 f1
        rw [f0, f1, q2, q3]
    subst hvs
    obtain ⟨us, u1, u2, u3, u4⟩ := hs.obj (.l i) _ h2
    rw [bytC_rep] at u3
    subst u3
    have hsl : ∃ A n c, ι (.l i) = .slice A n c := by rw [← q3]; exact q4
    have hbk : blk (ι (.l i)) = (ι (.l i)).ownBlock := blk_own (b := 0) hsl
    refine ⟨b', e1, ⟨_, h1⟩, .inr ⟨Nat.zero_le _, ι (.l i), e2, ?_, ?_⟩, ?_, fun hf => by rw [h1] at hf; cases hf⟩
    · have := u1.owns
      rw [bytC_len] at this
      simpa [Lib.byteCells] using this
    · rw [← hbk]
      exact own_ne hs h1 h2 hki (by rw [e1]; rfl)
    · rintro x ⟨p, u, g1, g2⟩
      rw [g1] at e2
      simp at e2
      rw [e2.2, ← hbk] at g2
      exact ⟨_, h2, g2⟩

theorem look_putSb (j : Key) : Zar (putSb L k i T e s) j = if j = k then some (.box [.adr k 0, .row (.l i)] T) else if j = .l i then some (.row (bytC s) e 1 true) else (Zar L j).map (AO.kill (.l i)) := by
  unfold putSb
  rw [look_putO, look_updL]

/-- A function that writes into a builder. -/
theorem sb_call {f : FuncId} {as : List AV} {vr : List Value} {x : PV} {v : Value} (hki : k ≠ .l i) (hat : SbAt L k i T e s) (ha : ∀ w U ι vs, ARepL w U ι as vs → vs = vr) (hx : ∀ w U, PRep w U x v)
    (hc : ∀ b w, Lib.IsBuilder T e 0 b (Lib.byteCells s) w → (Zar L k = some (.box [.p nilP, .p (.nl 1)] T) → w.heap[b]? = some (.cells #[.pointer none, .slice none 0 0] T (0, 0))) → Calls P f (.pointer (some ⟨b, 0, none⟩) :: vr).toArray w fun ev w' => ev = .returned v ∧ SbPost T e b s' w w')
    {K : AV → Objs → Prop} (hK : K (.p x) (putSb L k i T e s')) : Call P E f (.adr k 0 :: as) L i K := by
  intro w X ι vs hs hX hE hEb hA
  simp only [ARepL] at hA
  obtain ⟨v0, vr', rfl, ⟨b0, hv1, hv2⟩, hA⟩ := hA
  have := ha _ _ _ _ hA
  subst this
  obtain ⟨b, hb1, ⟨ak, hak⟩, hib, hbuf, hfr⟩ := sb_world hs hki hat
  have hbb : b0 = b := by rw [hb1] at hv1; cases hv1; rfl
  subst hbb
  subst hv2
  refine (hc b0 w hib hfr).mono ?_
  rintro ev w' ⟨rfl, ⟨u, p1, p2, p3, p4⟩, hG⟩
  have hOk : Own L ι b0 := ⟨k, ak, hak, by rw [hb1]; rfl⟩
  have hGo : ∀ c, (c = b0 ∨ bufOf w T b0 c) → Own L ι c := by
    rintro c (rfl | h)
    · exact hOk
    · obtain ⟨q, h1, h2⟩ := hbuf c h; exact ⟨_, q, h1, h2⟩
  have husl := owns_slice p2
  have hubk : blk u = u.ownBlock := blk_own (b := 0) husl
  have hik : updI ι (.l i) u k = ι k := by simp [updI, hki]
  have hii : updI ι (.l i) u (.l i) = u := by simp [updI]
  -- what the new objects own
  have hown : ∀ c, Own (putSb L k i T e s') (updI ι (.l i) u) c → Own L ι c ∨ w.heap.size ≤ c := by
    rintro c ⟨j, q, h1, h2⟩
    by_cases e1 : j = k
    · subst e1; rw [hik] at h2; exact .inl ⟨j, ak, hak, h2⟩
    · by_cases e2 : j = .l i
      · subst e2
        rw [hii, hubk] at h2
        rcases p4 c h2 with h | h
        · exact .inl (hGo c (.inr h))
        · exact .inr h
      · rw [look_putSb, if_neg e1, if_neg e2] at h1
        obtain ⟨q', h3, _⟩ := Option.map_eq_some_iff.1 h1
        refine .inl ⟨j, q', h3, ?_⟩
        simpa [updI, e2] using h2
  have hgrow : Grow w w' (Own L ι) := ⟨hG.os, hG.tape, hG.output, hG.size, fun c hc hn => hG.block c hc (fun h => hn (hGo c h))⟩
  have hk : Keeps w w' (fun c => Own L ι c ∨ X c) (fun c => Own (putSb L k i T e s') (updI ι (.l i) u) c ∨ X c) := by
    intro c hlt hu
    refine ⟨hgrow.block c hlt (fun h => hu (.inl h)), ?_⟩
    rintro (h | h)
    · rcases hown c h with h' | h'
      · exact hu (.inl h')
      · omega
    · exact hu (.inr h)
  refine ⟨v, .p x, _, updI ι (.l i) u, rfl, hK, hx _ _, ⟨⟨?_, ?_⟩, hgrow, hown, fun j hj => by simp [updI, hj], ?_⟩⟩
  · intro j q hj
    rw [look_putSb] at hj
    by_cases e1 : j = k
    · subst e1
      rw [if_pos rfl] at hj
      cases hj
      refine ⟨b0, [.pointer (some ⟨b0, 0, none⟩), u], by rw [hik]; exact hb1, p1, rfl, ?_, ?_⟩
      · intro y hy
        simp only [List.mem_cons, List.not_mem_nil, or_false] at hy
        rcases hy with rfl | rfl
        · rfl
        · obtain ⟨A, n, c, rfl⟩ := husl; rfl
      · intro m a hm
        match m, hm with
        | 0, hm => simp at hm; subst hm; exact ⟨_, rfl, b0, by rw [hik]; exact hb1, rfl⟩
        | 1, hm => simp at hm; subst hm; exact ⟨_, rfl, by rw [hii], husl⟩
    · rw [if_neg e1] at hj
      by_cases e2 : j = .l i
      · subst e2
        rw [if_pos rfl] at hj
        cases hj
        refine ⟨Lib.byteCells s', ?_, ?_, bytC_rep.2 rfl, ?_⟩
        · rw [hii, bytC_len]; exact RowOk.of_owns p2
        · intro y hy
          simp only [Lib.byteCells, List.mem_map] at hy
          obtain ⟨c, _, rfl⟩ := hy
          rfl
        · intro y hy
          simp only [bytC, List.mem_map] at hy
          obtain ⟨c, _, rfl⟩ := hy
          rfl
      · rw [if_neg e2] at hj
        obtain ⟨q', h1, rfl⟩ := Option.map_eq_some_iff.1 hj
        have ho := hs.obj j q' h1
        refine ObjOk.other e2 hk (fun c hcj => hG.block c (ho.blk_lt hcj) ?_) ho
        rintro (rfl | h)
        · exact own_ne hs hak h1 (fun e => e1 e.symm) (by rw [hb1]; rfl) hcj
        · obtain ⟨q2, h2, h3⟩ := hbuf c h
          exact own_ne hs h2 h1 (fun e => e2 e.symm) h3 hcj
  · have hin : ∀ j q c, Zar (putSb L k i T e s') j = some q → blk (updI ι (.l i) u j) = some c → (j = .l i ∧ u.ownBlock = some c) ∨ (j ≠ .l i ∧ ∃ q', Zar L j = some q' ∧ blk (ι j) = some c) := by
      intro j q c hj hc
      by_cases e2 : j = .l i
      · subst e2; rw [hii, hubk] at hc; exact .inl ⟨rfl, hc⟩
      · refine .inr ⟨e2, ?_⟩
        rw [look_putSb] at hj
        have hc' : blk (ι j) = some c := by simpa [updI, e2] using hc
        by_cases e1 : j = k
        · subst e1; exact ⟨ak, hak, hc'⟩
        · rw [if_neg e1, if_neg e2] at hj
          obtain ⟨q', h1, _⟩ := Option.map_eq_some_iff.1 hj
          exact ⟨q', h1, hc'⟩
    have hclash : ∀ j c, u.ownBlock = some c → j ≠ .l i → (∃ q', Zar L j = some q' ∧ blk (ι j) = some c) → False := by
      rintro j c h1 h2 ⟨q', h3, h4⟩
      rcases p4 c h1 with h | h
      · obtain ⟨q2, h5, h6⟩ := hbuf c h
        exact own_ne hs h5 h3 (fun e => h2 e.symm) h6 h4
      · have := (hs.obj j q' h3).blk_lt h4
        omega
    intro j j' q q' c hj hj' hc hc'
    rcases hin j q c hj hc with ⟨rfl, h1⟩ | ⟨h1, h2⟩ <;> rcases hin j' q' c hj' hc' with ⟨rfl, h3⟩ | ⟨h3, h4⟩
    · rfl
    · exact (hclash _ c h1 h3 h4).elim
    · exact (hclash _ c h3 h1 h2).elim
    · obtain ⟨q1, g1, g2⟩ := h2
      obtain ⟨q2, g3, g4⟩ := h4
      exact hs.inj j j' q1 q2 c g1 g3 g2 g4
  · intro j hj
    rw [look_putSb] at hj
    by_cases e1 : j = k
    · subst e1; exact .inl (by rw [hak]; rfl)
    · by_cases e2 : j = .l i
      · exact .inr e2
      · rw [if_neg e1, if_neg e2] at hj
        exact .inl (by simpa using hj)

def delSb (L : Objs) (k : Key) (i : Nat) : Objs := delO (delO L k) (.l i)
theorem look_delSb (j : Key) : Zar (delSb L k i) j = if j = .l i ∨ j = k then none else Zar L j := by
  unfold delSb
  rw [look_delO, look_delO]
  by_cases h1 : j = .l i <;> by_cases h2 : j = k <;> simp [h1, h2]

/-- The string of a builder: the builder is not used any more. -/
theorem sb_string {f : FuncId} (hki : k ≠ .l i) (hat : SbAt L k i T e s)
    (hc : ∀ b w, Lib.IsBuilder T e 0 b (Lib.byteCells s) w → Calls P f #[.pointer (some ⟨b, 0, none⟩)] w fun ev w' => ev = .returned (.string ⟨s.toArray⟩) ∧ Grow w w' (fun x => x = b ∨ bufOf w T b x))
    {K : AV → Objs → Prop} (hK : K (.p (.str s)) (delSb L k i)) : Call P E f [.adr k 0] L i K := by
  intro w X ι vs hs hX hE hEb hA
  simp only [ARepL] at hA
  obtain ⟨v0, vr', rfl, ⟨b0, hv1, hv2⟩, hA⟩ := hA
  subst hA
  obtain ⟨b, hb1, ⟨ak, hak⟩, hib, hbuf, hfr⟩ := sb_world hs hki hat
  have hbb : b0 = b := by rw [hb1] at hv1; cases hv1; rfl
  subst hbb
  subst hv2
  refine (hc b0 w hib).mono ?_
  rintro ev w' ⟨rfl, hG⟩
  have hGo : ∀ c, (c = b0 ∨ bufOf w T b0 c) → Own L ι c := by
    rintro c (rfl | h)
    · exact ⟨k, ak, hak, by rw [hb1]; rfl⟩
    · obtain ⟨q, h1, h2⟩ := hbuf c h; exact ⟨_, q, h1, h2⟩
  have hsub : ∀ j q, Zar (delSb L k i) j = some q → j ≠ .l i ∧ j ≠ k ∧ Zar L j = some q := by
    intro j q hj
    rw [look_delSb] at hj
    by_cases h : j = .l i ∨ j = k
    · rw [if_pos h] at hj; cases hj
    · rw [if_neg h] at hj; exact ⟨fun e => h (.inl e), fun e => h (.inr e), hj⟩
  have hown : ∀ c, Own (delSb L k i) ι c → Own L ι c := by
    rintro c ⟨j, q, h1, h2⟩
    exact ⟨j, q, (hsub j q h1).2.2, h2⟩
  have hgrow : Grow w w' (Own L ι) := ⟨hG.os, hG.tape, hG.output, hG.size, fun c hc hn => hG.block c hc (fun h => hn (hGo c h))⟩
  have hk : Keeps w w' (fun c => Own L ι c ∨ X c) (fun c => Own (delSb L k i) ι c ∨ X c) := fun c hlt hu => ⟨hgrow.block c hlt (fun h => hu (.inl h)), fun h => hu (h.imp (hown c) id)⟩
  refine ⟨_, .p (.str s), _, ι, rfl, hK, rfl, ⟨⟨fun j q hj => ?_, fun j j' q q' c hj hj' h1 h2 => hs.inj j j' q q' c (hsub j q hj).2.2 (hsub j' q' hj').2.2 h1 h2⟩, hgrow, fun c h => .inl (hown c h), fun j hj => rfl, fun j hj => ?_⟩⟩
  · obtain ⟨e2, e1, h1⟩ := hsub j q hj
    have ho := hs.obj j q h1
    have hne : ∀ c, blk (ι j) = some c → w'.heap[c]? = w.heap[c]? := by
      intro c hcj
      refine hG.block c (ho.blk_lt hcj) ?_
      rintro (rfl | h)
      · exact own_ne hs hak h1 (fun e => e1 e.symm) (by rw [hb1]; rfl) hcj
      · obtain ⟨q2, h2, h3⟩ := hbuf c h
        exact own_ne hs h2 h1 (fun e => e2 e.symm) h3 hcj
    exact ObjOk.mono hk hne ho
  · obtain ⟨q, hq⟩ := Option.isSome_iff_exists.1 hj
    exact .inl (by rw [(hsub j q hq).2.2]; rfl)

variable {fr : List AV} {d : Option Nat} {is : List IOper} {Y : List PV} {K : List AV → Objs → Prop}
/-- At a call that writes. -/
theorem useW {f : FuncId} {as : List AV} {vr : List Value} {x : PV} {v : Value} (i : Nat) (T e : TypeId) (s s' : List UInt8) (hat : SbAt L k i T e s) (hki : k ≠ .l i) (ha : ∀ w U ι vs, ARepL w U ι as vs → vs = vr) (hx : ∀ w U, PRep w U x v)
    (hc : ∀ b w, Lib.IsBuilder T e 0 b (Lib.byteCells s) w → (Zar L k = some (.box [.p nilP, .p (.nl 1)] T) → w.heap[b]? = some (.cells #[.pointer none, .slice none 0 0] T (0, 0))) → Calls P f (.pointer (some ⟨b, 0, none⟩) :: vr).toArray w fun ev w' => ev = .returned v ∧ SbPost T e b s' w w')
    (hk : awpOps P E Y is (Zf (fr.map (·.kill (.l i))) d (.p x)) (putSb L k i T e s') K) : CallOp P E f (.adr k 0 :: as) L d fr (contO P E Y is K) :=
  .inr (.inr ⟨i, sb_call hki hat ha hx hc hk⟩)
/-- At the call that reads it all. -/
theorem useWS {f : FuncId} (i : Nat) (T e : TypeId) (s : List UInt8) (hat : SbAt L k i T e s) (hki : k ≠ .l i)
    (hc : ∀ b w, Lib.IsBuilder T e 0 b (Lib.byteCells s) w → Calls P f #[.pointer (some ⟨b, 0, none⟩)] w fun ev w' => ev = .returned (.string ⟨s.toArray⟩) ∧ Grow w w' (fun x => x = b ∨ bufOf w T b x))
    (hk : awpOps P E Y is (Zf (fr.map (·.kill (.l i))) d (.p (.str s))) (delSb L k i) K) : CallOp P E f [.adr k 0] L d fr (contO P E Y is K) :=
  .inr (.inr ⟨i, sb_string hki hat hc hk⟩)
end
end Go.Proofs.YtndjmidmfmcbkaaGreatDoor

/- Calls walked in place: the callee's body is reckoned with the caller's objects (under new names), then goes on with the caller. No program in sight. -/
namespace Go.Proofs.YtndjmidmfmcbkaaGreatDoor
set_option linter.unusedVariables false
set_option linter.unusedSimpArgs false
set_option linter.defProp false

/-- The caller's keys, as the callee knows them; and back. -/
def rk : Key → Key
  | .l j => .b (2 * j + 1)
  | .b j => .b (2 * j)
def uk : Key → Key
  | .b m => if m % 2 = 0 then .b (m / 2) else .l (m / 2)
  | .l j => .l j
theorem uk_rk (k : Key) : uk (rk k) = k := by
  cases k with
  | l j => simp only [rk, uk]; rw [if_neg (by omega)]; congr 1; omega
  | b j => simp only [rk, uk]; rw [if_pos (by omega)]; congr 1; omega
theorem uk_inj {m m' : Nat} (h : uk (.b m) = uk (.b m')) : m = m' := by
  simp only [uk] at h
  split at h <;> split at h <;> first | (injection h; omega) | cases h
def renKs (f : Key → Option Key) : List Key → Option (List Key)
  | [] => some []
  | k :: r => match f k with
    | some k' => (renKs f r).map (k' :: ·)
    | none => none
def renCs (f : Key → Option Key) : List (PV ⊕ Key) → Option (List (PV ⊕ Key))
  | [] => some []
  | .inl p :: r => (renCs f r).map (.inl p :: ·)
  | .inr k :: r => match f k with
    | some k' => (renCs f r).map (.inr k' :: ·)
    | none => none
def AV.ren (f : Key → Option Key) : AV → AV
  | .p x => .p x
  | .row k => match f k with | some k' => .row k' | none => .any
  | .adr k o => match f k with | some k' => .adr k' o | none => .any
  | .rad k z i o => match f k with | some k' => .rad k' z i o | none => .any
  | .ipt z es i o => .ipt z es i o
  | .mp k => match f k with | some k' => .mp k' | none => .any
  | .fn fi ks => match renKs f ks with | some ks' => .fn fi ks' | none => .any
  | .g c a => .g c (a.ren f)
  | .ag cs => match renCs f cs with | some cs' => .ag cs' | none => .any
  | .any => .any
def AO.ren (f : Key → Option Key) : AO → AO
  | .box cs t => .box (cs.map (·.ren f)) t
  | .row es e z ap => .row es e z ap
  | .map kv a b => .map kv a b
def mapO (f : Key → Option Key) : Objs → Objs
  | [] => []
  | (k, a) :: r => match f k with
    | some k' => (k', a.ren f) :: mapO f r
    | none => mapO f r

section
variable {w w' : World} {U : Nat → Prop} {ι ι' : Key → Value} {f : Key → Option Key}
theorem renKs_map (hf : ∀ k k', f k = some k' → ι' k' = ι k) : ∀ {ks ks' : List Key}, renKs f ks = some ks' → ks'.map ι' = ks.map ι
  | [], ks', h => by simp only [renKs, Option.some.injEq] at h; subst h; rfl
  | k :: r, ks', h => by
    simp only [renKs] at h
    split at h
    · rename_i k' e
      obtain ⟨r', h1, rfl⟩ := Option.map_eq_some_iff.1 h
      simp only [List.map_cons, renKs_map hf h1, hf k k' e]
    · cases h
theorem renCs_get (hf : ∀ k k', f k = some k' → ι' k' = ι k) : ∀ {cs cs' : List (PV ⊕ Key)}, renCs f cs = some cs' → cs'.length = cs.length ∧ ∀ (j : Nat) (x' : PV ⊕ Key), cs'[j]? = some x' → ∃ x, cs[j]? = some x ∧ ∀ w U v, CRep w U ι x v → CRep w U ι' x' v
  | [], cs', h => by simp only [renCs, Option.some.injEq] at h; subst h; simp
  | .inl p :: r, cs', h => by
    simp only [renCs] at h
    obtain ⟨r', h1, rfl⟩ := Option.map_eq_some_iff.1 h
    obtain ⟨g1, g2⟩ := renCs_get hf h1
    refine ⟨by simp [g1], fun j x' hx => ?_⟩
    cases j with
    | zero => simp at hx; subst hx; exact ⟨_, rfl, fun w U v h => h⟩
    | succ j => simp at hx; simpa using g2 j x' hx
  | .inr k :: r, cs', h => by
    simp only [renCs] at h
    split at h
    · rename_i k' e
      obtain ⟨r', h1, rfl⟩ := Option.map_eq_some_iff.1 h
      obtain ⟨g1, g2⟩ := renCs_get hf h1
      refine ⟨by simp [g1], fun j x' hx => ?_⟩
      cases j with
      | zero => simp at hx; subst hx; exact ⟨_, rfl, fun w U v h => by simp only [CRep] at h ⊢; rw [hf k k' e]; exact h⟩
      | succ j => simp at hx; simpa using g2 j x' hx
    · cases h
theorem ARep.ren (hf : ∀ k k', f k = some k' → ι' k' = ι k) : ∀ {a : AV} {u : Value}, ARep w U ι a u → ARep w U ι' (a.ren f) u
  | .p x, u, h => h
  | .row k, u, h => by
    simp only [AV.ren]; split
    · rename_i k' e; simpa [ARep, hf k k' e] using h
    · trivial
  | .adr k o, u, h => by
    simp only [AV.ren]; split
    · rename_i k' e; simpa [ARep, hf k k' e] using h
    · trivial
  | .rad k z i o, u, h => by
    simp only [AV.ren]; split
    · rename_i k' e; simpa [ARep, hf k k' e] using h
    · trivial
  | .ipt z es i o, u, h => h
  | .mp k, u, h => by
    simp only [AV.ren]; split
    · rename_i k' e; simpa [ARep, hf k k' e] using h
    · trivial
  | .fn fi ks, u, h => by
    simp only [AV.ren]; split
    · rename_i ks' e
      simp only [ARep] at h ⊢
      rw [h, renKs_map hf e]
    · trivial
  | .g c a, u, h => ⟨fun hc => ARep.ren hf (a := a) (h.1 hc), h.2⟩
  | .ag cs, u, h => by
    simp only [AV.ren]; split
    · rename_i cs' e
      obtain ⟨vs, e0, hl, hr⟩ := h
      obtain ⟨g1, g2⟩ := renCs_get hf e
      refine ⟨vs, e0, by rw [hl, g1], fun j x' hx => ?_⟩
      obtain ⟨x, hx1, hx2⟩ := g2 j x' hx
      obtain ⟨v, h1, h2, h3⟩ := hr j x hx1
      exact ⟨v, h1, h2, hx2 _ _ _ h3⟩
    · trivial
  | .any, u, h => trivial
theorem ObjOk.ren (hf : ∀ k k', f k = some k' → ι' k' = ι k) {k k' : Key} (hk : ι' k' = ι k) {a : AO} (h : ObjOk w U ι k a) : ObjOk w U ι' k' (a.ren f) := by
  cases a with
  | box cs t =>
    obtain ⟨b, vs, e1, e2, e3, e4, e5⟩ := h
    refine ⟨b, vs, by rw [hk]; exact e1, e2, by simpa using e3, e4, fun i x hx => ?_⟩
    rw [List.getElem?_map, Option.map_eq_some_iff] at hx
    obtain ⟨y, hy, rfl⟩ := hx
    obtain ⟨u, hu, hr⟩ := e5 i y hy
    exact ⟨u, hu, hr.ren hf⟩
  | row es e z ap =>
    obtain ⟨vs, hown, e4, e5, e6⟩ := h
    exact ⟨vs, by rw [hk]; exact hown, e4, e5, e6⟩
  | map kv x y =>
    obtain ⟨r, ents, cl, e1, e2, e3⟩ := h
    exact ⟨r, ents, cl, by rw [hk]; exact e1, e2, e3⟩
theorem ObjOk.keeps {U' : Nat → Prop} (hk : Keeps w w U U') {k : Key} {a : AO} (h : ObjOk w U ι k a) : ObjOk w U' ι k a := by
  cases a with
  | box cs t =>
    obtain ⟨b, vs, e1, e2, e3, e4, e5⟩ := h
    refine ⟨b, vs, e1, e2, e3, e4, fun i x hx => ?_⟩
    obtain ⟨u, hu, hr⟩ := e5 i x hx
    exact ⟨u, hu, hr.mono hk⟩
  | row es e z ap =>
    obtain ⟨vs, hown, e4, e5, e6⟩ := h
    exact ⟨vs, hown, e4, PRepL.mono hk _ _ e5, e6⟩
  | map kv x y =>
    obtain ⟨r, ents, cl, e1, e2, e3⟩ := h
    exact ⟨r, ents, cl, e1, e2, e3.1, PRepL.mono hk _ _ e3.2⟩
theorem look_mapO (hi : ∀ k1 k2 k, f k1 = some k → f k2 = some k → k1 = k2) {k : Key} {a : AO} : ∀ {L : Objs}, Zar (mapO f L) k = some a → ∃ k' a', Zar L k' = some a' ∧ f k' = some k ∧ a = a'.ren f
  | [], h => by simp [mapO, Zar] at h
  | (k1, a1) :: r, h => by
    simp only [mapO] at h
    split at h
    · rename_i q e
      simp only [Zar] at h
      split at h
      · rename_i hq
        cases h
        exact ⟨k1, a1, by simp [Zar], by rw [e, hq], rfl⟩
      · rename_i hq
        obtain ⟨k', a', h1, h2, h3⟩ := look_mapO hi h
        refine ⟨k', a', ?_, h2, h3⟩
        simp only [Zar]
        rw [if_neg (fun ek => hq (by rw [ek] at e; rw [h2] at e; cases e; rfl))]
        exact h1
    · rename_i e
      obtain ⟨k', a', h1, h2, h3⟩ := look_mapO hi h
      refine ⟨k', a', ?_, h2, h3⟩
      simp only [Zar]
      rw [if_neg (fun ek => by rw [ek, h2] at e; cases e)]
      exact h1
theorem look_mapO' (hi : ∀ k1 k2 k, f k1 = some k → f k2 = some k → k1 = k2) {k k' : Key} {a : AO} (hk : f k = some k') : ∀ {L : Objs}, Zar L k = some a → Zar (mapO f L) k' = some (a.ren f)
  | [], h => by simp [Zar] at h
  | (k1, a1) :: r, h => by
    simp only [Zar] at h
    simp only [mapO]
    split at h
    · rename_i e
      subst e
      cases h
      rw [hk]
      simp [Zar]
    · rename_i e
      split
      · rename_i q hq
        simp only [Zar]
        rw [if_neg (fun eq => e (hi k1 k k' (by rw [hq, eq]) hk))]
        exact look_mapO' hi hk h
      · exact look_mapO' hi hk h
end

def fwd (k : Key) : Option Key := some (rk k)
def renL (L : Objs) : Objs := mapO fwd L
/-- Back: what lies under .l d becomes .l i. -/
def bwd (L0 L' : Objs) (i : Nat) (d : Option Nat) : Key → Option Key
  | .b m => if (Zar L0 (.b m)).isSome = true ∧ (Zar L' (.b m)).isSome = true ∧ ¬ (d.isSome = true ∧ uk (.b m) = .l i) then some (uk (.b m)) else none
  | .l j => if d = some j then some (.l i) else none
def backL (L0 L' : Objs) (i : Nat) (d : Option Nat) : Objs := mapO (bwd L0 L' i d) L'
theorem fwd_inj : ∀ k1 k2 k, fwd k1 = some k → fwd k2 = some k → k1 = k2 := by
  intro k1 k2 k h1 h2
  simp only [fwd, Option.some.injEq] at h1 h2
  rw [← uk_rk k1, ← uk_rk k2, h1, h2]
theorem bwd_inj {L0 L' : Objs} {i : Nat} {d : Option Nat} : ∀ k1 k2 k, bwd L0 L' i d k1 = some k → bwd L0 L' i d k2 = some k → k1 = k2 := by
  intro k1 k2 k h1 h2
  cases k1 with
  | b m =>
    simp only [bwd] at h1
    split at h1
    · rename_i c1
      cases h1
      cases k2 with
      | b m' =>
        simp only [bwd] at h2
        split at h2
        · simp only [Option.some.injEq] at h2; rw [uk_inj h2.symm]
        · cases h2
      | l j =>
        simp only [bwd] at h2
        split at h2
        · rename_i hd
          simp only [Option.some.injEq] at h2
          exact absurd ⟨by rw [hd]; rfl, h2.symm⟩ c1.2.2
        · cases h2
    · cases h1
  | l j =>
    simp only [bwd] at h1
    split at h1
    · rename_i hd
      cases h1
      cases k2 with
      | b m' =>
        simp only [bwd] at h2
        split at h2
        · rename_i c2
          simp only [Option.some.injEq] at h2
          exact absurd ⟨by rw [hd]; rfl, h2⟩ c2.2.2
        · cases h2
      | l j' =>
        simp only [bwd] at h2
        split at h2
        · rename_i hd'; rw [hd] at hd'; cases hd'; rfl
        · cases h2
    · cases h1

/-- The key that may be laid anew keeps its name. -/
def fwdI (i : Nat) : Key → Option Key
  | .l j => if j = i then some (.l i) else some (.b (2 * j + 1))
  | .b j => some (.b (2 * j))
def renI (i : Nat) (L : Objs) : Objs := mapO (fwdI i) L
theorem fwdI_ex (i : Nat) (k : Key) : ∃ k', fwdI i k = some k' ∧ uk k' = k := by
  cases k with
  | l j =>
    simp only [fwdI]
    split
    · rename_i h; subst h; exact ⟨_, rfl, rfl⟩
    · exact ⟨_, rfl, uk_rk (.l j)⟩
  | b j => exact ⟨_, rfl, uk_rk (.b j)⟩
theorem fwdI_uk {i : Nat} {k k' : Key} (h : fwdI i k = some k') : uk k' = k := by
  obtain ⟨q, h1, h2⟩ := fwdI_ex i k
  rw [h1] at h
  cases h
  exact h2
theorem fwdI_inj (i : Nat) : ∀ k1 k2 k, fwdI i k1 = some k → fwdI i k2 = some k → k1 = k2 := by
  intro k1 k2 k h1 h2
  rw [← fwdI_uk h1, ← fwdI_uk h2]
section
variable {P : Program} {E : Envt}
theorem inl_call (hm : P.follows .mixedOrders = true) {f : FuncId} {fn : Func} {ic : IC} {rs : List IRes} {args : List AV} {n : Nat} {L : Objs} {i : Nat} {K : AV → Objs → Prop} (hf : P.funcs[f]? = some fn) (hc : chkF P fn ic rs n = true)
    (h : awp P E ic (args.map (·.ren (fwdI i)) ++ List.replicate (n - args.length) .any) (renI i L) (retQ rs fun x L' => Zbd x = true ∧ ∃ d, K (.p x) (backL (renL L) L' i d))) : Call P E f args L i K := by
  unfold chkF at hc
  split at hc
  case h_2 => cases hc
  rename_i c hb
  simp only [Bool.and_eq_true, beq_iff_eq] at hc
  obtain ⟨⟨hchk, hr⟩, hn⟩ := hc
  intro w X ι vs hs hX hE hEb hA
  refine calls_of_wp hf hb ?_
  let ι0 : Key → Value := fun k => ι (uk k)
  have hfw : ∀ k k', fwd k = some k' → ι0 k' = ι k := by
    intro k k' e
    simp only [fwd, Option.some.injEq] at e
    show ι (uk k') = ι k
    rw [← e, uk_rk]
  have hlk : ∀ k a, Zar (renL L) k = some a → ∃ k' a', Zar L k' = some a' ∧ k = rk k' ∧ a = a'.ren fwd := by
    intro k a h1
    obtain ⟨k', a', g1, g2, g3⟩ := look_mapO fwd_inj h1
    exact ⟨k', a', g1, by simpa [fwd] using g2.symm, g3⟩
  have hO : ∀ c, Own (renL L) ι0 c ↔ Own L ι c := by
    intro c
    constructor
    · rintro ⟨k, a, h1, h2⟩
      obtain ⟨k', a', g1, rfl, g3⟩ := hlk k a h1
      exact ⟨k', a', g1, by rw [← h2]; show blk (ι k') = blk (ι (uk (rk k'))); rw [uk_rk]⟩
    · rintro ⟨k, a, h1, h2⟩
      exact ⟨rk k, _, look_mapO' fwd_inj (f := fwd) rfl h1, by show blk (ι (uk (rk k))) = some c; rw [uk_rk]; exact h2⟩
  have hfwI : ∀ k k', fwdI i k = some k' → ι0 k' = ι k := by
    intro k k' e
    show ι (uk k') = ι k
    rw [fwdI_uk e]
  have hlkI : ∀ k a, Zar (renI i L) k = some a → ∃ k' a', Zar L k' = some a' ∧ fwdI i k' = some k ∧ a = a'.ren (fwdI i) := by
    intro k a h1
    obtain ⟨k', a', g1, g2, g3⟩ := look_mapO (fwdI_inj i) h1
    exact ⟨k', a', g1, g2, g3⟩
  have hOI : ∀ c, Own (renI i L) ι0 c ↔ Own L ι c := by
    intro c
    constructor
    · rintro ⟨k, a, h1, h2⟩
      obtain ⟨k', a', g1, g2, g3⟩ := hlkI k a h1
      exact ⟨k', a', g1, by rw [← hfwI _ _ g2]; exact h2⟩
    · rintro ⟨k, a, h1, h2⟩
      obtain ⟨q, e1, e2⟩ := fwdI_ex i k
      exact ⟨q, _, look_mapO' (fwdI_inj i) e1 h1, by rw [hfwI _ _ e1]; exact h2⟩
  let B : Base := { w0 := w, X := X, L0 := renL L, i0 := ι0 }
  have hkU : Keeps w w (fun c => Own L ι c ∨ X c) (fun c => Own (renI i L) ι0 c ∨ X c) := fun c _ hu => ⟨rfl, fun h => hu (h.imp (hOI c).1 id)⟩
  have hsim : Sim w X (renI i L) ι0 := by
    constructor
    · intro k a h1
      obtain ⟨k', a', g1, g2, rfl⟩ := hlkI k a h1
      exact ((hs.obj k' a' g1).keeps hkU).ren hfwI (hfwI k' k g2)
    · intro k k' a a' c h1 h2 h3 h4
      obtain ⟨k1, a1, g1, p1, _⟩ := hlkI k a h1
      obtain ⟨k2, a2, g2, p2, _⟩ := hlkI k' a' h2
      have e1 : blk (ι k1) = some c := by rw [← hfwI _ _ p1]; exact h3
      have e2 : blk (ι k2) = some c := by rw [← hfwI _ _ p2]; exact h4
      have := hs.inj k1 k2 a1 a2 c g1 g2 e1 e2
      subst this
      rw [p1] at p2
      cases p2
      rfl
  have hst : St E B w (renI i L) ι0 := ⟨Grow.refl _ _, hsim, fun c hc => .inl ((hO c).2 ((hOI c).1 hc)), fun c hc => (hX c hc).1, fun k _ _ => rfl, hE, fun c hc => ⟨(hEb c hc).1, fun ho => (hEb c hc).2 ((hO c).1 ho)⟩, (fun j => by
    show Zar (renL L) (.l j) = none
    cases hq : Zar (renL L) (.l j) with
    | none => rfl
    | some q =>
      obtain ⟨k', a', g1, g2, g3⟩ := hlk _ _ hq
      cases k' <;> simp [rk] at g2), fun c hc ho => (hX c hc).2 ((hO c).1 ho)⟩
  have hl : ∀ (xs : List AV) (ys : List Value), ARepL w (fun c => Own L ι c ∨ X c) ι xs ys → ys.length = xs.length ∧ ∀ (j : Nat) (x : AV), xs[j]? = some x → ∃ v, ys[j]? = some v ∧ ARep w (fun c => Own L ι c ∨ X c) ι x v := by
    intro xs
    induction xs with
    | nil => intro ys h; simp only [ARepL] at h; subst h; simp
    | cons x xs ih =>
      intro ys h
      simp only [ARepL] at h
      obtain ⟨v, r, rfl, h1, h2⟩ := h
      obtain ⟨g1, g2⟩ := ih r h2
      refine ⟨by simp [g1], fun j y hy => ?_⟩
      cases j with
      | zero => simp at hy; subst hy; exact ⟨v, rfl, h1⟩
      | succ j => simp at hy; simpa using g2 j y hy
  obtain ⟨hlen, hget⟩ := hl _ _ hA
  have hfr : StF E B w (renI i L) ι0 (args.map (·.ren (fwdI i)) ++ List.replicate (n - args.length) .any) { tmps := vs.toArray ++ Array.replicate (fn.ntmps - vs.toArray.size) undef, defers := [] } := by
    refine ⟨hst, ⟨by simp [hlen, hn], fun j x hx => ?_⟩, rfl⟩
    rw [List.getElem?_append] at hx
    split at hx
    · rename_i hi
      rw [List.getElem?_map, Option.map_eq_some_iff] at hx
      obtain ⟨y, hy, rfl⟩ := hx
      obtain ⟨v, hv, hrep⟩ := hget j y hy
      refine ⟨v, ?_, (hrep.mono hkU).ren hfwI⟩
      simp only [List.length_map] at hi
      rw [Array.getElem?_append_left (by simp; omega)]
      simpa using hv
    · rename_i hi
      rw [List.getElem?_replicate] at hx
      split at hx
      · rename_i hlt
        cases hx
        simp only [List.length_map] at hi hlt
        refine ⟨undef, ?_, trivial⟩
        rw [Array.getElem?_append_right (by simp; omega)]
        simp only [List.size_toArray]
        rw [Array.getElem?_replicate, if_pos (by rw [hlen]; omega)]
      · cases hx
  refine wp_mono (awp_sound (drawOk hm) ic c _ _ _ hchk h B w _ _ hfr) ?_
  rintro e a' w' ⟨fr', L', ι', q, hs'⟩
  have fin : (∃ l, Zaw fr' L' rs = some l ∧ Zbd (mkRes l) = true ∧ ∃ d, K (.p (mkRes l)) (backL (renL L) L' i d)) → a'.defers = [] ∧ ∃ v, (results fn a'.tmps).run P w' = .ok v w' ∧ ∃ v_1 r L'' ι'', Ending.returned v = .returned v_1 ∧ K r L'' ∧ ARep w' (fun b => Own L'' ι'' b ∨ X b) ι'' r v_1 ∧ Back E w X L ι w' L'' ι'' i := by
    rintro ⟨l, h1, hfl, d, h2⟩
    obtain ⟨v, hv, hrv⟩ := results_ok hs' hr h1
    let ι2 : Key → Value := fun k => if d.isSome = true ∧ k = .l i then ι' (.l (d.getD 0)) else ι k
    have hbw : ∀ k k', bwd (renL L) L' i d k = some k' → ι2 k' = ι' k := by
      intro k k' e
      cases k with
      | b m =>
        simp only [bwd] at e
        split at e
        · rename_i c1
          cases e
          show (if d.isSome = true ∧ uk (.b m) = .l i then ι' (.l (d.getD 0)) else ι (uk (.b m))) = ι' (.b m)
          rw [if_neg c1.2.2]
          exact (hs'.1.keep (.b m) c1.1 c1.2.1).symm
        · cases e
      | l j =>
        simp only [bwd] at e
        split at e
        · rename_i hd
          cases e
          show (if d.isSome = true ∧ Key.l i = .l i then ι' (.l (d.getD 0)) else ι (.l i)) = ι' (.l j)
          rw [if_pos ⟨by rw [hd]; rfl, rfl⟩, hd]
          rfl
        · cases e
    have hlk2 : ∀ k a, Zar (backL (renL L) L' i d) k = some a → ∃ k' a', Zar L' k' = some a' ∧ bwd (renL L) L' i d k' = some k ∧ a = a'.ren (bwd (renL L) L' i d) := fun k a h => look_mapO bwd_inj h
    have hO2 : ∀ c, Own (backL (renL L) L' i d) ι2 c → Own L' ι' c := by
      rintro c ⟨k, a, g1, g2⟩
      obtain ⟨k', a', g3, g4, _⟩ := hlk2 k a g1
      exact ⟨k', a', g3, by rw [← hbw k' k g4]; exact g2⟩
    have hk2 : Keeps w' w' (fun c => Own L' ι' c ∨ X c) (fun c => Own (backL (renL L) L' i d) ι2 c ∨ X c) := fun c _ hu => ⟨rfl, fun h => hu (h.imp (hO2 c) id)⟩
    refine ⟨hs'.2.2, v, hv, v, .p (mkRes l), _, ι2, rfl, h2, ?_, ⟨⟨?_, ?_⟩, ?_, ?_, ?_, ?_⟩⟩
    · exact PRep.flat hfl hrv
    · intro k a g1
      obtain ⟨k', a', g3, g4, rfl⟩ := hlk2 k a g1
      exact ((hs'.1.sim.obj k' a' g3).keeps hk2).ren hbw (hbw k' k g4)
    · intro k k' a a' c g1 g2 g3 g4
      obtain ⟨k1, a1, p1, p2, _⟩ := hlk2 k a g1
      obtain ⟨k2, a2, q1, q2, _⟩ := hlk2 k' a' g2
      have e1 : blk (ι' k1) = some c := by rw [← hbw k1 k p2]; exact g3
      have e2 : blk (ι' k2) = some c := by rw [← hbw k2 k' q2]; exact g4
      have := hs'.1.sim.inj k1 k2 a1 a2 c p1 q1 e1 e2
      subst this
      rw [p2] at q2
      cases q2
      rfl
    · have hg := hs'.1.grow
      exact ⟨hg.os, hg.tape, hg.output, hg.size, fun c hc hn => hg.block c hc (fun ho => hn ((hO c).1 ho))⟩
    · intro c hc
      rcases hs'.1.own c (hO2 c hc) with h' | h'
      · exact .inl ((hO c).1 h')
      · exact .inr h'
    · intro k hk
      show (if d.isSome = true ∧ k = .l i then ι' (.l (d.getD 0)) else ι k) = ι k
      rw [if_neg (fun h => hk h.2)]
    · intro k hk
      obtain ⟨a, ha⟩ := Option.isSome_iff_exists.1 hk
      obtain ⟨k', a', g3, g4, _⟩ := hlk2 k a ha
      cases k' with
      | b m =>
        simp only [bwd] at g4
        split at g4
        · rename_i c1
          cases g4
          obtain ⟨a0, ha0⟩ := Option.isSome_iff_exists.1 c1.1
          obtain ⟨k0, a1, p1, p2, _⟩ := hlk _ _ ha0
          left
          rw [p2, uk_rk, p1]
          rfl
        · cases g4
      | l j =>
        simp only [bwd] at g4
        split at g4
        · cases g4; exact .inr rfl
        · cases g4
  cases e with
  | normal => exact fin (by obtain ⟨l, e1, e2⟩ := RetK_ex (φ := fun x L' => Zbd x = true ∧ ∃ d, K (.p x) (backL (renL L) L' i d)) (L := L') q; exact ⟨l, e1, e2⟩)
  | ret => exact fin (by obtain ⟨l, e1, e2⟩ := RetK_ex (φ := fun x L' => Zbd x = true ∧ ∃ d, K (.p x) (backL (renL L) L' i d)) (L := L') q; exact ⟨l, e1, e2⟩)
  | exit id => exact q.elim
  | goto l => exact q.elim
  | panic ch => exact q.elim
  | outgrown => exact q.elim

variable {L : Objs} {fr : List AV} {d : Option Nat} {is : List IOper} {Y : List PV} {K : List AV → Objs → Prop}
/-- At a call: walk the callee in place; i: the key that may be laid anew. -/
theorem useI (hm : P.follows .mixedOrders = true) (i : Nat) {f : FuncId} {fn : Func} {ic : IC} {rs : List IRes} {n : Nat} {as : List AV} (hf : P.funcs[f]? = some fn) (hc : chkF P fn ic rs n = true)
    (h : awp P E ic (as.map (·.ren (fwdI i)) ++ List.replicate (n - as.length) .any) (renI i L) (retQ rs fun x L' => Zbd x = true ∧ ∃ j, awpOps P E Y is (Zf (fr.map (·.kill (.l i))) d (.p x)) (backL (renL L) L' i j) K)) : CallOp P E f as L d fr (contO P E Y is K) :=
  .inr (.inr ⟨i, inl_call hm hf hc h⟩)
end
end Go.Proofs.YtndjmidmfmcbkaaGreatDoor
