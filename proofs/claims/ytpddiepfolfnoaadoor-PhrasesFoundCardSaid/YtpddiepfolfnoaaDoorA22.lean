/- Rules for reckoning with awp, and contracts used at calls. -/
import Derived.Test.YtpddiepfolfnoaaDoorA21
namespace Go.Proofs.YtpddiepfolfnoaaDoor
set_option linter.unusedVariables false
set_option linter.unusedSimpArgs false
set_option linter.defProp false

def chkF (P : Program) (fn : Func) (ic : IC) (rs : List IRes) (n : Nat) : Bool :=
  match fn.body with
  | some c => chkC P okDraw ic c && okResL P fn.results.toList rs && fn.ntmps == n
  | none => false

section
variable {P : Program} {E : Envt}

theorem pcallF (hm : P.follows .mixedOrders = true) {f : FuncId} {fn : Func} {ic : IC} {rs : List IRes} {args : List PV} {n : Nat} {φ : PV → Prop} (hf : P.funcs[f]? = some fn) (hc : chkF P fn ic rs n = true)
    (h : awp P E ic (args.map .p ++ List.replicate (n - args.length) .any) [] (retQ rs fun x _ => φ x)) : PCall P E f args φ := by
  unfold chkF at hc
  split at hc
  · rename_i c hb
    simp only [Bool.and_eq_true, beq_iff_eq] at hc
    exact pcall_of_awp (drawOk hm) hf hb hc.2 hc.1.1 hc.1.2 h
  · cases hc

def thenC (P : Program) (E : Envt) (y : IC) (Q : AQ) : AQ := thenQ (fun fr L => awp P E y fr L Q) Q
def BrC (P : Program) (E : Envt) (b : Bool) (x y : IC) (fr : List AV) (L : Objs) (Q : AQ) : Prop := BrQ b (awp P E x fr L Q) (awp P E y fr L Q)
def LoopC (P : Program) (E : Envt) (x : IC) (fr : List AV) (L : Objs) (Q : AQ) : Prop := awp P E (.loop x) fr L Q
def DrgC (P : Program) (E : Envt) (ops : List IOper) (fr : List AV) (L : Objs) (K : List AV → Objs → Prop) : Prop := ∃ X, awpOps P E X ops fr L K
def contO (P : Program) (E : Envt) (X : List PV) (is : List IOper) (K : List AV → Objs → Prop) : List AV → Objs → Prop := fun fr L => awpOps P E X is fr L K
def EndR (I : Nat → List AV → Objs → Prop) (n : Nat) (fr : List AV) (L : Objs) : Prop := ∃ m fr' L', m < n ∧ Za fr fr' ∧ Zc L' L ∧ I m fr' L'
def roundQ (I : Nat → List AV → Objs → Prop) (n : Nat) (Q : AQ) : AQ := thenQ (EndR I n) Q
def CutC (P : Program) (E : Envt) (x : IC) (fr : List AV) (L : Objs) (Q : AQ) : Prop := ∃ fr' L', Za fr fr' ∧ Zc L' L ∧ awp P E x fr' L' Q
def MidK (M : List AV → Objs → Prop) (fr : List AV) (L : Objs) : Prop := ∃ fr' L', Za fr fr' ∧ Zc L' L ∧ M fr' L'
def midQ (M : List AV → Objs → Prop) (Q : AQ) : AQ := thenQ (MidK M) Q

variable {fr : List AV} {L : Objs} {Q : AQ} {X : List PV} {K : List AV → Objs → Prop}
theorem awp_skip : awp P E .skip fr L Q = Q .normal fr L := rfl
theorem awp_exit {i : Nat} : awp P E (.exit i) fr L Q = Q (.exit i) fr L := rfl
theorem awp_ret : awp P E .ret fr L Q = Q .ret fr L := rfl
theorem awp_seq {x y : IC} : awp P E (.seq x y) fr L Q = awp P E x fr L (thenC P E y Q) := rfl
theorem awp_block {i : Nat} {x : IC} : awp P E (.block i x) fr L Q = awp P E x fr L (blockQ i Q) := rfl
theorem awp_reg {ops : List IOper} : awp P E (.reg ops) fr L Q = awpOps P E [] ops fr L (Q .normal) := rfl
theorem awp_drg {ops : List IOper} : awp P E (.drg ops) fr L Q = DrgC P E ops fr L (Q .normal) := rfl
theorem awp_loop {x : IC} : awp P E (.loop x) fr L Q = LoopC P E x fr L Q := rfl
theorem awp_cond {c : Opd} {x y : IC} : awp P E (.cond c x y) fr L Q = (match rd fr c with | .p (.bool b) => BrC P E b x y fr L Q | _ => False) := rfl
theorem thenC_n {y : IC} : thenC P E y Q .normal fr L = awp P E y fr L Q := rfl
theorem thenC_r {y : IC} : thenC P E y Q .ret fr L = Q .ret fr L := rfl
theorem thenC_e {y : IC} {i : Nat} : thenC P E y Q (.exit i) fr L = Q (.exit i) fr L := rfl
theorem blockQ_n {i : Nat} : blockQ i Q .normal fr L = Q .normal fr L := rfl
theorem blockQ_r {i : Nat} : blockQ i Q .ret fr L = Q .ret fr L := rfl
theorem blockQ_e {i j : Nat} : blockQ i Q (.exit j) fr L = if j = i then Q .normal fr L else Q (.exit j) fr L := rfl
theorem roundQ_n {I : Nat → List AV → Objs → Prop} {n : Nat} : roundQ I n Q .normal fr L = EndR I n fr L := rfl
theorem awp_cut {x : IC} : awp P E (.cut x) fr L Q = CutC P E x fr L Q := rfl
theorem midQ_n {M : List AV → Objs → Prop} : midQ M Q .normal fr L = MidK M fr L := rfl
theorem midQ_r {M : List AV → Objs → Prop} : midQ M Q .ret fr L = Q .ret fr L := rfl
theorem midQ_e {M : List AV → Objs → Prop} {i : Nat} : midQ M Q (.exit i) fr L = Q (.exit i) fr L := rfl
theorem roundQ_r {I : Nat → List AV → Objs → Prop} {n : Nat} : roundQ I n Q .ret fr L = Q .ret fr L := rfl
theorem roundQ_e {I : Nat → List AV → Objs → Prop} {n i : Nat} : roundQ I n Q (.exit i) fr L = Q (.exit i) fr L := rfl
theorem retQ_r {rs : List IRes} {φ : PV → Objs → Prop} : retQ rs φ .ret fr L = RetK (Zam fr L rs) φ L := rfl
theorem retQ_n {rs : List IRes} {φ : PV → Objs → Prop} : retQ rs φ .normal fr L = RetK (Zam fr L rs) φ L := rfl
theorem BrC_true {x y : IC} : BrC P E true x y fr L Q = awp P E x fr L Q := by simp [BrC, BrQ]
theorem BrC_false {x y : IC} : BrC P E false x y fr L Q = awp P E y fr L Q := by simp [BrC, BrQ]
theorem br {b : Bool} {x y : IC} (h1 : b = true → awp P E x fr L Q) (h2 : b = false → awp P E y fr L Q) : BrC P E b x y fr L Q := ⟨h1, h2⟩
theorem loop_intro {x : IC} (I : Nat → List AV → Objs → Prop) (n : Nat) (fr' : List AV) (L' : Objs) (h1 : Za fr fr') (h2 : Zc L' L) (h0 : I n fr' L') (hr : ∀ n fr L, I n fr L → awp P E x fr L (roundQ I n Q)) : LoopC P E x fr L Q := ⟨I, ⟨n, fr', L', h1, h2, h0⟩, hr⟩
theorem end_round {I : Nat → List AV → Objs → Prop} {n : Nat} (m : Nat) (fr' : List AV) (L' : Objs) (hm : m < n) (h1 : Za fr fr') (h2 : Zc L' L) (h0 : I m fr' L') : EndR I n fr L := ⟨m, fr', L', hm, h1, h2, h0⟩
theorem to_mid {M : List AV → Objs → Prop} (fr' : List AV) (L' : Objs) (h1 : Za fr fr') (h2 : Zc L' L) (h0 : M fr' L') : MidK M fr L := ⟨fr', L', h1, h2, h0⟩
theorem Le_refl : ∀ fr : List AV, Za fr fr
  | [] => trivial
  | a :: as => ⟨by unfold Zb; split <;> trivial, Le_refl as⟩
theorem cut_to {x : IC} (fr' : List AV) (L' : Objs) (h1 : Za fr fr') (h2 : Zc L' L) (h : awp P E x fr' L' Q) : CutC P E x fr L Q := ⟨fr', L', h1, h2, h⟩

theorem map_kill_p (k : Key) (cs : List PV) : (cs.map AV.p).map (fun x => AV.kill k x) = cs.map AV.p := by
  rw [List.map_map]; exact List.map_congr_left fun x _ => rfl
theorem map_thaw_p (k : Key) (z : Nat) (es : List (List PV)) (cs : List PV) : (cs.map AV.p).map (fun x => AV.thaw k z es x) = cs.map AV.p := by
  rw [List.map_map]; exact List.map_congr_left fun x _ => rfl
theorem cut_by {x : IC} {fr' : List AV} {L' : Objs} (h : awp P E x fr' L' Q) (h1 : Za fr fr') (h2 : Zc L' L) : CutC P E x fr L Q := ⟨fr', L', h1, h2, h⟩
theorem cut_same {x : IC} (h2 : Zc L L) (h : awp P E x fr L Q) : CutC P E x fr L Q := ⟨fr, L, Le_refl fr, h2, h⟩

theorem awpOps_mono {K' : List AV → Objs → Prop} (hk : ∀ fr L, K fr L → K' fr L) : ∀ (is : List IOper) (fr : List AV) (L : Objs), awpOps P E X is fr L K → awpOps P E X is fr L K' := by
  intro is
  induction is with
  | nil => intro fr L h; exact hk fr L h
  | cons i is ih =>
    obtain ⟨d, op, gd⟩ := i
    intro fr L h
    have hcall : ∀ f as d fr, CallOp P E f as L d fr (fun fr L => awpOps P E X is fr L K) → CallOp P E f as L d fr (fun fr L => awpOps P E X is fr L K') := by
      intro f as d fr h
      rcases h with ⟨φ, h1, h2⟩ | ⟨bk, post, h1, h2, h3, h4⟩ | h
      · exact .inl ⟨φ, h1, fun x hx => ih _ _ (h2 x hx)⟩
      · refine .inr (.inl ⟨bk, post, h1, h2, h3, fun r os' hp => ?_⟩)
        have := h4 r os' hp
        cases r with
        | p x => exact ih _ _ this
        | fr es e z => cases d with
          | none => exact ih _ _ this
          | some d => exact ih _ _ this
      · refine .inr (.inr fun w X' ι vs a1 a2 a3 a4 a5 => (h w X' ι vs a1 a2 a3 a4 a5).mono ?_)
        rintro e w' ⟨v, r, L', ι', b1, b2, b3⟩
        exact ⟨v, r, L', ι', b1, ih _ _ b2, b3⟩
    cases gd with
    | none =>
      cases op with
      | call f args => exact ⟨h.1, hcall _ _ _ _ h.2⟩
      | pcall n f args => exact ⟨h.1, ih _ _ h.2⟩
      | dcall b f args =>
        obtain ⟨h0, k, t, cs, post, h1, h2, h3, h4, h5, h6⟩ := h
        exact ⟨h0, k, t, cs, post, h1, h2, h3, h4, h5, fun x cs' hp => ih _ _ (h6 x cs' hp)⟩
      | callv g args =>
        simp only [awpOps] at h ⊢
        split at h
        · exact ⟨h.1, h.2.1, h.2.2.1, h.2.2.2.1, hcall _ _ _ _ h.2.2.2.2⟩
        · exact h.elim
      | fz x =>
        simp only [awpOps] at h ⊢
        split at h
        · exact ih _ _ h
        · exact ih _ _ h
      | _ =>
        simp only [awpOps] at h ⊢
        split at h
        · exact ⟨h.1, ih _ _ h.2⟩
        · exact h.elim
    | some q =>
      obtain ⟨s, want⟩ := q
      simp only [awpOps] at h ⊢
      split at h
      · cases op with
        | call f args =>
          simp only at h ⊢
          rcases h with ⟨h1, ⟨x, h2, h3⟩ | ⟨h2, h3⟩⟩
          · exact ⟨h1, .inl ⟨x, h2, ih _ _ h3⟩⟩
          · exact ⟨h1, .inr ⟨fun e => hcall _ _ _ _ (h2 e), fun e => ih _ _ (h3 e)⟩⟩
        | pcall n f args => simp only at h ⊢; exact ⟨h.1, ih _ _ h.2⟩
        | _ =>
          simp only at h ⊢
          split at h
          · exact ⟨h.1, ih _ _ h.2⟩
          · exact ⟨h.1, h.2.1, ih _ _ h.2.2⟩
      · exact h.elim

theorem awp_mono : ∀ (x : IC) (fr : List AV) (L : Objs) (Q Q' : AQ), (∀ e fr L, Q e fr L → Q' e fr L) → awp P E x fr L Q → awp P E x fr L Q' := by
  intro x
  induction x with
  | skip => intro fr L Q Q' hq h; exact hq _ _ _ h
  | reg ops => intro fr L Q Q' hq h; exact awpOps_mono (hq .normal) ops fr L h
  | drg ops => intro fr L Q Q' hq h; obtain ⟨Y, h⟩ := h; exact ⟨Y, awpOps_mono (hq .normal) ops fr L h⟩
  | seq x y ihx ihy =>
    intro fr L Q Q' hq h
    refine ihx fr L _ _ (fun e fr L h => ?_) h
    cases e <;> first | exact ihy fr L Q Q' hq h | exact hq _ _ _ h
  | cond c x y ihx ihy =>
    intro fr L Q Q' hq h
    simp only [awp] at h ⊢
    split at h
    · exact ⟨fun e => ihx fr L Q Q' hq (h.1 e), fun e => ihy fr L Q Q' hq (h.2 e)⟩
    · exact h.elim
  | block i x ih =>
    intro fr L Q Q' hq h
    refine ih fr L _ _ (fun e fr L h => ?_) h
    cases e with
    | exit j =>
      simp only [blockQ] at h ⊢
      split at h
      · rename_i hj; rw [if_pos hj]; exact hq _ _ _ h
      · rename_i hj; rw [if_neg hj]; exact hq _ _ _ h
    | _ => exact hq _ _ _ h
  | loop x ih =>
    intro fr L Q Q' hq h
    obtain ⟨I, h0, hr⟩ := h
    refine ⟨I, h0, fun n fr L hi => ih fr L _ _ (fun e fr L h => ?_) (hr n fr L hi)⟩
    cases e with
    | normal => exact h
    | _ => exact hq _ _ _ h
  | exit i => intro fr L Q Q' hq h; exact hq _ _ _ h
  | ret => intro fr L Q Q' hq h; exact hq _ _ _ h
  | dead => intro fr L Q Q' hq h; exact h.elim
  | cut x ih => intro fr L Q Q' hq h; obtain ⟨fr', L', h1, h2, h⟩ := h; exact ⟨fr', L', h1, h2, ih fr' L' Q Q' hq h⟩

/-- Two ways that meet again. -/
theorem br_join {b : Bool} {x y r : IC} (M : List AV → Objs → Prop) (h1 : b = true → awp P E x fr L (midQ M Q)) (h2 : b = false → awp P E y fr L (midQ M Q)) (hM : ∀ fr L, M fr L → awp P E r fr L Q) : BrC P E b x y fr L (thenC P E (.cut r) Q) := by
  have hq : ∀ e fr L, midQ M Q e fr L → thenC P E (.cut r) Q e fr L := by
    intro e fr L h
    cases e with
    | normal => obtain ⟨fr', L', a1, a2, a3⟩ := h; exact ⟨fr', L', a1, a2, hM fr' L' a3⟩
    | _ => exact h
  exact ⟨fun e => awp_mono x fr L _ _ hq (h1 e), fun e => awp_mono y fr L _ _ hq (h2 e)⟩
theorem drg0 {ops : List IOper} (h : awpOps P E [] ops fr L K) : DrgC P E ops fr L K := ⟨_, h⟩
theorem drg1 {ops : List IOper} {x1 : PV} (h : awpOps P E [x1] ops fr L K) : DrgC P E ops fr L K := ⟨_, h⟩
theorem drg2 {ops : List IOper} {x1 x2 : PV} (h : awpOps P E [x1, x2] ops fr L K) : DrgC P E ops fr L K := ⟨_, h⟩
theorem drg3 {ops : List IOper} {x1 x2 x3 : PV} (h : awpOps P E [x1, x2, x3] ops fr L K) : DrgC P E ops fr L K := ⟨_, h⟩
theorem drg4 {ops : List IOper} {x1 x2 x3 x4 : PV} (h : awpOps P E [x1, x2, x3, x4] ops fr L K) : DrgC P E ops fr L K := ⟨_, h⟩
theorem drg5 {ops : List IOper} {x1 x2 x3 x4 x5 : PV} (h : awpOps P E [x1, x2, x3, x4, x5] ops fr L K) : DrgC P E ops fr L K := ⟨_, h⟩
theorem drg6 {ops : List IOper} {x1 x2 x3 x4 x5 x6 : PV} (h : awpOps P E [x1, x2, x3, x4, x5, x6] ops fr L K) : DrgC P E ops fr L K := ⟨_, h⟩

def isOp : IOp → Bool
  | .call .. | .pcall .. | .dcall .. | .callv .. | .fz .. => false
  | _ => true
def OpsK (P : Program) (E : Envt) (X : List PV) (q : Option (Prop × List AV × Objs)) (is : List IOper) (K : List AV → Objs → Prop) : Prop :=
  match q with
  | some (c, fr', L') => c ∧ awpOps P E X is fr' L' K
  | none => False
def GdK (P : Program) (E : Envt) (X : List PV) (pl : Bool) (g : Option Bool) (q : Option (Prop × AV)) (d : Option Nat) (is : List IOper) (fr : List AV) (L : Objs) (K : List AV → Objs → Prop) : Prop :=
  match g with
  | some c0 => match q with
    | some (c, r) => (c0 = true → c) ∧ awpOps P E X is (Zf fr d (.g c0 r)) L K
    | none => pl = true ∧ c0 = false ∧ awpOps P E X is (Zf fr d (.g c0 .any)) L K
  | none => False
theorem OpsK_some {c : Prop} {fr' : List AV} {L' : Objs} {is : List IOper} : OpsK P E X (some (c, fr', L')) is K = (c ∧ awpOps P E X is fr' L' K) := rfl
theorem GdK_none {c0 : Bool} {d : Option Nat} {is : List IOper} : GdK P E X true (some c0) none d is fr L K = (c0 = false ∧ awpOps P E X is (Zf fr d (.g c0 .any)) L K) := by simp [GdK]
theorem GdK_some {pl c0 : Bool} {c : Prop} {r : AV} {d : Option Nat} {is : List IOper} : GdK P E X pl (some c0) (some (c, r)) d is fr L K = ((c0 = true → c) ∧ awpOps P E X is (Zf fr d (.g c0 r)) L K) := rfl
theorem ops_nil : awpOps P E X [] fr L K = K fr L := rfl
theorem ops_op {d : Option Nat} {op : IOp} {is : List IOper} (h : isOp op = true) : awpOps P E X (⟨d, op, none⟩ :: is) fr L K = OpsK P E X (Zd d fr L op) is K := by
  cases op <;> first | rfl | (simp [isOp] at h)
theorem ops_gd {d : Option Nat} {op : IOp} {is : List IOper} {s : Nat} {want : Bool} (h : isOp op = true) : awpOps P E X (⟨d, op, some (s, want)⟩ :: is) fr L K = GdK P E X (plainOp op) (Zg fr s want) (Ze fr L op) d is fr L K := by
  cases op <;> first | rfl | (simp [isOp] at h)
def StepK (P : Program) (E : Envt) (X : List PV) (q : Option (Prop × AV)) (d : Option Nat) (is : List IOper) (fr : List AV) (L : Objs) (K : List AV → Objs → Prop) : Prop :=
  match q with
  | some (c, r) => c ∧ awpOps P E X is (Zf fr d r) L K
  | none => False
theorem StepK_some {c : Prop} {r : AV} {d : Option Nat} {is : List IOper} : StepK P E X (some (c, r)) d is fr L K = (c ∧ awpOps P E X is (Zf fr d r) L K) := rfl
theorem StepK_eq {op : IOp} {d : Option Nat} {is : List IOper} (h : Zd d fr L op = (Ze fr L op).map (fun q => (q.1, Zf fr d q.2, L))) : OpsK P E X (Zd d fr L op) is K = StepK P E X (Ze fr L op) d is fr L K := by
  rw [h]
  cases Ze fr L op <;> rfl
theorem o_mov {d : Option Nat} {is : List IOper} {_x} : awpOps P E X (⟨d, .mov _x, none⟩ :: is) fr L K = StepK P E X (Ze fr L (.mov _x)) d is fr L K := by rw [ops_op rfl]; exact StepK_eq rfl
theorem g_mov {d : Option Nat} {is : List IOper} {s : Nat} {want : Bool} {_x} : awpOps P E X (⟨d, .mov _x, some (s, want)⟩ :: is) fr L K = GdK P E X true (Zg fr s want) (Ze fr L (.mov _x)) d is fr L K := ops_gd rfl
theorem o_pick {d : Option Nat} {is : List IOper} {_c} {_a} {_b} : awpOps P E X (⟨d, .pick _c _a _b, none⟩ :: is) fr L K = StepK P E X (Ze fr L (.pick _c _a _b)) d is fr L K := by rw [ops_op rfl]; exact StepK_eq rfl
theorem g_pick {d : Option Nat} {is : List IOper} {s : Nat} {want : Bool} {_c} {_a} {_b} : awpOps P E X (⟨d, .pick _c _a _b, some (s, want)⟩ :: is) fr L K = GdK P E X true (Zg fr s want) (Ze fr L (.pick _c _a _b)) d is fr L K := ops_gd rfl
theorem o_bin {d : Option Nat} {is : List IOper} {_b} {_x} {_y} : awpOps P E X (⟨d, .bin _b _x _y, none⟩ :: is) fr L K = StepK P E X (Ze fr L (.bin _b _x _y)) d is fr L K := by rw [ops_op rfl]; exact StepK_eq rfl
theorem g_bin {d : Option Nat} {is : List IOper} {s : Nat} {want : Bool} {_b} {_x} {_y} : awpOps P E X (⟨d, .bin _b _x _y, some (s, want)⟩ :: is) fr L K = GdK P E X true (Zg fr s want) (Ze fr L (.bin _b _x _y)) d is fr L K := ops_gd rfl
theorem o_bnb {d : Option Nat} {is : List IOper} {_b} {_x} {_y} : awpOps P E X (⟨d, .bnb _b _x _y, none⟩ :: is) fr L K = StepK P E X (Ze fr L (.bnb _b _x _y)) d is fr L K := by rw [ops_op rfl]; exact StepK_eq rfl
theorem g_bnb {d : Option Nat} {is : List IOper} {s : Nat} {want : Bool} {_b} {_x} {_y} : awpOps P E X (⟨d, .bnb _b _x _y, some (s, want)⟩ :: is) fr L K = GdK P E X true (Zg fr s want) (Ze fr L (.bnb _b _x _y)) d is fr L K := ops_gd rfl
theorem o_eqa {d : Option Nat} {is : List IOper} {_n} {_k} {_x} {_y} : awpOps P E X (⟨d, .eqa _n _k _x _y, none⟩ :: is) fr L K = StepK P E X (Ze fr L (.eqa _n _k _x _y)) d is fr L K := by rw [ops_op rfl]; exact StepK_eq rfl
theorem g_eqa {d : Option Nat} {is : List IOper} {s : Nat} {want : Bool} {_n} {_k} {_x} {_y} : awpOps P E X (⟨d, .eqa _n _k _x _y, some (s, want)⟩ :: is) fr L K = GdK P E X true (Zg fr s want) (Ze fr L (.eqa _n _k _x _y)) d is fr L K := ops_gd rfl
theorem o_not {d : Option Nat} {is : List IOper} {_x} : awpOps P E X (⟨d, .not _x, none⟩ :: is) fr L K = StepK P E X (Ze fr L (.not _x)) d is fr L K := by rw [ops_op rfl]; exact StepK_eq rfl
theorem g_not {d : Option Nat} {is : List IOper} {s : Nat} {want : Bool} {_x} : awpOps P E X (⟨d, .not _x, some (s, want)⟩ :: is) fr L K = GdK P E X true (Zg fr s want) (Ze fr L (.not _x)) d is fr L K := ops_gd rfl
theorem o_neg {d : Option Nat} {is : List IOper} {_x} : awpOps P E X (⟨d, .neg _x, none⟩ :: is) fr L K = StepK P E X (Ze fr L (.neg _x)) d is fr L K := by rw [ops_op rfl]; exact StepK_eq rfl
theorem g_neg {d : Option Nat} {is : List IOper} {s : Nat} {want : Bool} {_x} : awpOps P E X (⟨d, .neg _x, some (s, want)⟩ :: is) fr L K = GdK P E X true (Zg fr s want) (Ze fr L (.neg _x)) d is fr L K := ops_gd rfl
theorem o_len {d : Option Nat} {is : List IOper} {_x} : awpOps P E X (⟨d, .len _x, none⟩ :: is) fr L K = StepK P E X (Ze fr L (.len _x)) d is fr L K := by rw [ops_op rfl]; exact StepK_eq rfl
theorem g_len {d : Option Nat} {is : List IOper} {s : Nat} {want : Bool} {_x} : awpOps P E X (⟨d, .len _x, some (s, want)⟩ :: is) fr L K = GdK P E X true (Zg fr s want) (Ze fr L (.len _x)) d is fr L K := ops_gd rfl
theorem o_sln {d : Option Nat} {is : List IOper} {_x} : awpOps P E X (⟨d, .sln _x, none⟩ :: is) fr L K = StepK P E X (Ze fr L (.sln _x)) d is fr L K := by rw [ops_op rfl]; exact StepK_eq rfl
theorem g_sln {d : Option Nat} {is : List IOper} {s : Nat} {want : Bool} {_x} : awpOps P E X (⟨d, .sln _x, some (s, want)⟩ :: is) fr L K = GdK P E X true (Zg fr s want) (Ze fr L (.sln _x)) d is fr L K := ops_gd rfl
theorem o_mx {d : Option Nat} {is : List IOper} {_x} {_y} : awpOps P E X (⟨d, .mx _x _y, none⟩ :: is) fr L K = StepK P E X (Ze fr L (.mx _x _y)) d is fr L K := by rw [ops_op rfl]; exact StepK_eq rfl
theorem g_mx {d : Option Nat} {is : List IOper} {s : Nat} {want : Bool} {_x} {_y} : awpOps P E X (⟨d, .mx _x _y, some (s, want)⟩ :: is) fr L K = GdK P E X true (Zg fr s want) (Ze fr L (.mx _x _y)) d is fr L K := ops_gd rfl
theorem o_mn {d : Option Nat} {is : List IOper} {_x} {_y} : awpOps P E X (⟨d, .mn _x _y, none⟩ :: is) fr L K = StepK P E X (Ze fr L (.mn _x _y)) d is fr L K := by rw [ops_op rfl]; exact StepK_eq rfl
theorem g_mn {d : Option Nat} {is : List IOper} {s : Nat} {want : Bool} {_x} {_y} : awpOps P E X (⟨d, .mn _x _y, some (s, want)⟩ :: is) fr L K = GdK P E X true (Zg fr s want) (Ze fr L (.mn _x _y)) d is fr L K := ops_gd rfl
theorem o_idx {d : Option Nat} {is : List IOper} {_x} {_y} : awpOps P E X (⟨d, .idx _x _y, none⟩ :: is) fr L K = StepK P E X (Ze fr L (.idx _x _y)) d is fr L K := by rw [ops_op rfl]; exact StepK_eq rfl
theorem g_idx {d : Option Nat} {is : List IOper} {s : Nat} {want : Bool} {_x} {_y} : awpOps P E X (⟨d, .idx _x _y, some (s, want)⟩ :: is) fr L K = GdK P E X true (Zg fr s want) (Ze fr L (.idx _x _y)) d is fr L K := ops_gd rfl
theorem o_ssl {d : Option Nat} {is : List IOper} {_x} {_l} {_h} : awpOps P E X (⟨d, .ssl _x _l _h, none⟩ :: is) fr L K = StepK P E X (Ze fr L (.ssl _x _l _h)) d is fr L K := by rw [ops_op rfl]; exact StepK_eq rfl
theorem g_ssl {d : Option Nat} {is : List IOper} {s : Nat} {want : Bool} {_x} {_l} {_h} : awpOps P E X (⟨d, .ssl _x _l _h, some (s, want)⟩ :: is) fr L K = GdK P E X true (Zg fr s want) (Ze fr L (.ssl _x _l _h)) d is fr L K := ops_gd rfl
theorem o_vsl {d : Option Nat} {is : List IOper} {_z} {_x} {_l} {_h} : awpOps P E X (⟨d, .vsl _z _x _l _h, none⟩ :: is) fr L K = StepK P E X (Ze fr L (.vsl _z _x _l _h)) d is fr L K := by rw [ops_op rfl]; exact StepK_eq rfl
theorem g_vsl {d : Option Nat} {is : List IOper} {s : Nat} {want : Bool} {_z} {_x} {_l} {_h} : awpOps P E X (⟨d, .vsl _z _x _l _h, some (s, want)⟩ :: is) fr L K = GdK P E X true (Zg fr s want) (Ze fr L (.vsl _z _x _l _h)) d is fr L K := ops_gd rfl
theorem o_ixa {d : Option Nat} {is : List IOper} {_z} {_x} {_y} : awpOps P E X (⟨d, .ixa _z _x _y, none⟩ :: is) fr L K = StepK P E X (Ze fr L (.ixa _z _x _y)) d is fr L K := by rw [ops_op rfl]; exact StepK_eq rfl
theorem g_ixa {d : Option Nat} {is : List IOper} {s : Nat} {want : Bool} {_z} {_x} {_y} : awpOps P E X (⟨d, .ixa _z _x _y, some (s, want)⟩ :: is) fr L K = GdK P E X true (Zg fr s want) (Ze fr L (.ixa _z _x _y)) d is fr L K := ops_gd rfl
theorem o_fla {d : Option Nat} {is : List IOper} {_o} {_x} : awpOps P E X (⟨d, .fla _o _x, none⟩ :: is) fr L K = StepK P E X (Ze fr L (.fla _o _x)) d is fr L K := by rw [ops_op rfl]; exact StepK_eq rfl
theorem g_fla {d : Option Nat} {is : List IOper} {s : Nat} {want : Bool} {_o} {_x} : awpOps P E X (⟨d, .fla _o _x, some (s, want)⟩ :: is) fr L K = GdK P E X true (Zg fr s want) (Ze fr L (.fla _o _x)) d is fr L K := ops_gd rfl
theorem o_fld {d : Option Nat} {is : List IOper} {_o} {_s} {_a} {_x} : awpOps P E X (⟨d, .fld _o _s _a _x, none⟩ :: is) fr L K = StepK P E X (Ze fr L (.fld _o _s _a _x)) d is fr L K := by rw [ops_op rfl]; exact StepK_eq rfl
theorem g_fld {d : Option Nat} {is : List IOper} {s : Nat} {want : Bool} {_o} {_s} {_a} {_x} : awpOps P E X (⟨d, .fld _o _s _a _x, some (s, want)⟩ :: is) fr L K = GdK P E X true (Zg fr s want) (Ze fr L (.fld _o _s _a _x)) d is fr L K := ops_gd rfl
theorem o_ld {d : Option Nat} {is : List IOper} {_s} {_a} {_x} : awpOps P E X (⟨d, .ld _s _a _x, none⟩ :: is) fr L K = StepK P E X (Ze fr L (.ld _s _a _x)) d is fr L K := by rw [ops_op rfl]; exact StepK_eq rfl
theorem g_ld {d : Option Nat} {is : List IOper} {s : Nat} {want : Bool} {_s} {_a} {_x} : awpOps P E X (⟨d, .ld _s _a _x, some (s, want)⟩ :: is) fr L K = GdK P E X true (Zg fr s want) (Ze fr L (.ld _s _a _x)) d is fr L K := ops_gd rfl
theorem o_ldl {d : Option Nat} {is : List IOper} {_s} {_a} {_x} : awpOps P E X (⟨d, .ldl _s _a _x, none⟩ :: is) fr L K = StepK P E X (Ze fr L (.ldl _s _a _x)) d is fr L K := by rw [ops_op rfl]; exact StepK_eq rfl
theorem g_ldl {d : Option Nat} {is : List IOper} {s : Nat} {want : Bool} {_s} {_a} {_x} : awpOps P E X (⟨d, .ldl _s _a _x, some (s, want)⟩ :: is) fr L K = GdK P E X false (Zg fr s want) (Ze fr L (.ldl _s _a _x)) d is fr L K := ops_gd rfl
theorem o_ext {d : Option Nat} {is : List IOper} {_i} {_x} : awpOps P E X (⟨d, .ext _i _x, none⟩ :: is) fr L K = StepK P E X (Ze fr L (.ext _i _x)) d is fr L K := by rw [ops_op rfl]; exact StepK_eq rfl
theorem g_ext {d : Option Nat} {is : List IOper} {s : Nat} {want : Bool} {_i} {_x} : awpOps P E X (⟨d, .ext _i _x, some (s, want)⟩ :: is) fr L K = GdK P E X true (Zg fr s want) (Ze fr L (.ext _i _x)) d is fr L K := ops_gd rfl
theorem o_bld {d : Option Nat} {is : List IOper} {_z} {_p} : awpOps P E X (⟨d, .bld _z _p, none⟩ :: is) fr L K = StepK P E X (Ze fr L (.bld _z _p)) d is fr L K := by rw [ops_op rfl]; exact StepK_eq rfl
theorem g_bld {d : Option Nat} {is : List IOper} {s : Nat} {want : Bool} {_z} {_p} : awpOps P E X (⟨d, .bld _z _p, some (s, want)⟩ :: is) fr L K = GdK P E X true (Zg fr s want) (Ze fr L (.bld _z _p)) d is fr L K := ops_gd rfl
theorem o_cvi {d : Option Nat} {is : List IOper} {_k} {_x} : awpOps P E X (⟨d, .cvi _k _x, none⟩ :: is) fr L K = StepK P E X (Ze fr L (.cvi _k _x)) d is fr L K := by rw [ops_op rfl]; exact StepK_eq rfl
theorem g_cvi {d : Option Nat} {is : List IOper} {s : Nat} {want : Bool} {_k} {_x} : awpOps P E X (⟨d, .cvi _k _x, some (s, want)⟩ :: is) fr L K = GdK P E X true (Zg fr s want) (Ze fr L (.cvi _k _x)) d is fr L K := ops_gd rfl
theorem o_cvs {d : Option Nat} {is : List IOper} {_x} : awpOps P E X (⟨d, .cvs _x, none⟩ :: is) fr L K = StepK P E X (Ze fr L (.cvs _x)) d is fr L K := by rw [ops_op rfl]; exact StepK_eq rfl
theorem g_cvs {d : Option Nat} {is : List IOper} {s : Nat} {want : Bool} {_x} : awpOps P E X (⟨d, .cvs _x, some (s, want)⟩ :: is) fr L K = GdK P E X true (Zg fr s want) (Ze fr L (.cvs _x)) d is fr L K := ops_gd rfl
theorem o_b2s {d : Option Nat} {is : List IOper} {_x} : awpOps P E X (⟨d, .b2s _x, none⟩ :: is) fr L K = StepK P E X (Ze fr L (.b2s _x)) d is fr L K := by rw [ops_op rfl]; exact StepK_eq rfl
theorem g_b2s {d : Option Nat} {is : List IOper} {s : Nat} {want : Bool} {_x} : awpOps P E X (⟨d, .b2s _x, some (s, want)⟩ :: is) fr L K = GdK P E X true (Zg fr s want) (Ze fr L (.b2s _x)) d is fr L K := ops_gd rfl
theorem o_bsl {d : Option Nat} {is : List IOper} {_z} {_p} : awpOps P E X (⟨d, .bsl _z _p, none⟩ :: is) fr L K = StepK P E X (Ze fr L (.bsl _z _p)) d is fr L K := by rw [ops_op rfl]; exact StepK_eq rfl
theorem g_bsl {d : Option Nat} {is : List IOper} {s : Nat} {want : Bool} {_z} {_p} : awpOps P E X (⟨d, .bsl _z _p, some (s, want)⟩ :: is) fr L K = GdK P E X true (Zg fr s want) (Ze fr L (.bsl _z _p)) d is fr L K := ops_gd rfl
theorem o_nck {d : Option Nat} {is : List IOper} {_x} : awpOps P E X (⟨d, .nck _x, none⟩ :: is) fr L K = StepK P E X (Ze fr L (.nck _x)) d is fr L K := by rw [ops_op rfl]; exact StepK_eq rfl
theorem g_nck {d : Option Nat} {is : List IOper} {s : Nat} {want : Bool} {_x} : awpOps P E X (⟨d, .nck _x, some (s, want)⟩ :: is) fr L K = GdK P E X true (Zg fr s want) (Ze fr L (.nck _x)) d is fr L K := ops_gd rfl
theorem o_mkf {d : Option Nat} {is : List IOper} {_f} {_c} : awpOps P E X (⟨d, .mkf _f _c, none⟩ :: is) fr L K = StepK P E X (Ze fr L (.mkf _f _c)) d is fr L K := by rw [ops_op rfl]; exact StepK_eq rfl
theorem g_mkf {d : Option Nat} {is : List IOper} {s : Nat} {want : Bool} {_f} {_c} : awpOps P E X (⟨d, .mkf _f _c, some (s, want)⟩ :: is) fr L K = GdK P E X true (Zg fr s want) (Ze fr L (.mkf _f _c)) d is fr L K := ops_gd rfl
theorem o_cap0 {d : Option Nat} {is : List IOper} {_x} : awpOps P E X (⟨d, .cap0 _x, none⟩ :: is) fr L K = StepK P E X (Ze fr L (.cap0 _x)) d is fr L K := by rw [ops_op rfl]; exact StepK_eq rfl
theorem g_cap0 {d : Option Nat} {is : List IOper} {s : Nat} {want : Bool} {_x} : awpOps P E X (⟨d, .cap0 _x, some (s, want)⟩ :: is) fr L K = GdK P E X true (Zg fr s want) (Ze fr L (.cap0 _x)) d is fr L K := ops_gd rfl
theorem o_vsn {d : Option Nat} {is : List IOper} {_x} {_h} : awpOps P E X (⟨d, .vsn _x _h, none⟩ :: is) fr L K = StepK P E X (Ze fr L (.vsn _x _h)) d is fr L K := by rw [ops_op rfl]; exact StepK_eq rfl
theorem g_vsn {d : Option Nat} {is : List IOper} {s : Nat} {want : Bool} {_x} {_h} : awpOps P E X (⟨d, .vsn _x _h, some (s, want)⟩ :: is) fr L K = GdK P E X true (Zg fr s want) (Ze fr L (.vsn _x _h)) d is fr L K := ops_gd rfl
theorem o_mpl {d : Option Nat} {is : List IOper} {_o} {_z} {_x} {_h} : awpOps P E X (⟨d, .mpl _o _z _x _h, none⟩ :: is) fr L K = StepK P E X (Ze fr L (.mpl _o _z _x _h)) d is fr L K := by rw [ops_op rfl]; exact StepK_eq rfl
theorem g_mpl {d : Option Nat} {is : List IOper} {s : Nat} {want : Bool} {_o} {_z} {_x} {_h} : awpOps P E X (⟨d, .mpl _o _z _x _h, some (s, want)⟩ :: is) fr L K = GdK P E X true (Zg fr s want) (Ze fr L (.mpl _o _z _x _h)) d is fr L K := ops_gd rfl
theorem o_mpn {d : Option Nat} {is : List IOper} {_x} : awpOps P E X (⟨d, .mpn _x, none⟩ :: is) fr L K = StepK P E X (Ze fr L (.mpn _x)) d is fr L K := by rw [ops_op rfl]; exact StepK_eq rfl
theorem g_mpn {d : Option Nat} {is : List IOper} {s : Nat} {want : Bool} {_x} : awpOps P E X (⟨d, .mpn _x, some (s, want)⟩ :: is) fr L K = GdK P E X true (Zg fr s want) (Ze fr L (.mpn _x)) d is fr L K := ops_gd rfl
theorem o_mkm {d : Option Nat} {is : List IOper} {_t} {_z} : awpOps P E X (⟨d, .mkm _t _z, none⟩ :: is) fr L K = OpsK P E X (Zd d fr L (.mkm _t _z)) is K := ops_op rfl
theorem o_mpu {d : Option Nat} {is : List IOper} {_m} {_k} {_v} : awpOps P E X (⟨d, .mpu _m _k _v, none⟩ :: is) fr L K = OpsK P E X (Zd d fr L (.mpu _m _k _v)) is K := ops_op rfl
theorem o_apz {d : Option Nat} {is : List IOper} {_e} {_z} {_b} {_o} {_x} {_y} : awpOps P E X (⟨d, .apz _e _z _b _o _x _y, none⟩ :: is) fr L K = OpsK P E X (Zd d fr L (.apz _e _z _b _o _x _y)) is K := ops_op rfl
theorem o_trn {d : Option Nat} {is : List IOper} {_z} {_x} {_y} : awpOps P E X (⟨d, .trn _z _x _y, none⟩ :: is) fr L K = OpsK P E X (Zd d fr L (.trn _z _x _y)) is K := ops_op rfl
theorem o_mks {d : Option Nat} {is : List IOper} {_e} {_z} {_b} {_o} {_x} {_y} : awpOps P E X (⟨d, .mks _e _z _b _o _x _y, none⟩ :: is) fr L K = OpsK P E X (Zd d fr L (.mks _e _z _b _o _x _y)) is K := ops_op rfl
theorem o_nilr {d : Option Nat} {is : List IOper} {_e} {_z} : awpOps P E X (⟨d, .nilr _e _z, none⟩ :: is) fr L K = OpsK P E X (Zd d fr L (.nilr _e _z)) is K := ops_op rfl
theorem o_alc {d : Option Nat} {is : List IOper} {_t} {_z} : awpOps P E X (⟨d, .alc _t _z, none⟩ :: is) fr L K = OpsK P E X (Zd d fr L (.alc _t _z)) is K := ops_op rfl
theorem o_box {d : Option Nat} {is : List IOper} {_t} {_x} : awpOps P E X (⟨d, .box _t _x, none⟩ :: is) fr L K = OpsK P E X (Zd d fr L (.box _t _x)) is K := ops_op rfl
theorem o_st {d : Option Nat} {is : List IOper} {_s} {_p} {_x} : awpOps P E X (⟨d, .st _s _p _x, none⟩ :: is) fr L K = OpsK P E X (Zd d fr L (.st _s _p _x)) is K := ops_op rfl
theorem o_app {d : Option Nat} {is : List IOper} {_e} {_z} {_b} {_x} {_y} : awpOps P E X (⟨d, .app _e _z _b _x _y, none⟩ :: is) fr L K = OpsK P E X (Zd d fr L (.app _e _z _b _x _y)) is K := ops_op rfl
theorem o_bsr {d : Option Nat} {is : List IOper} {_e} {_z} {_p} : awpOps P E X (⟨d, .bsr _e _z _p, none⟩ :: is) fr L K = OpsK P E X (Zd d fr L (.bsr _e _z _p)) is K := ops_op rfl
theorem o_s2b {d : Option Nat} {is : List IOper} {_e} {_x} : awpOps P E X (⟨d, .s2b _e _x, none⟩ :: is) fr L K = OpsK P E X (Zd d fr L (.s2b _e _x)) is K := ops_op rfl
theorem ops_call {d : Option Nat} {f : FuncId} {args : List Opd} {is : List IOper} : awpOps P E X (⟨d, .call f args, none⟩ :: is) fr L K = (Zl fr args ∧ CallOp P E f (Zm fr args) L d fr (contO P E X is K)) := rfl
def FnK (P : Program) (E : Envt) (X : List PV) (o : Option (FuncId × List AV)) (c : Prop) (d : Option Nat) (args : List Opd) (is : List IOper) (fr : List AV) (L : Objs) (K : List AV → Objs → Prop) : Prop :=
  match o with
  | some (f, ks) => c ∧ fnB P f = true ∧ Zk L ks = true ∧ Zl fr args ∧ CallOp P E f (Zm fr args ++ ks) L d fr (contO P E X is K)
  | none => False
theorem FnK_some {f : FuncId} {ks : List AV} {c : Prop} {d : Option Nat} {args : List Opd} {is : List IOper} : FnK P E X (some (f, ks)) c d args is fr L K = (c ∧ fnB P f = true ∧ Zk L ks = true ∧ Zl fr args ∧ CallOp P E f (Zm fr args ++ ks) L d fr (contO P E X is K)) := rfl
theorem ops_callv {d : Option Nat} {g : Opd} {args : List Opd} {is : List IOper} : awpOps P E X (⟨d, .callv g args, none⟩ :: is) fr L K = FnK P E X (Zag fr g) (rd fr g).un.1 d args is fr L K := by
  cases h : Zag fr g with
  | none => simp only [awpOps, FnK, h]
  | some q => obtain ⟨f, ks⟩ := q; simp only [awpOps, FnK, h]; rfl
theorem ops_dcall {b : Bool} {d : Option Nat} {f : FuncId} {args : List Opd} {is : List IOper} : awpOps P E X (⟨d, .dcall b f args, none⟩ :: is) fr L K = (Zl fr args ∧ DCallOp b P E f (Zm fr args) L d fr (contO P E X is K)) := rfl
theorem contO_eq {is : List IOper} : contO P E X is K fr L = awpOps P E X is fr L K := rfl
def PcK (P : Program) (E : Envt) (f : FuncId) (as : List AV) (L : Objs) (x : PV) : Prop := PureC P E f as L (· = x)
theorem ops_pcall {d : Option Nat} {n : Nat} {f : FuncId} {args : List Opd} {is : List IOper} : awpOps P E X (⟨d, .pcall n f args, none⟩ :: is) fr L K = ((Zl fr args ∧ PcK P E f (Zm fr args) L (X.getD n (.bool false))) ∧ awpOps P E X is (Zf fr d (.p (X.getD n (.bool false)))) L K) := rfl
theorem ops_pcallg {d : Option Nat} {n : Nat} {f : FuncId} {args : List Opd} {is : List IOper} {s : Nat} {want : Bool} : awpOps P E X (⟨d, .pcall n f args, some (s, want)⟩ :: is) fr L K = (match Zg fr s want with | some c0 => (c0 = true → Zl fr args ∧ PcK P E f (Zm fr args) L (X.getD n (.bool false))) ∧ awpOps P E X is (Zf fr d (.g c0 (.p (X.getD n (.bool false))))) L K | none => False) := rfl
theorem ops_callg {d : Option Nat} {f : FuncId} {args : List Opd} {is : List IOper} {s : Nat} {want : Bool} : awpOps P E X (⟨d, .call f args, some (s, want)⟩ :: is) fr L K = (match Zg fr s want with | some c0 => (c0 = true → Zl fr args) ∧ CallG c0 P E f (Zm fr args) L d fr (contO P E X is K) | none => False) := rfl
def FzK (P : Program) (E : Envt) (X : List PV) (q : Option (Key × Nat × List (List PV))) (is : List IOper) (fr : List AV) (L : Objs) (K : List AV → Objs → Prop) : Prop :=
  match q with
  | some (k, z, es) => awpOps P E X is (fr.map (·.thaw k z es)) (Zal k z es L) K
  | none => awpOps P E X is fr L K
theorem FzK_some {k : Key} {z : Nat} {es : List (List PV)} {is : List IOper} : FzK P E X (some (k, z, es)) is fr L K = awpOps P E X is (fr.map (·.thaw k z es)) (Zal k z es L) K := rfl
theorem FzK_none {is : List IOper} : FzK P E X none is fr L K = awpOps P E X is fr L K := rfl
theorem ops_fz {x : Opd} {is : List IOper} : awpOps P E X (⟨none, .fz x, none⟩ :: is) fr L K = FzK P E X (Zaf fr L x) is fr L K := rfl

/-- What a variable holds, if it is plain; what captured variables hold. -/
def Zi (L : Objs) (k : Key) : Option (List PV) :=
  match Zah L k with
  | some (.box cs _) => Zw cs
  | _ => none
def Zj (L : Objs) : List Key → Option (List PV)
  | [] => some []
  | k :: r => match Zi L k, Zj L r with
    | some cs, some l => some (.ptr cs :: l)
    | _, _ => none
/-- What an argument hands over as a plain value. -/
def Zar (L : Objs) : AV → Option PV
  | .p x => some (wk x)
  | .row k => match Zah L k with
    | some (.row es _ z _) => some (.sl z es)
    | _ => none
  | .fn f ks => (Zj L ks).map (.clo f)
  | .adr k o => if o = 0 then (Zi L k).map .ptr else none
  | _ => none
def Zaq (L : Objs) : List AV → Option (List PV)
  | [] => some []
  | x :: r => match Zar L x, Zaq L r with
    | some y, some l => some (y :: l)
    | _, _ => none
def Zas : List AV → Bool
  | [] => true
  | .row _ :: _ => false
  | .adr _ _ :: _ => false
  | .fn _ ks :: r => ks.isEmpty && Zas r
  | _ :: r => Zas r
def Zat : PV → Bool
  | .int .. | .bool .. | .str .. => true
  | .agg cs => cs.all fun | .int .. | .bool .. | .str .. => true | _ => false
  | .tup cs => cs.all fun | .int .. | .bool .. | .str .. => true | _ => false
  | _ => false

theorem bool_beq_true (b : Bool) : (b == true) = b := by cases b <;> rfl
theorem bool_beq_false (b : Bool) : (b == false) = !b := by cases b <;> rfl

theorem PRep.flat {w : World} {U U' : Nat → Prop} {x : PV} {v : Value} (hf : Zat x = true) (h : PRep w U x v) : PRep w U' x v := by
  have one : ∀ (y : PV) (u : Value), (match y with | .int .. | .bool .. | .str .. => true | _ => false) = true → PRep w U y u → PRep w U' y u := by
    intro y u hy hr
    cases y <;> simp_all [PRep]
  have lst : ∀ (cs : List PV) (vs : List Value), (cs.all fun | .int .. | .bool .. | .str .. => true | _ => false) = true → PRepL w U cs vs → PRepL w U' cs vs := by
    intro cs
    induction cs with
    | nil => intro vs _ h; exact h
    | cons c cs ih =>
      intro vs hc hr
      simp only [List.all_cons, Bool.and_eq_true] at hc
      simp only [PRepL] at hr ⊢
      obtain ⟨v, r, rfl, h1, h2⟩ := hr
      exact ⟨v, r, rfl, one c v hc.1 h1, ih r hc.2 h2⟩
  cases x with
  | agg cs => simp only [Zat] at hf; simp only [PRep] at h ⊢; obtain ⟨vs, e, hl⟩ := h; exact ⟨vs, e, lst cs vs hf hl⟩
  | tup cs => simp only [Zat] at hf; simp only [PRep] at h ⊢; obtain ⟨vs, e, hl⟩ := h; exact ⟨vs, e, lst cs vs hf hl⟩
  | int k n => exact h
  | bool b => exact h
  | str s => exact h
  | raw v => simp [Zat] at hf
  | nl z => simp [Zat] at hf
  | sl z es => simp [Zat] at hf
  | ptr cs => simp [Zat] at hf
  | clo f ps => simp [Zat] at hf

theorem fn_raw {w : World} {U U' : Nat → Prop} {ι : Key → Value} {f : FuncId} {v : Value} (h : ARep w U ι (.fn f []) v) : PRep w U' (.clo f []) v := by
  exact ⟨[], by simpa [ARep] using h, by simp [PRepL]⟩
theorem allP_map {as : List AV} {l : List PV} (h : Zw as = some l) : as = l.map .p := by
  induction as generalizing l with
  | nil => simp only [Zw, Option.some.injEq] at h; subst h; rfl
  | cons q as ih =>
    cases q with
    | p x =>
      simp only [Zw, Option.map_eq_some_iff] at h
      obtain ⟨m, h1, rfl⟩ := h
      rw [ih h1]
      rfl
    | _ => simp [Zw] at h
theorem boxP_rep {w : World} {B : Nat → Prop} {ι : Key → Value} (hs : Sim w B L ι) (hX : ∀ b, B b → ¬ Own L ι b) {k : Key} {cs : List PV} (h : Zi L k = some cs) : PRep w B (.ptr cs) (ι k) := by
  have hk := keeps_x w L ι B
  unfold Zi at h
  split at h
  · rename_i as t hl
    have e := allP_map h
    subst e
    obtain ⟨b, vs, e1, e2, e3, e4, e5⟩ := hs.obj k _ hl
    have hO : Own L ι b := ⟨k, _, hl, by rw [e1]; rfl⟩
    have hr : PRepL w (fun b => Own L ι b ∨ B b) cs vs := PRepL.of_get (by simpa using e3) (fun j x u hx hu => by
      obtain ⟨u', hu', hr'⟩ := e5 j (.p x) (by rw [List.getElem?_map, hx]; rfl)
      rw [hu'] at hu
      cases hu
      exact hr')
    refine ⟨b, e1, sim_own_lt hs hO, fun hb => hX b hb hO, PRepC.of (PRepL.mono hk _ _ hr) e4 (fun j v hv => ?_)⟩
    rw [Nat.zero_add, cell_of_row w b j _ t (0, 0) e2]
    simpa using hv
  · cases h
theorem capPs_rep {w : World} {B : Nat → Prop} {ι : Key → Value} (hs : Sim w B L ι) (hX : ∀ b, B b → ¬ Own L ι b) : ∀ {ks : List Key} {ps : List PV}, Zj L ks = some ps → PRepL w B ps (ks.map ι) := by
  intro ks
  induction ks with
  | nil => intro ps h; simp only [Zj, Option.some.injEq] at h; subst h; simp [PRepL]
  | cons k ks ih =>
    intro ps h
    simp only [Zj] at h
    split at h
    · rename_i cs l e1 e2
      cases h
      exact ⟨_, _, rfl, boxP_rep hs hX e1, ih e2⟩
    · cases h

theorem argPs_norow {w : World} {U : Nat → Prop} {ι : Key → Value} : ∀ {as : List AV} {ps : List PV} {vs : List Value}, Zas as = true → Zaq L as = some ps → ARepL w U ι as vs → PRepL w U ps vs := by
  intro as
  induction as with
  | nil => intro ps vs _ h hr; simp only [Zaq, Option.some.injEq] at h; subst h; exact hr
  | cons a as ih =>
    intro ps vs hn h hr
    simp only [Zaq] at h
    split at h
    · rename_i y l e1 e2
      cases h
      simp only [ARepL] at hr
      obtain ⟨v, r, rfl, h1, h2⟩ := hr
      simp only [PRepL]
      cases a with
      | p x => simp only [Zar, Option.some.injEq] at e1; subst e1; exact ⟨v, r, rfl, PRep.wk h1, ih (by simpa [Zas] using hn) e2 h2⟩
      | row k => simp [Zas] at hn
      | adr k o => simp [Zas] at hn
      | fn f ks =>
        cases ks with
        | nil => simp only [Zar, Zj, Option.map_some, Option.some.injEq] at e1; subst e1; exact ⟨v, r, rfl, fn_raw h1, ih (by simpa [Zas] using hn) e2 h2⟩
        | cons k ks => simp [Zas] at hn
      | _ => simp [Zar] at e1
    · cases h

/-- The blocks of rows among the arguments. -/
theorem argPs_rows {w : World} {B : Nat → Prop} {ι : Key → Value} (hs : Sim w B L ι) (hX : ∀ b, B b → ¬ Own L ι b) : ∀ {as : List AV} {ps : List PV} {vs : List Value}, Zaq L as = some ps → ARepL w (fun b => Own L ι b ∨ B b) ι as vs → PRepL w B ps vs := by
  have hk := keeps_x w L ι B
  intro as
  induction as with
  | nil => intro ps vs h hr; simp only [Zaq, Option.some.injEq] at h; subst h; exact hr
  | cons a as ih =>
    intro ps vs h hr
    simp only [Zaq] at h
    split at h
    · rename_i y l e1 e2
      cases h
      simp only [ARepL] at hr
      obtain ⟨v, r, rfl, h1, h2⟩ := hr
      simp only [PRepL]
      refine ⟨v, r, rfl, ?_, ih e2 h2⟩
      cases a with
      | p x => simp only [Zar, Option.some.injEq] at e1; subst e1; exact (PRep.mono hk _ _ h1).wk
      | row k =>
        simp only [Zar] at e1
        split at e1
        · rename_i es e' z ap hl
          cases e1
          obtain ⟨vs', hrow, e4, e5, e6⟩ := hs.obj k _ hl
          rcases hrow.2 with ⟨g1, g2⟩ | ⟨g, cap, cur, fz, g1, _, g3, _⟩
          · rw [h1.1, g1]
            exact ⟨none, 0, by rw [g2], by omega, fun hne => absurd (List.eq_nil_of_length_eq_zero g2) hne⟩
          · rw [h1.1, g1]
            have hE := row_cells hs hl g1
            have hO : Own L ι g := ⟨k, _, hl, by rw [g1]; rfl⟩
            refine ⟨_, cap, rfl, g3, fun _ => ⟨g, 0, rfl, sim_own_lt hs hO, fun hx => hX g hx hO, ?_⟩⟩
            have key : ∀ (es' : List (List PV)) (off : Nat), PRepE w (fun b => Own L ι b ∨ B b) g z off es' → PRepE w B g z off es' := by
              intro es'
              induction es' with
              | nil => intro off _; simp [PRepE]
              | cons x r ih =>
                intro off hh
                simp only [PRepE] at hh ⊢
                refine ⟨hh.1, ?_, ih _ hh.2.2⟩
                obtain ⟨us, a1, a2, a3⟩ := hh.2.1.vals
                exact PRepC.of (PRepL.mono hk _ _ a1) a2 a3
            exact key es 0 hE
        · cases e1
      | fn f ks =>
        simp only [Zar, Option.map_eq_some_iff] at e1
        obtain ⟨ps', h3, rfl⟩ := e1
        exact ⟨ks.map ι, h1, capPs_rep hs hX h3⟩
      | adr k o =>
        simp only [Zar] at e1
        split at e1
        · rename_i ho
          subst ho
          simp only [Option.map_eq_some_iff] at e1
          obtain ⟨cs, h3, rfl⟩ := e1
          obtain ⟨b, e4, e5⟩ := h1
          rw [e5, ← e4]
          exact boxP_rep hs hX h3
        · cases e1
      | _ => simp [Zar] at e1
    · cases h

/-- A contract at a call: no row among the arguments, or a result without memory. -/
theorem pure_of {f : FuncId} {as : List AV} {ps : List PV} {φ : PV → Prop} (h : PCall P E f ps φ) (ha : Zaq L as = some ps) (hn : Zas as = true ∨ ∀ x, φ x → Zat x = true) : PureC P E f as L φ := by
  intro w X ι vs hs hX hE hEb hA
  rcases hn with hn | hn
  · exact h w (fun b => Own L ι b ∨ X b) vs (fun b hb => hb.elim (fun h => sim_own_lt hs h) (fun h => (hX b h).1)) hE (fun b hb => (hEb b hb).1) (argPs_norow hn ha hA)
  · refine (h w X vs (fun b hb => (hX b hb).1) hE (fun b hb => (hEb b hb).1) (argPs_rows hs (fun b hb => (hX b hb).2) ha hA)).mono ?_
    rintro e w' ⟨v, x, rfl, hx, hr, hG⟩
    exact ⟨v, x, rfl, hx, hr.flat (hn x hx), hG⟩

theorem use {f : FuncId} {as : List AV} {ps : List PV} {φ : PV → Prop} {d : Option Nat} {is : List IOper} (h : PCall P E f ps φ) (ha : Zaq L as = some ps) (hn : Zas as = true ∨ ∀ x, φ x → Zat x = true) (hk : ∀ x, φ x → awpOps P E X is (Zf fr d (.p x)) L K) : CallOp P E f as L d fr (contO P E X is K) :=
  .inl ⟨φ, pure_of h ha hn, hk⟩
/-- The same with one result. -/
theorem use1 {f : FuncId} {as : List AV} {ps : List PV} {r : PV} {d : Option Nat} {is : List IOper} (h : PCall P E f ps (· = r)) (ha : Zaq L as = some ps) (hn : Zas as = true ∨ Zat r = true) (hk : awpOps P E X is (Zf fr d (.p r)) L K) : CallOp P E f as L d fr (contO P E X is K) :=
  .inl ⟨(· = r), pure_of h ha (hn.imp id (fun h x e => by rw [e]; exact h)), fun x e => by rw [e]; exact hk⟩
theorem useG {c0 : Bool} {f : FuncId} {as : List AV} {ps : List PV} {r : PV} {d : Option Nat} {is : List IOper} (h : c0 = true → PCall P E f ps (· = r)) (ha : Zaq L as = some ps) (hn : Zas as = true ∨ Zat r = true) (hk : awpOps P E X is (Zf fr d (.g c0 (.p r))) L K) : CallG c0 P E f as L d fr (contO P E X is K) :=
  .inl ⟨r, fun hc => pure_of (h hc) ha (hn.imp id fun h x e => by rw [e]; exact h), hk⟩
/-- A guarded call that may change something: by cases. -/
theorem useGC {c0 : Bool} {f : FuncId} {as : List AV} {d : Option Nat} {is : List IOper} (h : c0 = true → CallOp P E f as L d fr (contO P E X is K)) (hk : c0 = false → awpOps P E X is (Zf fr d (.g c0 .any)) L K) : CallG c0 P E f as L d fr (contO P E X is K) := .inr ⟨h, hk⟩
theorem usep {f : FuncId} {as : List AV} {ps : List PV} {r : PV} (h : PCall P E f ps (· = r)) (ha : Zaq L as = some ps) (hn : Zas as = true ∨ Zat r = true) : PcK P E f as L r :=
  pure_of h ha (hn.imp id (fun h x e => by rw [e]; exact h))
end
end Go.Proofs.YtpddiepfolfnoaaDoor
