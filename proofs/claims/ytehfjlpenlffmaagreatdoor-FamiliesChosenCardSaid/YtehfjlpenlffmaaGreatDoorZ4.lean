import Derived.Test.YtehfjlpenlffmaaGreatDoorZ3
import Derived.Lib.Builder
import Derived.Lib.UnsafeStr
import Derived.Lib.AppendStr
import Derived.Test.YtehfjlpenlffmaaGreatDoorZ1
set_option linter.unusedVariables false
set_option linter.unusedSimpArgs false
set_option linter.defProp false
namespace Go.Proofs.YtehfjlpenlffmaaGreatDoor
def chkF (P:Program) (fn:Func) (ic:IC) (rs:List IRes) (n:Nat):Bool:=
 match fn.body with
 |some c=>chkC P okDraw ic c && okResL P fn.results.toList rs && fn.ntmps == n
 |none=>false
section
variable {P:Program} {E:Envt}
theorem pcallF (hm:P.follows .mixedOrders=true) {f:FuncId} {fn:Func} {ic:IC} {rs:List IRes} {args:List PV} {n:Nat} {φ:PV→Prop} (hf:P.funcs[f]?=some fn) (hc:chkF P fn ic rs n=true)
  (h:awp P E ic (args.map .p++List.replicate (n - args.length) .any) [] (retQ rs fun x _=>φ x)):PCall P E f args φ:=by
 unfold chkF at hc
 split at hc
 ·rename_i c hb
  simp only [Bool.and_eq_true,beq_iff_eq] at hc
  exact pcall_of_awp (drawOk hm) hf hb hc.2 hc.1.1 hc.1.2 h
 ·cases hc
def thenC (P:Program) (E:Envt) (y:IC) (Q:AQ):AQ:=thenQ (fun fr L=>awp P E y fr L Q) Q
def BrC (P:Program) (E:Envt) (b:Bool) (x y:IC) (fr:List AV) (L:Objs) (Q:AQ):Prop:=BrQ b (awp P E x fr L Q) (awp P E y fr L Q)
def LoopC (P:Program) (E:Envt) (x:IC) (fr:List AV) (L:Objs) (Q:AQ):Prop:=awp P E (.loop x) fr L Q
def DrgC (P:Program) (E:Envt) (ops:List IOper) (fr:List AV) (L:Objs) (K:List AV→Objs→Prop):Prop:=∃ X,awpOps P E X ops fr L K
def contO (P:Program) (E:Envt) (X:List PV) (is:List IOper) (K:List AV→Objs→Prop):List AV→Objs→Prop:=fun fr L=>awpOps P E X is fr L K
theorem ReOk.refl {fr:List AV} {L:Objs}:ReOk E fr L fr L:=fun B w ι a hs=>⟨ι,hs⟩
theorem ReOk.trans {fr fr1 fr2:List AV} {L L1 L2:Objs} (h:ReOk E fr L fr1 L1) (k:ReOk E fr1 L1 fr2 L2):ReOk E fr L fr2 L2:=fun B w ι a hs=>by
 obtain ⟨ι1,hs1⟩:=h B w ι a hs
 exact k B w ι1 a hs1
theorem re_weak {fr fr':List AV} {L L':Objs} (h1:Zb fr fr') (h2:Zd L' L):ReOk E fr L fr' L':=fun B w ι a hs=>⟨ι,hs.weak h1 h2⟩
def EndR (E:Envt) (I:Nat→List AV→Objs→Prop) (n:Nat) (fr:List AV) (L:Objs):Prop:=∃ m fr' L',m < n∧ReOk E fr L fr' L'∧I m fr' L'
def roundQ (E:Envt) (I:Nat→List AV→Objs→Prop) (n:Nat) (Q:AQ):AQ:=thenQ (EndR E I n) Q
def CutC (P:Program) (E:Envt) (x:IC) (fr:List AV) (L:Objs) (Q:AQ):Prop:=∃ fr' L',ReOk E fr L fr' L'∧awp P E x fr' L' Q
def MidK (E:Envt) (M:List AV→Objs→Prop) (fr:List AV) (L:Objs):Prop:=∃ fr' L',ReOk E fr L fr' L'∧M fr' L'
def midQ (E:Envt) (M:List AV→Objs→Prop) (Q:AQ):AQ:=thenQ (MidK E M) Q
variable {fr:List AV} {L:Objs} {Q:AQ} {X:List PV} {K:List AV→Objs→Prop}
theorem awp_skip:awp P E .skip fr L Q=Q .normal fr L:=rfl
theorem awp_exit {i:Nat}:awp P E (.exit i) fr L Q=Q (.exit i) fr L:=rfl
theorem awp_ret:awp P E .ret fr L Q=Q .ret fr L:=rfl
theorem awp_seq {x y:IC}:awp P E (.seq x y) fr L Q=awp P E x fr L (thenC P E y Q):=rfl
theorem awp_block {i:Nat} {x:IC}:awp P E (.block i x) fr L Q=awp P E x fr L (blockQ i Q):=rfl
theorem awp_reg {ops:List IOper}:awp P E (.reg ops) fr L Q=awpOps P E [] ops fr L (Q .normal):=rfl
theorem awp_drg {ops:List IOper}:awp P E (.drg ops) fr L Q=DrgC P E ops fr L (Q .normal):=rfl
theorem awp_drp {pm:List Nat} {ops:List IOper}:awp P E (.drp pm ops) fr L Q=DrgC P E ops fr L (Q .normal):=rfl
theorem awp_loop {x:IC}:awp P E (.loop x) fr L Q=LoopC P E x fr L Q:=rfl
theorem awp_cond {c:Opd} {x y:IC}:awp P E (.cond c x y) fr L Q=(match rd fr c with|.p (.bool b)=>BrC P E b x y fr L Q|_=>False):=rfl
theorem thenC_n {y:IC}:thenC P E y Q .normal fr L=awp P E y fr L Q:=rfl
theorem thenC_r {y:IC}:thenC P E y Q .ret fr L=Q .ret fr L:=rfl
theorem thenC_e {y:IC} {i:Nat}:thenC P E y Q (.exit i) fr L=Q (.exit i) fr L:=rfl
theorem blockQ_n {i:Nat}:blockQ i Q .normal fr L=Q .normal fr L:=rfl
theorem blockQ_r {i:Nat}:blockQ i Q .ret fr L=Q .ret fr L:=rfl
theorem blockQ_e {i j:Nat}:blockQ i Q (.exit j) fr L=if j=i then Q .normal fr L else Q (.exit j) fr L:=rfl
theorem roundQ_n {I:Nat→List AV→Objs→Prop} {n:Nat}:roundQ E I n Q .normal fr L=EndR E I n fr L:=rfl
theorem awp_cut {x:IC}:awp P E (.cut x) fr L Q=CutC P E x fr L Q:=rfl
theorem midQ_n {M:List AV→Objs→Prop}:midQ E M Q .normal fr L=MidK E M fr L:=rfl
theorem midQ_r {M:List AV→Objs→Prop}:midQ E M Q .ret fr L=Q .ret fr L:=rfl
theorem midQ_e {M:List AV→Objs→Prop} {i:Nat}:midQ E M Q (.exit i) fr L=Q (.exit i) fr L:=rfl
theorem roundQ_r {I:Nat→List AV→Objs→Prop} {n:Nat}:roundQ E I n Q .ret fr L=Q .ret fr L:=rfl
theorem roundQ_e {I:Nat→List AV→Objs→Prop} {n i:Nat}:roundQ E I n Q (.exit i) fr L=Q (.exit i) fr L:=rfl
theorem retQ_r {rs:List IRes} {φ:PV→Objs→Prop}:retQ rs φ .ret fr L=RetK (Zbd fr L rs) φ L:=rfl
theorem retQ_n {rs:List IRes} {φ:PV→Objs→Prop}:retQ rs φ .normal fr L=RetK (Zbd fr L rs) φ L:=rfl
theorem BrC_true {x y:IC}:BrC P E true x y fr L Q=awp P E x fr L Q:=by simp [BrC,BrQ]
theorem BrC_false {x y:IC}:BrC P E false x y fr L Q=awp P E y fr L Q:=by simp [BrC,BrQ]
theorem br {b:Bool} {x y:IC} (h1:b=true→awp P E x fr L Q) (h2:b=false→awp P E y fr L Q):BrC P E b x y fr L Q:=⟨h1,h2⟩
theorem loop_intro {x:IC} (I:Nat→List AV→Objs→Prop) (n:Nat) (fr':List AV) (L':Objs) (h1:Zb fr fr') (h2:Zd L' L) (h0:I n fr' L') (hr:∀ n fr L,I n fr L→awp P E x fr L (roundQ E I n Q)):LoopC P E x fr L Q:=⟨I,⟨n,fr',L',re_weak h1 h2,h0⟩,hr⟩
theorem loop_re {x:IC} (I:Nat→List AV→Objs→Prop) (n:Nat) (fr':List AV) (L':Objs) (h1:ReOk E fr L fr' L') (h0:I n fr' L') (hr:∀ n fr L,I n fr L→awp P E x fr L (roundQ E I n Q)):LoopC P E x fr L Q:=⟨I,⟨n,fr',L',h1,h0⟩,hr⟩
theorem end_re {I:Nat→List AV→Objs→Prop} {n:Nat} (m:Nat) (fr':List AV) (L':Objs) (hm:m < n) (h1:ReOk E fr L fr' L') (h0:I m fr' L'):EndR E I n fr L:=⟨m,fr',L',hm,h1,h0⟩
theorem cut_re {x:IC} (fr':List AV) (L':Objs) (h1:ReOk E fr L fr' L') (h:awp P E x fr' L' Q):CutC P E x fr L Q:=⟨fr',L',h1,h⟩
theorem end_round {I:Nat→List AV→Objs→Prop} {n:Nat} (m:Nat) (fr':List AV) (L':Objs) (hm:m < n) (h1:Zb fr fr') (h2:Zd L' L) (h0:I m fr' L'):EndR E I n fr L:=⟨m,fr',L',hm,re_weak h1 h2,h0⟩
theorem to_mid {M:List AV→Objs→Prop} (fr':List AV) (L':Objs) (h1:Zb fr fr') (h2:Zd L' L) (h0:M fr' L'):MidK E M fr L:=⟨fr',L',re_weak h1 h2,h0⟩
theorem map_kill_p (k:Key) (cs:List PV):(cs.map AV.p).map (fun x=>AV.kill k x)=cs.map AV.p:=by
 rw [List.map_map];exact List.map_congr_left fun x _=>rfl
theorem map_thaw_p (k:Key) (y:PV) (cs:List PV):(cs.map AV.p).map (fun x=>AV.thaw k y x)=cs.map AV.p:=by
 rw [List.map_map];exact List.map_congr_left fun x _=>rfl
theorem cut_same {x:IC} (h2:Zd L L) (h:awp P E x fr L Q):CutC P E x fr L Q:=⟨fr,L,ReOk.refl,h⟩
theorem awpOps_mono {K':List AV→Objs→Prop} (hk:∀ fr L,K fr L→K' fr L):∀ (is:List IOper) (fr:List AV) (L:Objs),awpOps P E X is fr L K→awpOps P E X is fr L K':=by
 intro is
 induction is with
 |nil=>intro fr L h;exact hk fr L h
 |cons i is ih=>
  obtain ⟨d,op,gd⟩:=i
  intro fr L h
  have hcall:∀ f as d fr,CallOp P E f as L d fr (fun fr L=>awpOps P E X is fr L K)→CallOp P E f as L d fr (fun fr L=>awpOps P E X is fr L K'):=by
   intro f as d fr h
   rcases h with ⟨φ,h1,h2⟩|⟨bk,post,h1,h2,h3,h4⟩|⟨i0,h⟩
   ·exact .inl ⟨φ,h1,fun x hx=>ih _ _ (h2 x hx)⟩
   ·refine .inr (.inl ⟨bk,post,h1,h2,h3,fun r os' hp=>?_⟩)
    have:=h4 r os' hp
    cases r with
    |p x=>exact ih _ _ this
    |fr es e z=>cases d with
     |none=>exact ih _ _ this
     |some d=>exact ih _ _ this
   ·refine .inr (.inr ⟨i0,fun w X' ι vs a1 a2 a3 a4 a5=>(h w X' ι vs a1 a2 a3 a4 a5).mono ?_⟩)
    rintro e w' ⟨v,r,L',ι',b1,b2,b3⟩
    exact ⟨v,r,L',ι',b1,ih _ _ b2,b3⟩
  cases gd with
  |none=>
   cases op with
   |call f args=>exact ⟨h.1,hcall _ _ _ _ h.2⟩
   |pcall n f args=>exact ⟨h.1,ih _ _ h.2⟩
   |dcall b f args=>
    obtain ⟨h0,k,t,cs,post,h1,h2,h3,h4,h5,h6⟩:=h
    exact ⟨h0,k,t,cs,post,h1,h2,h3,h4,h5,fun x cs' hp=>ih _ _ (h6 x cs' hp)⟩
   |callv g args=>
    simp only [awpOps] at h ⊢
    split at h
    ·exact ⟨h.1,h.2.1,h.2.2.1,h.2.2.2.1,hcall _ _ _ _ h.2.2.2.2⟩
    ·exact h.elim
   |pcv n g args=>
    simp only [awpOps] at h ⊢
    split at h
    ·exact ⟨h.1,ih _ _ h.2⟩
    ·exact h.elim
   |fz x=>
    simp only [awpOps] at h ⊢
    split at h
    ·exact ih _ _ h
    ·exact ih _ _ h
   |hole x=>exact ih _ _ h
   |fcl n f args e z=>
    simp only [awpOps] at h ⊢
    split at h
    ·exact ⟨h.1,ih _ _ h.2⟩
    ·exact h.elim
   |re=>obtain ⟨fr',L',h1,h2⟩:=h;exact ⟨fr',L',h1,ih _ _ h2⟩
   |nxt x=>
    simp only [awpOps] at h ⊢
    split at h
    ·exact ⟨h.1,fun e=>ih _ _ (h.2.1 e),fun i p e=>ih _ _ (h.2.2 i p e)⟩
    ·exact h.elim
   |isn x=>
    simp only [awpOps] at h ⊢
    split at h
    ·exact ⟨h.1,fun b hb=>ih _ _ (h.2 b hb)⟩
    ·exact h.elim
   |_=>
    simp only [awpOps] at h ⊢
    split at h
    ·exact ⟨h.1,ih _ _ h.2⟩
    ·exact h.elim
  |some q=>
   obtain ⟨s,want⟩:=q
   simp only [awpOps] at h ⊢
   split at h
   ·cases op with
    |call f args=>
     simp only at h ⊢
     rcases h with ⟨h1,⟨x,h2,h3⟩|⟨h2,h3⟩⟩
     ·exact ⟨h1,.inl ⟨x,h2,ih _ _ h3⟩⟩
     ·exact ⟨h1,.inr ⟨fun e=>hcall _ _ _ _ (h2 e),fun e=>ih _ _ (h3 e)⟩⟩
    |pcall n f args=>simp only at h ⊢;exact ⟨h.1,ih _ _ h.2⟩
    |callv g args=>
     simp only at h ⊢
     split at h
     ·rcases h with ⟨h0,h1,⟨x,h2,h3⟩|⟨h2,h3⟩⟩
      ·exact ⟨h0,h1,.inl ⟨x,h2,ih _ _ h3⟩⟩
      ·exact ⟨h0,h1,.inr ⟨fun e=>hcall _ _ _ _ (h2 e),fun e=>ih _ _ (h3 e)⟩⟩
     ·exact ⟨h.1,ih _ _ h.2⟩
    |pcv n g args=>
     simp only at h ⊢
     split at h
     ·exact ⟨h.1,ih _ _ h.2⟩
     ·exact h.elim
    |_=>
     simp only at h ⊢
     split at h
     ·exact ⟨h.1,ih _ _ h.2⟩
     ·exact ⟨h.1,h.2.1,ih _ _ h.2.2⟩
   ·exact h.elim
theorem awp_mono:∀ (x:IC) (fr:List AV) (L:Objs) (Q Q':AQ),(∀ e fr L,Q e fr L→Q' e fr L)→awp P E x fr L Q→awp P E x fr L Q':=by
 intro x
 induction x with
 |skip=>intro fr L Q Q' hq h;exact hq _ _ _ h
 |reg ops=>intro fr L Q Q' hq h;exact awpOps_mono (hq .normal) ops fr L h
 |drg ops=>intro fr L Q Q' hq h;obtain ⟨Y,h⟩:=h;exact ⟨Y,awpOps_mono (hq .normal) ops fr L h⟩
 |drp pm ops=>intro fr L Q Q' hq h;obtain ⟨Y,h⟩:=h;exact ⟨Y,awpOps_mono (hq .normal) ops fr L h⟩
 |seq x y ihx ihy=>
  intro fr L Q Q' hq h
  refine ihx fr L _ _ (fun e fr L h=>?_) h
  cases e<;>first|exact ihy fr L Q Q' hq h|exact hq _ _ _ h
 |cond c x y ihx ihy=>
  intro fr L Q Q' hq h
  simp only [awp] at h ⊢
  split at h
  ·exact ⟨fun e=>ihx fr L Q Q' hq (h.1 e),fun e=>ihy fr L Q Q' hq (h.2 e)⟩
  ·exact h.elim
 |block i x ih=>
  intro fr L Q Q' hq h
  refine ih fr L _ _ (fun e fr L h=>?_) h
  cases e with
  |exit j=>
   simp only [blockQ] at h ⊢
   split at h
   ·rename_i hj;rw [if_pos hj];exact hq _ _ _ h
   ·rename_i hj;rw [if_neg hj];exact hq _ _ _ h
  |_=>exact hq _ _ _ h
 |loop x ih=>
  intro fr L Q Q' hq h
  obtain ⟨I,h0,hr⟩:=h
  refine ⟨I,h0,fun n fr L hi=>ih fr L _ _ (fun e fr L h=>?_) (hr n fr L hi)⟩
  cases e with
  |normal=>exact h
  |_=>exact hq _ _ _ h
 |exit i=>intro fr L Q Q' hq h;exact hq _ _ _ h
 |ret=>intro fr L Q Q' hq h;exact hq _ _ _ h
 |dead=>intro fr L Q Q' hq h;exact h.elim
 |cut x ih=>intro fr L Q Q' hq h;obtain ⟨fr',L',h1,h⟩:=h;exact ⟨fr',L',h1,ih fr' L' Q Q' hq h⟩
theorem br_join {b:Bool} {x y r:IC} (M:List AV→Objs→Prop) (h1:b=true→awp P E x fr L (midQ E M Q)) (h2:b=false→awp P E y fr L (midQ E M Q)) (hM:∀ fr L,M fr L→awp P E r fr L Q):BrC P E b x y fr L (thenC P E (.cut r) Q):=by
 have hq:∀ e fr L,midQ E M Q e fr L→thenC P E (.cut r) Q e fr L:=by
  intro e fr L h
  cases e with
  |normal=>obtain ⟨fr',L',a1,a3⟩:=h;exact ⟨fr',L',a1,hM fr' L' a3⟩
  |_=>exact h
 exact ⟨fun e=>awp_mono x fr L _ _ hq (h1 e),fun e=>awp_mono y fr L _ _ hq (h2 e)⟩
theorem drg0 {ops:List IOper} (h:awpOps P E [] ops fr L K):DrgC P E ops fr L K:=⟨_,h⟩
theorem drg2 {ops:List IOper} {x1 x2:PV} (h:awpOps P E [x1,x2] ops fr L K):DrgC P E ops fr L K:=⟨_,h⟩
theorem drg3 {ops:List IOper} {x1 x2 x3:PV} (h:awpOps P E [x1,x2,x3] ops fr L K):DrgC P E ops fr L K:=⟨_,h⟩
def isOp:IOp→Bool
 |.call ..|.pcall ..|.dcall ..|.callv ..|.pcv ..|.fz ..|.hole ..|.isn ..|.re|.nxt ..|.fcl ..=>false
 |_=>true
def OpsK (P:Program) (E:Envt) (X:List PV) (q:Option (Prop×List AV×Objs)) (is:List IOper) (K:List AV→Objs→Prop):Prop:=
 match q with
 |some (c,fr',L')=>c∧awpOps P E X is fr' L' K
 |none=>False
def GdK (P:Program) (E:Envt) (X:List PV) (pl:Bool) (g:Option Bool) (q:Option (Prop×AV)) (d:Option Nat) (is:List IOper) (fr:List AV) (L:Objs) (K:List AV→Objs→Prop):Prop:=
 match g with
 |some c0=>match q with
  |some (c,r)=>(c0=true→c)∧awpOps P E X is (Zg fr d (.g c0 r)) L K
  |none=>pl=true∧c0=false∧awpOps P E X is (Zg fr d (.g c0 .any)) L K
 |none=>False
theorem OpsK_some {c:Prop} {fr':List AV} {L':Objs} {is:List IOper}:OpsK P E X (some (c,fr',L')) is K=(c∧awpOps P E X is fr' L' K):=rfl
theorem GdK_none {c0:Bool} {d:Option Nat} {is:List IOper}:GdK P E X true (some c0) none d is fr L K=(c0=false∧awpOps P E X is (Zg fr d (.g c0 .any)) L K):=by simp [GdK]
theorem GdK_some {pl c0:Bool} {c:Prop} {r:AV} {d:Option Nat} {is:List IOper}:GdK P E X pl (some c0) (some (c,r)) d is fr L K=((c0=true→c)∧awpOps P E X is (Zg fr d (.g c0 r)) L K):=rfl
theorem ops_nil:awpOps P E X [] fr L K=K fr L:=rfl
theorem ops_op {d:Option Nat} {op:IOp} {is:List IOper} (h:isOp op=true):awpOps P E X (⟨d,op,none⟩ :: is) fr L K=OpsK P E X (Ze d fr L op) is K:=by
 cases op<;>first|rfl|(simp [isOp] at h)
theorem ops_gd {d:Option Nat} {op:IOp} {is:List IOper} {s:Nat} {want:Bool} (h:isOp op=true):awpOps P E X (⟨d,op,some (s,want)⟩ :: is) fr L K=GdK P E X (plainOp op) (Zh fr s want) (Zf fr L op) d is fr L K:=by
 cases op<;>first|rfl|(simp [isOp] at h)
def StepK (P:Program) (E:Envt) (X:List PV) (q:Option (Prop×AV)) (d:Option Nat) (is:List IOper) (fr:List AV) (L:Objs) (K:List AV→Objs→Prop):Prop:=
 match q with
 |some (c,r)=>c∧awpOps P E X is (Zg fr d r) L K
 |none=>False
theorem StepK_some {c:Prop} {r:AV} {d:Option Nat} {is:List IOper}:StepK P E X (some (c,r)) d is fr L K=(c∧awpOps P E X is (Zg fr d r) L K):=rfl
theorem StepK_eq {op:IOp} {d:Option Nat} {is:List IOper} (h:Ze d fr L op=(Zf fr L op).map (fun q=>(q.1,Zg fr d q.2,L))):OpsK P E X (Ze d fr L op) is K=StepK P E X (Zf fr L op) d is fr L K:=by
 rw [h]
 cases Zf fr L op<;>rfl
theorem o_mov {d:Option Nat} {is:List IOper} {_x}:awpOps P E X (⟨d,.mov _x,none⟩ :: is) fr L K=StepK P E X (Zf fr L (.mov _x)) d is fr L K:=by rw [ops_op rfl];exact StepK_eq rfl
theorem g_mov {d:Option Nat} {is:List IOper} {s:Nat} {want:Bool} {_x}:awpOps P E X (⟨d,.mov _x,some (s,want)⟩ :: is) fr L K=GdK P E X true (Zh fr s want) (Zf fr L (.mov _x)) d is fr L K:=ops_gd rfl
theorem o_pick {d:Option Nat} {is:List IOper} {_c} {_a} {_b}:awpOps P E X (⟨d,.pick _c _a _b,none⟩ :: is) fr L K=StepK P E X (Zf fr L (.pick _c _a _b)) d is fr L K:=by rw [ops_op rfl];exact StepK_eq rfl
theorem g_pick {d:Option Nat} {is:List IOper} {s:Nat} {want:Bool} {_c} {_a} {_b}:awpOps P E X (⟨d,.pick _c _a _b,some (s,want)⟩ :: is) fr L K=GdK P E X true (Zh fr s want) (Zf fr L (.pick _c _a _b)) d is fr L K:=ops_gd rfl
theorem o_bin {d:Option Nat} {is:List IOper} {_b} {_x} {_y}:awpOps P E X (⟨d,.bin _b _x _y,none⟩ :: is) fr L K=StepK P E X (Zf fr L (.bin _b _x _y)) d is fr L K:=by rw [ops_op rfl];exact StepK_eq rfl
theorem g_bin {d:Option Nat} {is:List IOper} {s:Nat} {want:Bool} {_b} {_x} {_y}:awpOps P E X (⟨d,.bin _b _x _y,some (s,want)⟩ :: is) fr L K=GdK P E X true (Zh fr s want) (Zf fr L (.bin _b _x _y)) d is fr L K:=ops_gd rfl
theorem o_bnb {d:Option Nat} {is:List IOper} {_b} {_x} {_y}:awpOps P E X (⟨d,.bnb _b _x _y,none⟩ :: is) fr L K=StepK P E X (Zf fr L (.bnb _b _x _y)) d is fr L K:=by rw [ops_op rfl];exact StepK_eq rfl
theorem g_bnb {d:Option Nat} {is:List IOper} {s:Nat} {want:Bool} {_b} {_x} {_y}:awpOps P E X (⟨d,.bnb _b _x _y,some (s,want)⟩ :: is) fr L K=GdK P E X true (Zh fr s want) (Zf fr L (.bnb _b _x _y)) d is fr L K:=ops_gd rfl
theorem o_eqa {d:Option Nat} {is:List IOper} {_n} {_k} {_x} {_y}:awpOps P E X (⟨d,.eqa _n _k _x _y,none⟩ :: is) fr L K=StepK P E X (Zf fr L (.eqa _n _k _x _y)) d is fr L K:=by rw [ops_op rfl];exact StepK_eq rfl
theorem g_eqa {d:Option Nat} {is:List IOper} {s:Nat} {want:Bool} {_n} {_k} {_x} {_y}:awpOps P E X (⟨d,.eqa _n _k _x _y,some (s,want)⟩ :: is) fr L K=GdK P E X true (Zh fr s want) (Zf fr L (.eqa _n _k _x _y)) d is fr L K:=ops_gd rfl
theorem o_not {d:Option Nat} {is:List IOper} {_x}:awpOps P E X (⟨d,.not _x,none⟩ :: is) fr L K=StepK P E X (Zf fr L (.not _x)) d is fr L K:=by rw [ops_op rfl];exact StepK_eq rfl
theorem g_not {d:Option Nat} {is:List IOper} {s:Nat} {want:Bool} {_x}:awpOps P E X (⟨d,.not _x,some (s,want)⟩ :: is) fr L K=GdK P E X true (Zh fr s want) (Zf fr L (.not _x)) d is fr L K:=ops_gd rfl
theorem o_neg {d:Option Nat} {is:List IOper} {_x}:awpOps P E X (⟨d,.neg _x,none⟩ :: is) fr L K=StepK P E X (Zf fr L (.neg _x)) d is fr L K:=by rw [ops_op rfl];exact StepK_eq rfl
theorem g_neg {d:Option Nat} {is:List IOper} {s:Nat} {want:Bool} {_x}:awpOps P E X (⟨d,.neg _x,some (s,want)⟩ :: is) fr L K=GdK P E X true (Zh fr s want) (Zf fr L (.neg _x)) d is fr L K:=ops_gd rfl
theorem o_len {d:Option Nat} {is:List IOper} {_x}:awpOps P E X (⟨d,.len _x,none⟩ :: is) fr L K=StepK P E X (Zf fr L (.len _x)) d is fr L K:=by rw [ops_op rfl];exact StepK_eq rfl
theorem g_len {d:Option Nat} {is:List IOper} {s:Nat} {want:Bool} {_x}:awpOps P E X (⟨d,.len _x,some (s,want)⟩ :: is) fr L K=GdK P E X true (Zh fr s want) (Zf fr L (.len _x)) d is fr L K:=ops_gd rfl
theorem o_sln {d:Option Nat} {is:List IOper} {_x}:awpOps P E X (⟨d,.sln _x,none⟩ :: is) fr L K=StepK P E X (Zf fr L (.sln _x)) d is fr L K:=by rw [ops_op rfl];exact StepK_eq rfl
theorem g_sln {d:Option Nat} {is:List IOper} {s:Nat} {want:Bool} {_x}:awpOps P E X (⟨d,.sln _x,some (s,want)⟩ :: is) fr L K=GdK P E X true (Zh fr s want) (Zf fr L (.sln _x)) d is fr L K:=ops_gd rfl
theorem o_mx {d:Option Nat} {is:List IOper} {_x} {_y}:awpOps P E X (⟨d,.mx _x _y,none⟩ :: is) fr L K=StepK P E X (Zf fr L (.mx _x _y)) d is fr L K:=by rw [ops_op rfl];exact StepK_eq rfl
theorem g_mx {d:Option Nat} {is:List IOper} {s:Nat} {want:Bool} {_x} {_y}:awpOps P E X (⟨d,.mx _x _y,some (s,want)⟩ :: is) fr L K=GdK P E X true (Zh fr s want) (Zf fr L (.mx _x _y)) d is fr L K:=ops_gd rfl
theorem o_mn {d:Option Nat} {is:List IOper} {_x} {_y}:awpOps P E X (⟨d,.mn _x _y,none⟩ :: is) fr L K=StepK P E X (Zf fr L (.mn _x _y)) d is fr L K:=by rw [ops_op rfl];exact StepK_eq rfl
theorem g_mn {d:Option Nat} {is:List IOper} {s:Nat} {want:Bool} {_x} {_y}:awpOps P E X (⟨d,.mn _x _y,some (s,want)⟩ :: is) fr L K=GdK P E X true (Zh fr s want) (Zf fr L (.mn _x _y)) d is fr L K:=ops_gd rfl
theorem o_idx {d:Option Nat} {is:List IOper} {_x} {_y}:awpOps P E X (⟨d,.idx _x _y,none⟩ :: is) fr L K=StepK P E X (Zf fr L (.idx _x _y)) d is fr L K:=by rw [ops_op rfl];exact StepK_eq rfl
theorem g_idx {d:Option Nat} {is:List IOper} {s:Nat} {want:Bool} {_x} {_y}:awpOps P E X (⟨d,.idx _x _y,some (s,want)⟩ :: is) fr L K=GdK P E X true (Zh fr s want) (Zf fr L (.idx _x _y)) d is fr L K:=ops_gd rfl
theorem o_ssl {d:Option Nat} {is:List IOper} {_x} {_l} {_h}:awpOps P E X (⟨d,.ssl _x _l _h,none⟩ :: is) fr L K=StepK P E X (Zf fr L (.ssl _x _l _h)) d is fr L K:=by rw [ops_op rfl];exact StepK_eq rfl
theorem g_ssl {d:Option Nat} {is:List IOper} {s:Nat} {want:Bool} {_x} {_l} {_h}:awpOps P E X (⟨d,.ssl _x _l _h,some (s,want)⟩ :: is) fr L K=GdK P E X true (Zh fr s want) (Zf fr L (.ssl _x _l _h)) d is fr L K:=ops_gd rfl
theorem o_vsl {d:Option Nat} {is:List IOper} {_z} {_x} {_l} {_h}:awpOps P E X (⟨d,.vsl _z _x _l _h,none⟩ :: is) fr L K=StepK P E X (Zf fr L (.vsl _z _x _l _h)) d is fr L K:=by rw [ops_op rfl];exact StepK_eq rfl
theorem g_vsl {d:Option Nat} {is:List IOper} {s:Nat} {want:Bool} {_z} {_x} {_l} {_h}:awpOps P E X (⟨d,.vsl _z _x _l _h,some (s,want)⟩ :: is) fr L K=GdK P E X true (Zh fr s want) (Zf fr L (.vsl _z _x _l _h)) d is fr L K:=ops_gd rfl
theorem o_ixa {d:Option Nat} {is:List IOper} {_z} {_x} {_y}:awpOps P E X (⟨d,.ixa _z _x _y,none⟩ :: is) fr L K=StepK P E X (Zf fr L (.ixa _z _x _y)) d is fr L K:=by rw [ops_op rfl];exact StepK_eq rfl
theorem g_ixa {d:Option Nat} {is:List IOper} {s:Nat} {want:Bool} {_z} {_x} {_y}:awpOps P E X (⟨d,.ixa _z _x _y,some (s,want)⟩ :: is) fr L K=GdK P E X true (Zh fr s want) (Zf fr L (.ixa _z _x _y)) d is fr L K:=ops_gd rfl
theorem o_fla {d:Option Nat} {is:List IOper} {_o} {_x}:awpOps P E X (⟨d,.fla _o _x,none⟩ :: is) fr L K=StepK P E X (Zf fr L (.fla _o _x)) d is fr L K:=by rw [ops_op rfl];exact StepK_eq rfl
theorem g_fla {d:Option Nat} {is:List IOper} {s:Nat} {want:Bool} {_o} {_x}:awpOps P E X (⟨d,.fla _o _x,some (s,want)⟩ :: is) fr L K=GdK P E X true (Zh fr s want) (Zf fr L (.fla _o _x)) d is fr L K:=ops_gd rfl
theorem o_fld {d:Option Nat} {is:List IOper} {_o} {_s} {_a} {_x}:awpOps P E X (⟨d,.fld _o _s _a _x,none⟩ :: is) fr L K=StepK P E X (Zf fr L (.fld _o _s _a _x)) d is fr L K:=by rw [ops_op rfl];exact StepK_eq rfl
theorem g_fld {d:Option Nat} {is:List IOper} {s:Nat} {want:Bool} {_o} {_s} {_a} {_x}:awpOps P E X (⟨d,.fld _o _s _a _x,some (s,want)⟩ :: is) fr L K=GdK P E X true (Zh fr s want) (Zf fr L (.fld _o _s _a _x)) d is fr L K:=ops_gd rfl
theorem o_ld {d:Option Nat} {is:List IOper} {_s} {_a} {_x}:awpOps P E X (⟨d,.ld _s _a _x,none⟩ :: is) fr L K=StepK P E X (Zf fr L (.ld _s _a _x)) d is fr L K:=by rw [ops_op rfl];exact StepK_eq rfl
theorem g_ld {d:Option Nat} {is:List IOper} {s:Nat} {want:Bool} {_s} {_a} {_x}:awpOps P E X (⟨d,.ld _s _a _x,some (s,want)⟩ :: is) fr L K=GdK P E X true (Zh fr s want) (Zf fr L (.ld _s _a _x)) d is fr L K:=ops_gd rfl
theorem o_ldl {d:Option Nat} {is:List IOper} {_s} {_a} {_x}:awpOps P E X (⟨d,.ldl _s _a _x,none⟩ :: is) fr L K=StepK P E X (Zf fr L (.ldl _s _a _x)) d is fr L K:=by rw [ops_op rfl];exact StepK_eq rfl
theorem g_ldl {d:Option Nat} {is:List IOper} {s:Nat} {want:Bool} {_s} {_a} {_x}:awpOps P E X (⟨d,.ldl _s _a _x,some (s,want)⟩ :: is) fr L K=GdK P E X false (Zh fr s want) (Zf fr L (.ldl _s _a _x)) d is fr L K:=ops_gd rfl
theorem o_ext {d:Option Nat} {is:List IOper} {_i} {_x}:awpOps P E X (⟨d,.ext _i _x,none⟩ :: is) fr L K=StepK P E X (Zf fr L (.ext _i _x)) d is fr L K:=by rw [ops_op rfl];exact StepK_eq rfl
theorem g_ext {d:Option Nat} {is:List IOper} {s:Nat} {want:Bool} {_i} {_x}:awpOps P E X (⟨d,.ext _i _x,some (s,want)⟩ :: is) fr L K=GdK P E X true (Zh fr s want) (Zf fr L (.ext _i _x)) d is fr L K:=ops_gd rfl
theorem o_bld {d:Option Nat} {is:List IOper} {_z} {_p}:awpOps P E X (⟨d,.bld _z _p,none⟩ :: is) fr L K=StepK P E X (Zf fr L (.bld _z _p)) d is fr L K:=by rw [ops_op rfl];exact StepK_eq rfl
theorem g_bld {d:Option Nat} {is:List IOper} {s:Nat} {want:Bool} {_z} {_p}:awpOps P E X (⟨d,.bld _z _p,some (s,want)⟩ :: is) fr L K=GdK P E X true (Zh fr s want) (Zf fr L (.bld _z _p)) d is fr L K:=ops_gd rfl
theorem o_cvi {d:Option Nat} {is:List IOper} {_k} {_x}:awpOps P E X (⟨d,.cvi _k _x,none⟩ :: is) fr L K=StepK P E X (Zf fr L (.cvi _k _x)) d is fr L K:=by rw [ops_op rfl];exact StepK_eq rfl
theorem g_cvi {d:Option Nat} {is:List IOper} {s:Nat} {want:Bool} {_k} {_x}:awpOps P E X (⟨d,.cvi _k _x,some (s,want)⟩ :: is) fr L K=GdK P E X true (Zh fr s want) (Zf fr L (.cvi _k _x)) d is fr L K:=ops_gd rfl
theorem o_cvs {d:Option Nat} {is:List IOper} {_x}:awpOps P E X (⟨d,.cvs _x,none⟩ :: is) fr L K=StepK P E X (Zf fr L (.cvs _x)) d is fr L K:=by rw [ops_op rfl];exact StepK_eq rfl
theorem g_cvs {d:Option Nat} {is:List IOper} {s:Nat} {want:Bool} {_x}:awpOps P E X (⟨d,.cvs _x,some (s,want)⟩ :: is) fr L K=GdK P E X true (Zh fr s want) (Zf fr L (.cvs _x)) d is fr L K:=ops_gd rfl
theorem o_b2s {d:Option Nat} {is:List IOper} {_x}:awpOps P E X (⟨d,.b2s _x,none⟩ :: is) fr L K=StepK P E X (Zf fr L (.b2s _x)) d is fr L K:=by rw [ops_op rfl];exact StepK_eq rfl
theorem g_b2s {d:Option Nat} {is:List IOper} {s:Nat} {want:Bool} {_x}:awpOps P E X (⟨d,.b2s _x,some (s,want)⟩ :: is) fr L K=GdK P E X true (Zh fr s want) (Zf fr L (.b2s _x)) d is fr L K:=ops_gd rfl
theorem o_bsl {d:Option Nat} {is:List IOper} {_z} {_p}:awpOps P E X (⟨d,.bsl _z _p,none⟩ :: is) fr L K=StepK P E X (Zf fr L (.bsl _z _p)) d is fr L K:=by rw [ops_op rfl];exact StepK_eq rfl
theorem g_bsl {d:Option Nat} {is:List IOper} {s:Nat} {want:Bool} {_z} {_p}:awpOps P E X (⟨d,.bsl _z _p,some (s,want)⟩ :: is) fr L K=GdK P E X true (Zh fr s want) (Zf fr L (.bsl _z _p)) d is fr L K:=ops_gd rfl
theorem o_nck {d:Option Nat} {is:List IOper} {_x}:awpOps P E X (⟨d,.nck _x,none⟩ :: is) fr L K=StepK P E X (Zf fr L (.nck _x)) d is fr L K:=by rw [ops_op rfl];exact StepK_eq rfl
theorem g_nck {d:Option Nat} {is:List IOper} {s:Nat} {want:Bool} {_x}:awpOps P E X (⟨d,.nck _x,some (s,want)⟩ :: is) fr L K=GdK P E X true (Zh fr s want) (Zf fr L (.nck _x)) d is fr L K:=ops_gd rfl
theorem o_nli {d:Option Nat} {is:List IOper} {_n} {_x}:awpOps P E X (⟨d,.nli _n _x,none⟩ :: is) fr L K=StepK P E X (Zf fr L (.nli _n _x)) d is fr L K:=by rw [ops_op rfl];exact StepK_eq rfl
theorem g_nli {d:Option Nat} {is:List IOper} {s:Nat} {want:Bool} {_n} {_x}:awpOps P E X (⟨d,.nli _n _x,some (s,want)⟩ :: is) fr L K=GdK P E X true (Zh fr s want) (Zf fr L (.nli _n _x)) d is fr L K:=ops_gd rfl
theorem o_mkf {d:Option Nat} {is:List IOper} {_f} {_c}:awpOps P E X (⟨d,.mkf _f _c,none⟩ :: is) fr L K=StepK P E X (Zf fr L (.mkf _f _c)) d is fr L K:=by rw [ops_op rfl];exact StepK_eq rfl
theorem g_mkf {d:Option Nat} {is:List IOper} {s:Nat} {want:Bool} {_f} {_c}:awpOps P E X (⟨d,.mkf _f _c,some (s,want)⟩ :: is) fr L K=GdK P E X true (Zh fr s want) (Zf fr L (.mkf _f _c)) d is fr L K:=ops_gd rfl
theorem o_cap0 {d:Option Nat} {is:List IOper} {_x}:awpOps P E X (⟨d,.cap0 _x,none⟩ :: is) fr L K=StepK P E X (Zf fr L (.cap0 _x)) d is fr L K:=by rw [ops_op rfl];exact StepK_eq rfl
theorem g_cap0 {d:Option Nat} {is:List IOper} {s:Nat} {want:Bool} {_x}:awpOps P E X (⟨d,.cap0 _x,some (s,want)⟩ :: is) fr L K=GdK P E X true (Zh fr s want) (Zf fr L (.cap0 _x)) d is fr L K:=ops_gd rfl
theorem o_vsn {d:Option Nat} {is:List IOper} {_x} {_h}:awpOps P E X (⟨d,.vsn _x _h,none⟩ :: is) fr L K=StepK P E X (Zf fr L (.vsn _x _h)) d is fr L K:=by rw [ops_op rfl];exact StepK_eq rfl
theorem g_vsn {d:Option Nat} {is:List IOper} {s:Nat} {want:Bool} {_x} {_h}:awpOps P E X (⟨d,.vsn _x _h,some (s,want)⟩ :: is) fr L K=GdK P E X true (Zh fr s want) (Zf fr L (.vsn _x _h)) d is fr L K:=ops_gd rfl
theorem o_mpl {d:Option Nat} {is:List IOper} {_o} {_z} {_x} {_h}:awpOps P E X (⟨d,.mpl _o _z _x _h,none⟩ :: is) fr L K=StepK P E X (Zf fr L (.mpl _o _z _x _h)) d is fr L K:=by rw [ops_op rfl];exact StepK_eq rfl
theorem g_mpl {d:Option Nat} {is:List IOper} {s:Nat} {want:Bool} {_o} {_z} {_x} {_h}:awpOps P E X (⟨d,.mpl _o _z _x _h,some (s,want)⟩ :: is) fr L K=GdK P E X true (Zh fr s want) (Zf fr L (.mpl _o _z _x _h)) d is fr L K:=ops_gd rfl
theorem o_mpn {d:Option Nat} {is:List IOper} {_x}:awpOps P E X (⟨d,.mpn _x,none⟩ :: is) fr L K=StepK P E X (Zf fr L (.mpn _x)) d is fr L K:=by rw [ops_op rfl];exact StepK_eq rfl
theorem g_mpn {d:Option Nat} {is:List IOper} {s:Nat} {want:Bool} {_x}:awpOps P E X (⟨d,.mpn _x,some (s,want)⟩ :: is) fr L K=GdK P E X true (Zh fr s want) (Zf fr L (.mpn _x)) d is fr L K:=ops_gd rfl
theorem o_bldg {d:Option Nat} {is:List IOper} {_z} {_p}:awpOps P E X (⟨d,.bldg _z _p,none⟩ :: is) fr L K=StepK P E X (Zf fr L (.bldg _z _p)) d is fr L K:=by rw [ops_op rfl];exact StepK_eq rfl
theorem g_bldg {d:Option Nat} {is:List IOper} {s:Nat} {want:Bool} {_z} {_p}:awpOps P E X (⟨d,.bldg _z _p,some (s,want)⟩ :: is) fr L K=GdK P E X true (Zh fr s want) (Zf fr L (.bldg _z _p)) d is fr L K:=ops_gd rfl
theorem o_ldg {d:Option Nat} {is:List IOper} {_s} {_x}:awpOps P E X (⟨d,.ldg _s _x,none⟩ :: is) fr L K=StepK P E X (Zf fr L (.ldg _s _x)) d is fr L K:=by rw [ops_op rfl];exact StepK_eq rfl
theorem g_ldg {d:Option Nat} {is:List IOper} {s:Nat} {want:Bool} {_s} {_x}:awpOps P E X (⟨d,.ldg _s _x,some (s,want)⟩ :: is) fr L K=GdK P E X true (Zh fr s want) (Zf fr L (.ldg _s _x)) d is fr L K:=ops_gd rfl
theorem o_stg {d:Option Nat} {is:List IOper} {_s} {_p} {_x}:awpOps P E X (⟨d,.stg _s _p _x,none⟩ :: is) fr L K=OpsK P E X (Ze d fr L (.stg _s _p _x)) is K:=ops_op rfl
theorem o_alcd {d:Option Nat} {is:List IOper} {_t} {_z}:awpOps P E X (⟨d,.alcd _t _z,none⟩ :: is) fr L K=OpsK P E X (Ze d fr L (.alcd _t _z)) is K:=ops_op rfl
theorem o_bsrd {d:Option Nat} {is:List IOper} {_e} {_z} {_p}:awpOps P E X (⟨d,.bsrd _e _z _p,none⟩ :: is) fr L K=OpsK P E X (Ze d fr L (.bsrd _e _z _p)) is K:=ops_op rfl
def IsnK (P:Program) (E:Envt) (X:List PV) (c:Prop) (q:Option (Nat×List (List PV))) (d:Option Nat) (is:List IOper) (fr:List AV) (L:Objs) (K:List AV→Objs→Prop):Prop:=
 match q with
 |some (_,es)=>c∧∀ b:Bool,(b=true→es=[])→awpOps P E X is (Zg fr d (.p (.bool b))) L K
 |none=>False
theorem IsnK_some {c:Prop} {z:Nat} {es:List (List PV)} {d:Option Nat} {is:List IOper}:IsnK P E X c (some (z,es)) d is fr L K=(c∧∀ b:Bool,(b=true→es=[])→awpOps P E X is (Zg fr d (.p (.bool b))) L K):=rfl
theorem ops_isn {x:Opd} {d:Option Nat} {is:List IOper}:awpOps P E X (⟨d,.isn x,none⟩ :: is) fr L K=IsnK P E X (rd fr x).un.1 (Zw L (rd fr x).un.2) d is fr L K:=rfl
def NxtK (P:Program) (E:Envt) (X:List PV) (c:Prop) (q:Option (Key×List (List UInt8×PV))) (d:Option Nat) (is:List IOper) (fr:List AV) (L:Objs) (K:List AV→Objs→Prop):Prop:=
 match q with
 |some (k,kv)=>c∧(kv=[]→awpOps P E X is (Zg fr d (.p (.tup [.bool false]))) L K)∧∀ (i:Nat) (p:List UInt8×PV),kv[i]?=some p→awpOps P E X is (Zg fr d (.p (.tup [.bool true,.str p.1,p.2]))) (Zat L k (.mit (some p) (kv.eraseIdx i))) K
 |none=>False
theorem ops_nxt {x:Opd} {d:Option Nat} {is:List IOper}:awpOps P E X (⟨d,.nxt x,none⟩ :: is) fr L K=NxtK P E X (rd fr x).un.1 (Za fr L x) d is fr L K:=rfl
def ReC (P:Program) (E:Envt) (X:List PV) (is:List IOper) (fr:List AV) (L:Objs) (K:List AV→Objs→Prop):Prop:=∃ fr' L',ReOk E fr L fr' L'∧awpOps P E X is fr' L' K
theorem ops_re {is:List IOper}:awpOps P E X (⟨none,.re,none⟩ :: is) fr L K=ReC P E X is fr L K:=rfl
theorem ops_hole {x:Nat} {is:List IOper}:awpOps P E X (⟨none,.hole x,none⟩ :: is) fr L K=awpOps P E X is ((fr.map (·.kill (.l x))).set x .any) (Zav L (.l x) Zan) K:=rfl
theorem o_mkm {d:Option Nat} {is:List IOper} {_t} {_z}:awpOps P E X (⟨d,.mkm _t _z,none⟩ :: is) fr L K=OpsK P E X (Ze d fr L (.mkm _t _z)) is K:=ops_op rfl
theorem o_rng {d:Option Nat} {is:List IOper} {_x}:awpOps P E X (⟨d,.rng _x,none⟩ :: is) fr L K=OpsK P E X (Ze d fr L (.rng _x)) is K:=ops_op rfl
theorem o_ent {d:Option Nat} {is:List IOper} {_x}:awpOps P E X (⟨d,.ent _x,none⟩ :: is) fr L K=OpsK P E X (Ze d fr L (.ent _x)) is K:=ops_op rfl
theorem o_mpd {d:Option Nat} {is:List IOper} {_m} {_k}:awpOps P E X (⟨d,.mpd _m _k,none⟩ :: is) fr L K=OpsK P E X (Ze d fr L (.mpd _m _k)) is K:=ops_op rfl
theorem o_cpy {d:Option Nat} {is:List IOper} {_z} {_x} {_y}:awpOps P E X (⟨d,.cpy _z _x _y,none⟩ :: is) fr L K=OpsK P E X (Ze d fr L (.cpy _z _x _y)) is K:=ops_op rfl
theorem o_mpu {d:Option Nat} {is:List IOper} {_m} {_k} {_v}:awpOps P E X (⟨d,.mpu _m _k _v,none⟩ :: is) fr L K=OpsK P E X (Ze d fr L (.mpu _m _k _v)) is K:=ops_op rfl
theorem o_apz {d:Option Nat} {is:List IOper} {_e} {_z} {_b} {_o} {_x} {_y}:awpOps P E X (⟨d,.apz _e _z _b _o _x _y,none⟩ :: is) fr L K=OpsK P E X (Ze d fr L (.apz _e _z _b _o _x _y)) is K:=ops_op rfl
theorem o_trn {d:Option Nat} {is:List IOper} {_z} {_x} {_y}:awpOps P E X (⟨d,.trn _z _x _y,none⟩ :: is) fr L K=OpsK P E X (Ze d fr L (.trn _z _x _y)) is K:=ops_op rfl
theorem o_mks {d:Option Nat} {is:List IOper} {_e} {_z} {_b} {_o} {_x} {_y}:awpOps P E X (⟨d,.mks _e _z _b _o _x _y,none⟩ :: is) fr L K=OpsK P E X (Ze d fr L (.mks _e _z _b _o _x _y)) is K:=ops_op rfl
theorem o_nilr {d:Option Nat} {is:List IOper} {_e} {_z}:awpOps P E X (⟨d,.nilr _e _z,none⟩ :: is) fr L K=OpsK P E X (Ze d fr L (.nilr _e _z)) is K:=ops_op rfl
theorem o_alc {d:Option Nat} {is:List IOper} {_t} {_z}:awpOps P E X (⟨d,.alc _t _z,none⟩ :: is) fr L K=OpsK P E X (Ze d fr L (.alc _t _z)) is K:=ops_op rfl
theorem o_box {d:Option Nat} {is:List IOper} {_t} {_x}:awpOps P E X (⟨d,.box _t _x,none⟩ :: is) fr L K=OpsK P E X (Ze d fr L (.box _t _x)) is K:=ops_op rfl
theorem o_st {d:Option Nat} {is:List IOper} {_s} {_p} {_x}:awpOps P E X (⟨d,.st _s _p _x,none⟩ :: is) fr L K=OpsK P E X (Ze d fr L (.st _s _p _x)) is K:=ops_op rfl
theorem o_app {d:Option Nat} {is:List IOper} {_e} {_z} {_b} {_x} {_y}:awpOps P E X (⟨d,.app _e _z _b _x _y,none⟩ :: is) fr L K=OpsK P E X (Ze d fr L (.app _e _z _b _x _y)) is K:=ops_op rfl
theorem o_bsr {d:Option Nat} {is:List IOper} {_e} {_z} {_p}:awpOps P E X (⟨d,.bsr _e _z _p,none⟩ :: is) fr L K=OpsK P E X (Ze d fr L (.bsr _e _z _p)) is K:=ops_op rfl
theorem o_s2b {d:Option Nat} {is:List IOper} {_e} {_x}:awpOps P E X (⟨d,.s2b _e _x,none⟩ :: is) fr L K=OpsK P E X (Ze d fr L (.s2b _e _x)) is K:=ops_op rfl
theorem ops_call {d:Option Nat} {f:FuncId} {args:List Opd} {is:List IOper}:awpOps P E X (⟨d,.call f args,none⟩ :: is) fr L K=(Zm fr args∧CallOp P E f (Zn fr args) L d fr (contO P E X is K)):=rfl
def FnK (P:Program) (E:Envt) (X:List PV) (o:Option (FuncId×List AV)) (c:Prop) (d:Option Nat) (args:List Opd) (is:List IOper) (fr:List AV) (L:Objs) (K:List AV→Objs→Prop):Prop:=
 match o with
 |some (f,ks)=>c∧fnB P f=true∧Zl L ks=true∧Zm fr args∧CallOp P E f (Zn fr args++ks) L d fr (contO P E X is K)
 |none=>False
theorem FnK_some {f:FuncId} {ks:List AV} {c:Prop} {d:Option Nat} {args:List Opd} {is:List IOper}:FnK P E X (some (f,ks)) c d args is fr L K=(c∧fnB P f=true∧Zl L ks=true∧Zm fr args∧CallOp P E f (Zn fr args++ks) L d fr (contO P E X is K)):=rfl
theorem ops_callv {d:Option Nat} {g:Opd} {args:List Opd} {is:List IOper}:awpOps P E X (⟨d,.callv g args,none⟩ :: is) fr L K=FnK P E X (Zar fr g) (rd fr g).un.1 d args is fr L K:=by
 cases h:Zar fr g with
 |none=>simp only [awpOps,FnK,h]
 |some q=>obtain ⟨f,ks⟩:=q;simp only [awpOps,FnK,h];rfl
def FnG (P:Program) (E:Envt) (X:List PV) (o:Option (FuncId×List AV)) (c0:Bool) (c:Prop) (d:Option Nat) (args:List Opd) (is:List IOper) (fr:List AV) (L:Objs) (K:List AV→Objs→Prop):Prop:=
 match o with
 |some (f,ks)=>(fnB P f=true∧Zl L ks=true)∧(c0=true→c∧Zm fr args)∧CallG c0 P E f (Zn fr args++ks) L d fr (contO P E X is K)
 |none=>c0=false∧awpOps P E X is (Zg fr d (.g c0 .any)) L K
theorem FnG_some {f:FuncId} {ks:List AV} {c0:Bool} {c:Prop} {d:Option Nat} {args:List Opd} {is:List IOper}:FnG P E X (some (f,ks)) c0 c d args is fr L K=((fnB P f=true∧Zl L ks=true)∧(c0=true→c∧Zm fr args)∧CallG c0 P E f (Zn fr args++ks) L d fr (contO P E X is K)):=rfl
theorem ops_callvg {d:Option Nat} {g:Opd} {args:List Opd} {is:List IOper} {s:Nat} {want:Bool}:awpOps P E X (⟨d,.callv g args,some (s,want)⟩ :: is) fr L K=(match Zh fr s want with|some c0=>FnG P E X (Zar fr g) c0 (rd fr g).un.1 d args is fr L K|none=>False):=by
 simp only [awpOps]
 cases Zh fr s want with
 |none=>rfl
 |some c0=>cases h:Zar fr g with
  |none=>rfl
  |some q=>obtain ⟨f,ks⟩:=q;rfl
theorem ops_dcall {b:Bool} {d:Option Nat} {f:FuncId} {args:List Opd} {is:List IOper}:awpOps P E X (⟨d,.dcall b f args,none⟩ :: is) fr L K=(Zm fr args∧DCallOp b P E f (Zn fr args) L d fr (contO P E X is K)):=rfl
def PcK (P:Program) (E:Envt) (f:FuncId) (as:List AV) (L:Objs) (x:PV):Prop:=PureC P E f as L (·=x)
def FclK (P:Program) (E:Envt) (X:List PV) (f:FuncId) (e z:Nat) (K:List AV→Objs→Prop) (is:List IOper) (fr:List AV) (L:Objs) (d:Nat) (c:Prop):Option (List PV)→PV→Prop
 |some ps,.sl z' es=>((Zam d fr L∧Zas L (.l d)=some Zan)∧c∧z'=z∧FrC P E f ps e z es)∧awpOps P E X is (fr.set d (.row (.l d))) (Zat L (.l d) (.row es e z true)) K
 |_,_=>False
theorem ops_fcl {d:Nat} {n:Nat} {f:FuncId} {args:List Opd} {e z:Nat} {is:List IOper}:awpOps P E X (⟨some d,.fcl n f args e z,none⟩ :: is) fr L K=FclK P E X f e z K is fr L d (Zm fr args) (argP0 (Zn fr args)) (X.getD n (.bool false)):=by
 simp only [awpOps]
 unfold FclK
 cases argP0 (Zn fr args) with
 |none=>rfl
 |some ps=>cases X.getD n (.bool false)<;>rfl
theorem argP0_nil:argP0 []=some []:=rfl
theorem argP0_p {x:PV} {r:List AV}:argP0 (.p x :: r)=(argP0 r).map (x :: ·):=rfl
theorem FclK_some {f:FuncId} {e z z':Nat} {is:List IOper} {d:Nat} {c:Prop} {ps:List PV} {es:List (List PV)}:FclK P E X f e z K is fr L d c (some ps) (.sl z' es)=(((Zam d fr L∧Zas L (.l d)=some Zan)∧c∧z'=z∧FrC P E f ps e z es)∧awpOps P E X is (fr.set d (.row (.l d))) (Zat L (.l d) (.row es e z true)) K):=rfl
theorem ops_pcall {d:Option Nat} {n:Nat} {f:FuncId} {args:List Opd} {is:List IOper}:awpOps P E X (⟨d,.pcall n f args,none⟩ :: is) fr L K=((Zm fr args∧PcK P E f (Zn fr args) L (X.getD n (.bool false)))∧awpOps P E X is (Zg fr d (.p (X.getD n (.bool false)))) L K):=rfl
theorem ops_pcallg {d:Option Nat} {n:Nat} {f:FuncId} {args:List Opd} {is:List IOper} {s:Nat} {want:Bool}:awpOps P E X (⟨d,.pcall n f args,some (s,want)⟩ :: is) fr L K=(match Zh fr s want with|some c0=>(c0=true→Zm fr args∧PcK P E f (Zn fr args) L (X.getD n (.bool false)))∧awpOps P E X is (Zg fr d (.g c0 (.p (X.getD n (.bool false))))) L K|none=>False):=rfl
def PvK (P:Program) (E:Envt) (X:List PV) (o:Option (FuncId×List AV)) (c:Prop) (n:Nat) (d:Option Nat) (args:List Opd) (is:List IOper) (fr:List AV) (L:Objs) (K:List AV→Objs→Prop):Prop:=
 match o with
 |some (f,ks)=>(c∧fnB P f=true∧Zl L ks=true∧Zm fr args∧PcK P E f (Zn fr args++ks) L (X.getD n (.bool false)))∧awpOps P E X is (Zg fr d (.p (X.getD n (.bool false)))) L K
 |none=>False
theorem ops_pvks {f:FuncId} {ks:List AV} {c:Prop} {n:Nat} {d:Option Nat} {args:List Opd} {is:List IOper}:PvK P E X (some (f,ks)) c n d args is fr L K=((c∧fnB P f=true∧Zl L ks=true∧Zm fr args∧PcK P E f (Zn fr args++ks) L (X.getD n (.bool false)))∧awpOps P E X is (Zg fr d (.p (X.getD n (.bool false)))) L K):=rfl
theorem ops_pcv {d:Option Nat} {n:Nat} {g:Opd} {args:List Opd} {is:List IOper}:awpOps P E X (⟨d,.pcv n g args,none⟩ :: is) fr L K=PvK P E X (Zar fr g) (rd fr g).un.1 n d args is fr L K:=by
 cases h:Zar fr g with
 |none=>simp only [awpOps,PvK,h]
 |some q=>obtain ⟨f,ks⟩:=q;simp only [awpOps,PvK,h];rfl
theorem ops_callg {d:Option Nat} {f:FuncId} {args:List Opd} {is:List IOper} {s:Nat} {want:Bool}:awpOps P E X (⟨d,.call f args,some (s,want)⟩ :: is) fr L K=(match Zh fr s want with|some c0=>(c0=true→Zm fr args)∧CallG c0 P E f (Zn fr args) L d fr (contO P E X is K)|none=>False):=rfl
def FzK (P:Program) (E:Envt) (X:List PV) (q:Option (Key×PV)) (is:List IOper) (fr:List AV) (L:Objs) (K:List AV→Objs→Prop):Prop:=
 match q with
 |some (k,y)=>awpOps P E X is (fr.map (·.thaw k y)) (Zaw k y L) K
 |none=>awpOps P E X is fr L K
theorem FzK_some {k:Key} {y:PV} {is:List IOper}:FzK P E X (some (k,y)) is fr L K=awpOps P E X is (fr.map (·.thaw k y)) (Zaw k y L) K:=rfl
theorem FzK_none {is:List IOper}:FzK P E X none is fr L K=awpOps P E X is fr L K:=rfl
theorem ops_fz {x:Opd} {is:List IOper}:awpOps P E X (⟨none,.fz x,none⟩ :: is) fr L K=FzK P E X (Zaq fr L x) is fr L K:=rfl
def Zj (L:Objs) (k:Key):Option (List PV):=
 match Zas L k with
 |some (.box cs _)=>Zx cs
 |_=>none
def Zk (L:Objs):List Key→Option (List PV)
 |[]=>some []
 |k :: r=>match Zj L k,Zk L r with
  |some cs,some l=>some (.ptr cs :: l)
  |_,_=>none
def Zbi (L:Objs):AV→Option PV
 |.p x=>some (wk x)
 |.row k=>match Zas L k with
  |some (.row es _ z _)=>some (.sl z es)
  |_=>none
 |.mp k=>match Zas L k with
  |some (.map kv _ _)=>some (.mpv (kv.map (·.1)) (kv.map (·.2)))
  |_=>none
 |.fn f ks=>(Zk L ks).map (.clo f)
 |.adr k o=>if o=0 then (Zj L k).map .ptr else none
 |_=>none
def Zbh (L:Objs):List AV→Option (List PV)
 |[]=>some []
 |x :: r=>match Zbi L x,Zbh L r with
  |some y,some l=>some (y :: l)
  |_,_=>none
def Zbj:List AV→Bool
 |[]=>true
 |.row _ :: _=>false
 |.mp _ :: _=>false
 |.adr _ _ :: _=>false
 |.fn _ ks :: r=>ks.isEmpty && Zbj r
 |_ :: r=>Zbj r
def Zbk:PV→Bool
 |.int ..|.bool ..|.str ..=>true
 |.agg cs=>cs.all fun|.int ..|.bool ..|.str ..=>true|_=>false
 |.tup cs=>cs.all fun|.int ..|.bool ..|.str ..=>true|_=>false
 |_=>false
theorem bool_beq_true (b:Bool):(b == true)=b:=by cases b<;>rfl
theorem bool_beq_false (b:Bool):(b == false)=!b:=by cases b<;>rfl
theorem PRep.flat {w:World} {U U':Nat→Prop} {x:PV} {v:Value} (hf:Zbk x=true) (h:PRep w U x v):PRep w U' x v:=by
 have one:∀ (y:PV) (u:Value),(match y with|.int ..|.bool ..|.str ..=>true|_=>false)=true→PRep w U y u→PRep w U' y u:=by
  intro y u hy hr
  cases y<;>simp_all [PRep]
 have lst:∀ (cs:List PV) (vs:List Value),(cs.all fun|.int ..|.bool ..|.str ..=>true|_=>false)=true→PRepL w U cs vs→PRepL w U' cs vs:=by
  intro cs
  induction cs with
  |nil=>intro vs _ h;exact h
  |cons c cs ih=>
   intro vs hc hr
   simp only [List.all_cons,Bool.and_eq_true] at hc
   simp only [PRepL] at hr ⊢
   obtain ⟨v,r,rfl,h1,h2⟩:=hr
   exact ⟨v,r,rfl,one c v hc.1 h1,ih r hc.2 h2⟩
 cases x with
 |agg cs=>simp only [Zbk] at hf;simp only [PRep] at h ⊢;obtain ⟨vs,e,hl⟩:=h;exact ⟨vs,e,lst cs vs hf hl⟩
 |tup cs=>simp only [Zbk] at hf;simp only [PRep] at h ⊢;obtain ⟨vs,e,hl⟩:=h;exact ⟨vs,e,lst cs vs hf hl⟩
 |int k n=>exact h
 |bool b=>exact h
 |str s=>exact h
 |raw v=>simp [Zbk] at hf
 |nl z=>simp [Zbk] at hf
 |sl z es=>simp [Zbk] at hf
 |ptr cs=>simp [Zbk] at hf
 |clo f ps=>simp [Zbk] at hf
 |mpv ks vs=>simp [Zbk] at hf
theorem fn_raw {w:World} {U U':Nat→Prop} {ι:Key→Value} {f:FuncId} {v:Value} (h:ARep w U ι (.fn f []) v):PRep w U' (.clo f []) v:=by
 exact ⟨[],by simpa [ARep] using h,by simp [PRepL]⟩
theorem allP_map {as:List AV} {l:List PV} (h:Zx as=some l):as=l.map .p:=by
 induction as generalizing l with
 |nil=>simp only [Zx,Option.some.injEq] at h;subst h;rfl
 |cons q as ih=>
  cases q with
  |p x=>
   simp only [Zx,Option.map_eq_some_iff] at h
   obtain ⟨m,h1,rfl⟩:=h
   rw [ih h1]
   rfl
  |_=>simp [Zx] at h
theorem boxP_rep {w:World} {B:Nat→Prop} {ι:Key→Value} (hs:Sim w B L ι) (hX:∀ b,B b→¬ Own L ι b) {k:Key} {cs:List PV} (h:Zj L k=some cs):PRep w B (.ptr cs) (ι k):=by
 have hk:=keeps_x w L ι B
 unfold Zj at h
 split at h
 ·rename_i as t hl
  have e:=allP_map h
  subst e
  obtain ⟨b,vs,e1,e2,e3,e4,e5⟩:=hs.obj k _ hl
  have hO:Own L ι b:=⟨k,_,hl,by rw [e1];rfl⟩
  have hr:PRepL w (fun b=>Own L ι b∨B b) cs vs:=PRepL.of_get (by simpa using e3) (fun j x u hx hu=>by
   obtain ⟨u',hu',hr'⟩:=e5 j (.p x) (by rw [List.getElem?_map,hx];rfl)
   rw [hu'] at hu
   cases hu
   exact hr')
  refine ⟨b,e1,sim_own_lt hs hO,fun hb=>hX b hb hO,PRepC.of (PRepL.mono hk _ _ hr) e4 (fun j v hv=>?_)⟩
  rw [Nat.zero_add,cell_of_row w b j _ t (0,0) e2]
  simpa using hv
 ·cases h
theorem capPs_rep {w:World} {B:Nat→Prop} {ι:Key→Value} (hs:Sim w B L ι) (hX:∀ b,B b→¬ Own L ι b):∀ {ks:List Key} {ps:List PV},Zk L ks=some ps→PRepL w B ps (ks.map ι):=by
 intro ks
 induction ks with
 |nil=>intro ps h;simp only [Zk,Option.some.injEq] at h;subst h;simp [PRepL]
 |cons k ks ih=>
  intro ps h
  simp only [Zk] at h
  split at h
  ·rename_i cs l e1 e2
   cases h
   exact ⟨_,_,rfl,boxP_rep hs hX e1,ih e2⟩
  ·cases h
theorem argPs_norow {w:World} {U:Nat→Prop} {ι:Key→Value}:∀ {as:List AV} {ps:List PV} {vs:List Value},Zbj as=true→Zbh L as=some ps→ARepL w U ι as vs→PRepL w U ps vs:=by
 intro as
 induction as with
 |nil=>intro ps vs _ h hr;simp only [Zbh,Option.some.injEq] at h;subst h;exact hr
 |cons a as ih=>
  intro ps vs hn h hr
  simp only [Zbh] at h
  split at h
  ·rename_i y l e1 e2
   cases h
   simp only [ARepL] at hr
   obtain ⟨v,r,rfl,h1,h2⟩:=hr
   simp only [PRepL]
   cases a with
   |p x=>simp only [Zbi,Option.some.injEq] at e1;subst e1;exact ⟨v,r,rfl,PRep.wk h1,ih (by simpa [Zbj] using hn) e2 h2⟩
   |row k=>simp [Zbj] at hn
   |mp k=>simp [Zbj] at hn
   |adr k o=>simp [Zbj] at hn
   |fn f ks=>
    cases ks with
    |nil=>simp only [Zbi,Zk,Option.map_some,Option.some.injEq] at e1;subst e1;exact ⟨v,r,rfl,fn_raw h1,ih (by simpa [Zbj] using hn) e2 h2⟩
    |cons k ks=>simp [Zbj] at hn
   |_=>simp [Zbi] at e1
  ·cases h
theorem argPs_rows {w:World} {B:Nat→Prop} {ι:Key→Value} (hs:Sim w B L ι) (hX:∀ b,B b→¬ Own L ι b):∀ {as:List AV} {ps:List PV} {vs:List Value},Zbh L as=some ps→ARepL w (fun b=>Own L ι b∨B b) ι as vs→PRepL w B ps vs:=by
 have hk:=keeps_x w L ι B
 intro as
 induction as with
 |nil=>intro ps vs h hr;simp only [Zbh,Option.some.injEq] at h;subst h;exact hr
 |cons a as ih=>
  intro ps vs h hr
  simp only [Zbh] at h
  split at h
  ·rename_i y l e1 e2
   cases h
   simp only [ARepL] at hr
   obtain ⟨v,r,rfl,h1,h2⟩:=hr
   simp only [PRepL]
   refine ⟨v,r,rfl,?_,ih e2 h2⟩
   cases a with
   |p x=>simp only [Zbi,Option.some.injEq] at e1;subst e1;exact (PRep.mono hk _ _ h1).wk
   |row k=>
    simp only [Zbi] at e1
    split at e1
    ·rename_i es e' z ap hl
     cases e1
     obtain ⟨vs',hrow,e4,e5,e6⟩:=hs.obj k _ hl
     rcases hrow.2 with ⟨g1,g2⟩|⟨g,cap,cur,fz,g1,_,g3,_⟩
     ·rw [h1.1,g1]
      exact ⟨none,0,by rw [g2],by omega,fun hne=>absurd (List.eq_nil_of_length_eq_zero g2) hne⟩
     ·rw [h1.1,g1]
      have hE:=row_cells hs hl g1
      have hO:Own L ι g:=⟨k,_,hl,by rw [g1];rfl⟩
      refine ⟨_,cap,rfl,g3,fun _=>⟨g,0,rfl,sim_own_lt hs hO,fun hx=>hX g hx hO,?_⟩⟩
      have key:∀ (es':List (List PV)) (off:Nat),PRepE w (fun b=>Own L ι b∨B b) g z off es'→PRepE w B g z off es':=by
       intro es'
       induction es' with
       |nil=>intro off _;simp [PRepE]
       |cons x r ih=>
        intro off hh
        simp only [PRepE] at hh ⊢
        refine ⟨hh.1,?_,ih _ hh.2.2⟩
        obtain ⟨us,a1,a2,a3⟩:=hh.2.1.vals
        exact PRepC.of (PRepL.mono hk _ _ a1) a2 a3
      exact key es 0 hE
    ·cases e1
   |mp k=>
    simp only [Zbi] at e1
    split at e1
    ·rename_i kv kt et hl
     cases e1
     obtain ⟨r,ents,cl,q1,q2,q3,q4⟩:=hs.obj k _ hl
     have hO:Own L ι r:=⟨k,_,hl,by rw [q1];rfl⟩
     rw [h1.1,q1]
     exact ⟨r,rfl,sim_own_lt hs hO,fun hx=>hX r hx hO,ents,cl,q2,⟨by rw [q3.1,List.map_map];rfl,q4⟩,PRepL.mono hk _ _ q3.2⟩
    ·cases e1
   |fn f ks=>
    simp only [Zbi,Option.map_eq_some_iff] at e1
    obtain ⟨ps',h3,rfl⟩:=e1
    exact ⟨ks.map ι,h1,capPs_rep hs hX h3⟩
   |adr k o=>
    simp only [Zbi] at e1
    split at e1
    ·rename_i ho
     subst ho
     simp only [Option.map_eq_some_iff] at e1
     obtain ⟨cs,h3,rfl⟩:=e1
     obtain ⟨b,e4,e5⟩:=h1
     rw [e5,← e4]
     exact boxP_rep hs hX h3
    ·cases e1
   |_=>simp [Zbi] at e1
  ·cases h
theorem pure_of {f:FuncId} {as:List AV} {ps:List PV} {φ:PV→Prop} (h:PCall P E f ps φ) (ha:Zbh L as=some ps) (hn:Zbj as=true∨∀ x,φ x→Zbk x=true):PureC P E f as L φ:=by
 intro w X ι vs hs hX hE hEb hA
 rcases hn with hn|hn
 ·exact h w (fun b=>Own L ι b∨X b) vs (fun b hb=>hb.elim (fun h=>sim_own_lt hs h) (fun h=>(hX b h).1)) hE (fun b hb=>(hEb b hb).1) (argPs_norow hn ha hA)
 ·refine (h w X vs (fun b hb=>(hX b hb).1) hE (fun b hb=>(hEb b hb).1) (argPs_rows hs (fun b hb=>(hX b hb).2) ha hA)).mono ?_
  rintro e w' ⟨v,x,rfl,hx,hr,hG⟩
  exact ⟨v,x,rfl,hx,hr.flat (hn x hx),hG⟩
theorem use {f:FuncId} {as:List AV} {ps:List PV} {φ:PV→Prop} {d:Option Nat} {is:List IOper} (h:PCall P E f ps φ) (ha:Zbh L as=some ps) (hn:Zbj as=true∨∀ x,φ x→Zbk x=true) (hk:∀ x,φ x→awpOps P E X is (Zg fr d (.p x)) L K):CallOp P E f as L d fr (contO P E X is K):=
 .inl ⟨φ,pure_of h ha hn,hk⟩
theorem use1 {f:FuncId} {as:List AV} {ps:List PV} {r:PV} {d:Option Nat} {is:List IOper} (h:PCall P E f ps (·=r)) (ha:Zbh L as=some ps) (hn:Zbj as=true∨Zbk r=true) (hk:awpOps P E X is (Zg fr d (.p r)) L K):CallOp P E f as L d fr (contO P E X is K):=
 .inl ⟨(·=r),pure_of h ha (hn.imp id (fun h x e=>by rw [e];exact h)),fun x e=>by rw [e];exact hk⟩
theorem useG {c0:Bool} {f:FuncId} {as:List AV} {ps:List PV} {r:PV} {d:Option Nat} {is:List IOper} (h:c0=true→PCall P E f ps (·=r)) (ha:Zbh L as=some ps) (hn:Zbj as=true∨Zbk r=true) (hk:awpOps P E X is (Zg fr d (.g c0 (.p r))) L K):CallG c0 P E f as L d fr (contO P E X is K):=
 .inl ⟨r,fun hc=>pure_of (h hc) ha (hn.imp id fun h x e=>by rw [e];exact h),hk⟩
theorem useGC {c0:Bool} {f:FuncId} {as:List AV} {d:Option Nat} {is:List IOper} (h:c0=true→CallOp P E f as L d fr (contO P E X is K)) (hk:c0=false→awpOps P E X is (Zg fr d (.g c0 .any)) L K):CallG c0 P E f as L d fr (contO P E X is K):=.inr ⟨h,hk⟩
theorem usep {f:FuncId} {as:List AV} {ps:List PV} {r:PV} (h:PCall P E f ps (·=r)) (ha:Zbh L as=some ps) (hn:Zbj as=true∨Zbk r=true):PcK P E f as L r:=
 pure_of h ha (hn.imp id (fun h x e=>by rw [e];exact h))
end
def GCall (P:Program) (E:Envt) (f:FuncId) (bx:Option OS) (args:List PV) (post:RV→OS→Prop):Prop:=
 ∀ (w:World) (U:Nat→Prop) (vs:List Value) (v0:Value),(∀ c,U c→c < w.heap.size)→E.ok w→(∀ c,E.bl c→c < w.heap.size∧(bx.isSome=true→blk v0≠some c))→PRepL w U args vs→
  (match bx with|none=>True|some os=>(∀ c,blk v0=some c→U c)∧ObjAt w U v0 os)→
  Calls P f ((match bx with|none=>vs|some _=>v0 :: vs)).toArray w fun e w'=>∃ v r os',e=.returned v∧post r os'∧RVok w' U w.heap.size r v∧
   (match bx with
    |none=>Grow w w' (fun _=>False)
    |some _=>Grow w w' (fun c=>blk v0=some c)∧ObjAt w' (fun c=>U c∨r.own v c) v0 os')
def noOS:OS:=.box 0 []
def finP (bx:Option OS) (post:RV→OS→Prop) (x:PV) (L:Objs):Prop:=
 match bx with
 |none=>post (.p x) noOS
 |some _=>∃ os',Zas L (.b 0)=some os'.ao∧post (.p x) os'
def finF (bx:Option OS) (post:RV→OS→Prop) (i:Nat) (fr:List AV) (L:Objs):Prop:=
 (∃ j es e z,fr.getD i .any=.row (.l j)∧Zas L (.l j)=some (.row es e z true)∧
  match bx with
  |none=>post (.fr es e z) noOS
  |some _=>∃ os',Zas L (.b 0)=some os'.ao∧post (.fr es e z) os')∨
 ∃ e z z0,fr.getD i .any=.p (.nl z0)∧
  match bx with
  |none=>post (.fr [] e z) noOS
  |some _=>∃ os',Zas L (.b 0)=some os'.ao∧post (.fr [] e z) os'
def retF (i:Nat) (bx:Option OS) (post:RV→OS→Prop):AQ
 |.normal,fr,L=>finF bx post i fr L
 |.ret,fr,L=>finF bx post i fr L
 |_,_,_=>False
theorem retF_r {i:Nat} {bx:Option OS} {post:RV→OS→Prop} {fr:List AV} {L:Objs}:retF i bx post .ret fr L=finF bx post i fr L:=rfl
theorem retF_n {i:Nat} {bx:Option OS} {post:RV→OS→Prop} {fr:List AV} {L:Objs}:retF i bx post .normal fr L=finF bx post i fr L:=rfl
def l0 (bx:Option OS):Objs:=
 match bx with
 |none=>[]
 |some os=>[(.b 0,os.ao)]
def a0 (bx:Option OS) (args:List PV):List AV:=
 match bx with
 |none=>args.map .p
 |some (.box _ _)=>.adr (.b 0) 0 :: args.map .p
 |some (.row _ _ _)=>.row (.b 0) :: args.map .p
section
variable {P:Program} {E:Envt}
theorem gcall_of_awp (hm:P.follows .mixedOrders=true) {f:FuncId} {fn:Func} {c:Code} {ic:IC} {bx:Option OS} {args:List PV} {post:RV→OS→Prop} {Q:AQ} (hf:P.funcs[f]?=some fn) (hb:fn.body=some c) (hchk:chkC P okDraw ic c=true)
  (h:awp P E ic (a0 bx args++List.replicate (fn.ntmps - (a0 bx args).length) .any) (l0 bx) Q)
  (hQ:∀ (B:Base) (w':World) (L:Objs) (ι:Key→Value) (fr:List AV) (a:Act) (e:Exit),Q e fr L→StF E B w' L ι fr a→B.L0=l0 bx→(e=.normal∨e=.ret)∧∃ v r os',(results fn a.tmps).run P w'=.ok v w'∧post r os'∧RVok w' (ZB L ι B.X) B.w0.heap.size r v∧(bx.isSome=true→Zas L (.b 0)=some os'.ao)∧(∀ b,r.own v b→Own L ι b)):GCall P E f bx args post:=by
 intro w U vs v0 hU hE hEb hA hB
 refine calls_of_wp hf hb ?_
 let ι:Key→Value:=fun _=>v0
 let B:Base:={ w0:=w,X:=fun c=>U c∧(bx.isSome=true→blk v0≠some c),L0:=l0 bx,i0:=ι }
 have hlk:∀ k q,Zas (l0 bx) k=some q→k=.b 0∧∃ os,bx=some os∧q=os.ao:=by
  intro k q hq
  cases hbx:bx with
  |none=>rw [hbx] at hq;simp [l0,Zas] at hq
  |some os=>
   rw [hbx] at hq
   simp only [l0,Zas] at hq
   split at hq
   ·rename_i e;cases hq;exact ⟨e.symm,os,rfl,rfl⟩
   ·cases hq
 have hO:∀ c,Own (l0 bx) ι c→blk v0=some c∧bx.isSome=true:=by
  rintro c ⟨k,q,h1,h2⟩
  obtain ⟨_,os,e,_⟩:=hlk k q h1
  exact ⟨h2,by rw [e];rfl⟩
 have hUb:∀ c,(Own (l0 bx) ι c∨B.X c)→U c:=by
  rintro c (h'|h')
  ·obtain ⟨h1,hs⟩:=hO c h'
   cases hbx:bx with
   |none=>rw [hbx] at hs;cases hs
   |some p=>rw [hbx] at hB;exact hB.1 c h1
  ·exact h'.1
 have hkeep:Keeps w w U (fun c=>Own (l0 bx) ι c∨B.X c):=fun c _ hu=>⟨rfl,fun h=>hu (hUb c h)⟩
 have hsim:Sim w B.X (l0 bx) ι:=by
  constructor
  ·intro k q hq
   obtain ⟨rfl,os,e,rfl⟩:=hlk k q hq
   rw [e] at hB
   exact ObjAt.ok (hB.2.mono hkeep (fun _ _=>rfl))
  ·intro k k' q q' c h1 h2 _ _
   rw [(hlk k q h1).1,(hlk k' q' h2).1]
 have hst:St E B w (l0 bx) ι:=⟨Grow.refl _ _,hsim,fun c hc=>.inl hc,fun c hc=>hU c hc.1,fun k _ _=>rfl,hE,fun c hc=>⟨(hEb c hc).1,fun ho=>by obtain ⟨e1,e2⟩:=hO c ho;exact (hEb c hc).2 e2 e1⟩,(fun i=>by
  show Zas (l0 bx) (.l i)=none
  cases hq:Zas (l0 bx) (.l i) with
  |none=>rfl
  |some q=>have:=(hlk _ _ hq).1;cases this),(fun c hc ho=>by obtain ⟨e1,e2⟩:=hO c ho;exact hc.2 e2 e1)⟩
 have hlen:=hA.length
 have hfr:∀ as:List Value,ARepL w (fun c=>Own (l0 bx) ι c∨B.X c) ι (a0 bx args) as→StF E B w (l0 bx) ι (a0 bx args++List.replicate (fn.ntmps - (a0 bx args).length) .any) { tmps:=as.toArray++Array.replicate (fn.ntmps - as.toArray.size) undef,defers:=[] }:=by
  intro as has
  have hl:∀ (xs:List AV) (ys:List Value),ARepL w (fun c=>Own (l0 bx) ι c∨B.X c) ι xs ys→ys.length=xs.length∧∀ (i:Nat) (x:AV),xs[i]?=some x→∃ v,ys[i]?=some v∧ARep w (fun c=>Own (l0 bx) ι c∨B.X c) ι x v:=by
   intro xs
   induction xs with
   |nil=>intro ys h;simp only [ARepL] at h;subst h;simp
   |cons x xs ih=>
    intro ys h
    simp only [ARepL] at h
    obtain ⟨v,r,rfl,h1,h2⟩:=h
    obtain ⟨g1,g2⟩:=ih r h2
    refine ⟨by simp [g1],fun i y hy=>?_⟩
    cases i with
    |zero=>simp at hy;subst hy;exact ⟨v,rfl,h1⟩
    |succ i=>simp at hy;simpa using g2 i y hy
  obtain ⟨g1,g2⟩:=hl _ _ has
  refine ⟨hst,⟨by simp [g1],fun i x hx=>?_⟩,rfl⟩
  rw [List.getElem?_append] at hx
  split at hx
  ·rename_i hi
   obtain ⟨v,hv,hrep⟩:=g2 i x hx
   refine ⟨v,?_,hrep⟩
   rw [Array.getElem?_append_left (by simp;omega)]
   simpa using hv
  ·rename_i hi
   rw [List.getElem?_replicate] at hx
   split at hx
   ·rename_i hlt
    cases hx
    refine ⟨undef,?_,trivial⟩
    rw [Array.getElem?_append_right (by simp;omega)]
    simp only [List.size_toArray]
    rw [Array.getElem?_replicate,if_pos (by rw [g1];omega)]
   ·cases hx
 have hargs:ARepL w (fun c=>Own (l0 bx) ι c∨B.X c) ι (a0 bx args) (match bx with|none=>vs|some _=>v0 :: vs):=by
  have hp:∀ (xs:List PV) (ys:List Value),PRepL w U xs ys→ARepL w (fun c=>Own (l0 bx) ι c∨B.X c) ι (xs.map .p) ys:=by
   intro xs
   induction xs with
   |nil=>intro ys h;simp only [PRepL] at h;subst h;simp [ARepL]
   |cons x xs ih=>
    intro ys h
    simp only [PRepL] at h
    obtain ⟨v,r,rfl,h1,h2⟩:=h
    simp only [List.map_cons,ARepL]
    exact ⟨v,r,rfl,PRep.mono hkeep _ _ h1,ih r h2⟩
  have hpv:=hp args vs hA
  cases hbx:bx with
  |none=>rw [hbx] at hpv;exact hpv
  |some os=>
   rw [hbx] at hpv hB
   cases os with
   |box t cs=>
    obtain ⟨b,vs',e1,_⟩:=hB.2
    simp only [a0,ARepL]
    exact ⟨_,_,rfl,⟨b,e1,e1⟩,hpv⟩
   |row e z es=>
    obtain ⟨vs',h1,_⟩:=hB.2
    simp only [a0,ARepL]
    refine ⟨_,_,rfl,⟨rfl,?_⟩,hpv⟩
    rcases h1.2 with ⟨q1,_⟩|⟨g,cap,cur,fz,q1,_⟩
    ·exact ⟨none,0,0,q1⟩
    ·exact ⟨_,_,_,q1⟩
 refine wp_mono (awp_sound (drawOk hm) ic c _ _ _ hchk h B w ι _ (hfr _ hargs)) ?_
 rintro e a' w' ⟨fr',L',ι',q,hs'⟩
 obtain ⟨he,v,r,os',hv,hp,hr,hbox,hown⟩:=hQ B w' L' ι' fr' a' e q hs' rfl
 have hkey:bx.isSome=true→ι' (.b 0)=v0:=by
  intro e
  refine hs'.1.keep (.b 0) ?_ (by rw [hbox e];rfl)
  show (Zas (l0 bx) (.b 0)).isSome=true
  obtain ⟨os,e⟩:=Option.isSome_iff_exists.1 e
  rw [e];simp [l0,Zas]
 have hZ:∀ c,U c→ZB L' ι' B.X c:=by
  intro c hc
  by_cases hcb:bx.isSome=true∧blk v0=some c
  ·exact .inr ⟨0,_,hbox hcb.1,by rw [hkey hcb.1];exact hcb.2⟩
  ·exact .inl ⟨hc,fun h1 h2=>hcb ⟨h1,h2⟩⟩
 have hkz:Keeps w' w' (ZB L' ι' B.X) U:=fun c _ hz=>⟨rfl,fun hu=>hz (hZ c hu)⟩
 have hres:RVok w' U w.heap.size r v:=by
  cases r with
  |p x=>exact PRep.mono hkz _ _ hr
  |fr es e z=>
   obtain ⟨vs',r1,r2,r3,r4,r5⟩:=hr
   exact ⟨vs',r1,r2,PRepL.mono (fun c _ hz=>⟨rfl,fun hu=>hz (hu.imp (hZ c) id)⟩) _ _ r3,r4,r5⟩
 have hg:=hs'.1.grow
 have fin:∃ v_1 r os',Ending.returned v=.returned v_1∧post r os'∧RVok w' U w.heap.size r v_1∧(match bx with|none=>Grow w w' (fun _=>False)|some _=>Grow w w' (fun c=>blk v0=some c)∧ObjAt w' (fun c=>U c∨r.own v_1 c) v0 os'):=by
  refine ⟨v,r,os',rfl,hp,hres,?_⟩
  cases hbx:bx with
  |none=>exact ⟨hg.os,hg.tape,hg.output,hg.size,fun c hc _=>hg.block c hc (fun ho=>by have:=(hO c ho).2;rw [hbx] at this;cases this)⟩
  |some os=>
   have hbs:bx.isSome=true:=by rw [hbx];rfl
   refine ⟨⟨hg.os,hg.tape,hg.output,hg.size,fun c hc hn=>hg.block c hc (fun ho=>hn (hO c ho).1)⟩,?_⟩
   have hat:=ObjAt.of (hs'.1.sim.obj (.b 0) _ (hbox hbs))
   rw [hkey hbs] at hat
   refine hat.mono (fun c _ hz=>⟨rfl,fun hu=>hz ?_⟩) (fun _ _=>rfl)
   rcases hu with hu|hu
   ·rcases hZ c hu with h1|⟨i,q,h1,h2⟩
    ·exact .inr h1
    ·exact .inl ⟨_,q,h1,h2⟩
   ·exact .inl (hown c hu)
 rcases he with rfl|rfl
 ·exact ⟨hs'.2.2,v,hv,fin⟩
 ·exact ⟨hs'.2.2,v,hv,fin⟩
theorem gcallP (hm:P.follows .mixedOrders=true) {f:FuncId} {fn:Func} {ic:IC} {rs:List IRes} {n:Nat} {bx:Option OS} {args:List PV} {post:RV→OS→Prop} (hf:P.funcs[f]?=some fn) (hc:chkF P fn ic rs n=true)
  (h:awp P E ic (a0 bx args++List.replicate (n - (a0 bx args).length) .any) (l0 bx) (retQ rs (finP bx post))):GCall P E f bx args post:=by
 unfold chkF at hc
 split at hc
 ·rename_i c hb
  simp only [Bool.and_eq_true,beq_iff_eq] at hc
  obtain ⟨⟨h1,h2⟩,rfl⟩:=hc
  refine gcall_of_awp hm hf hb h1 h ?_
  intro B w' L ι fr a e q hs hb0
  have key:RetK (Zbd fr L rs) (finP bx post) L→∃ v r os',(results fn a.tmps).run P w'=.ok v w'∧post r os'∧RVok w' (ZB L ι B.X) B.w0.heap.size r v∧(bx.isSome=true→Zas L (.b 0)=some os'.ao)∧(∀ b,r.own v b→Own L ι b):=by
   intro q
   obtain ⟨l,e1,e2⟩:=RetK_ex q
   obtain ⟨v,hv,hr⟩:=results_ok hs h2 e1
   cases hbx:bx with
   |none=>rw [hbx] at e2;exact ⟨v,.p (mkRes l),noOS,hv,e2,hr,(fun h=>by cases h),fun _ h=>h.elim⟩
   |some p=>
    rw [hbx] at e2
    obtain ⟨cs',g1,g2⟩:=e2
    exact ⟨v,.p (mkRes l),cs',hv,g2,hr,(fun _=>g1),fun _ h=>h.elim⟩
  cases e with
  |normal=>exact ⟨.inl rfl,key q⟩
  |ret=>exact ⟨.inr rfl,key q⟩
  |_=>exact q.elim
 ·cases hc
theorem gcallR (hm:P.follows .mixedOrders=true) {f:FuncId} {fn:Func} {ic:IC} {i n:Nat} {bx:Option OS} {args:List PV} {post:RV→OS→Prop} (hf:P.funcs[f]?=some fn) (hc:chkF P fn ic [.t i] n=true)
  (h:awp P E ic (a0 bx args++List.replicate (n - (a0 bx args).length) .any) (l0 bx) (retF i bx post)):GCall P E f bx args post:=by
 unfold chkF at hc
 split at hc
 ·rename_i c hb
  simp only [Bool.and_eq_true,beq_iff_eq] at hc
  obtain ⟨⟨h1,h2⟩,rfl⟩:=hc
  refine gcall_of_awp hm hf hb h1 h ?_
  intro B w' L ι fr a e q hs hb0
  have key:finF bx post i fr L→∃ v r os',(results fn a.tmps).run P w'=.ok v w'∧post r os'∧RVok w' (ZB L ι B.X) B.w0.heap.size r v∧(bx.isSome=true→Zas L (.b 0)=some os'.ao)∧(∀ b,r.own v b→Own L ι b):=by
   intro hfin
   have hres:(results fn a.tmps).run P w'=.ok (a.tmps.getD i undef) w':=by
    have hq:fn.results=#[.tmp i]:=by
     have:∀ (l:List ResultVar),okResL P l [.t i]=true→l=[.tmp i]:=by
      intro l hl
      cases l with
      |nil=>simp [okResL] at hl
      |cons x l=>
       cases l with
       |nil=>cases x<;>simp [okResL,okRes] at hl;subst hl;rfl
       |cons y l=>cases x<;>simp [okResL] at hl
     apply Array.ext'
     exact this _ h2
    exact results_tmp hq _ P w'
   rcases hfin with ⟨j,es,et,z,e1,e2,e3⟩|⟨et,z,z0,e1,e3⟩
   rotate_left
   ·have hsl:=hs.2.1.getD i
    rw [e1] at hsl
    have hv:a.tmps.getD i undef=.slice none 0 0:=hsl
    have hrv:RVok w' (ZB L ι B.X) B.w0.heap.size (.fr [] et z) (a.tmps.getD i undef):=by
     rw [hv]
     exact ⟨[],⟨by simp,.inl ⟨rfl,rfl⟩⟩,by simp,by simp [PRepL],by simp,fun b hb=>by simp [blk] at hb⟩
    have hno:∀ b,RV.own (.fr [] et z) (a.tmps.getD i undef) b→Own L ι b:=fun b hb=>by rw [hv] at hb;simp [RV.own,blk] at hb
    cases hbx:bx with
    |none=>rw [hbx] at e3;exact ⟨_,.fr [] et z,noOS,hres,e3,hrv,(fun h=>by cases h),hno⟩
    |some p=>
     rw [hbx] at e3
     obtain ⟨cs',g1,g2⟩:=e3
     exact ⟨_,.fr [] et z,cs',hres,g2,hrv,(fun _=>g1),hno⟩
   have hsl:=hs.2.1.getD i
   rw [e1] at hsl
   obtain ⟨hv,A,m,cp,hvs⟩:=hsl
   obtain ⟨vs,hrow,g2,g3,g4⟩:=hs.1.sim.obj _ _ e2
   have hblkO:∀ b,blk (a.tmps.getD i undef)=some b→Own L ι b:=fun b hb'=>⟨_,_,e2,by rw [← hv];exact hb'⟩
   have hrow':RowOk w' et z true (a.tmps.getD i undef) es.length vs:=by rw [hv];exact hrow
   have hZ0:bx.isSome=true→∃ q,Zas L (.b 0)=some q:=by
    intro hbs
    cases hbx:bx with
    |none=>rw [hbx] at hbs;cases hbs
    |some p=>rw [hbx] at e3;obtain ⟨cs',g1,_⟩:=e3;exact ⟨_,g1⟩
   have hrv:RVok w' (ZB L ι B.X) B.w0.heap.size (.fr es et z) (a.tmps.getD i undef):=by
    refine ⟨vs,hrow',g2,PRepL.mono (fun c _ hu=>⟨rfl,?_⟩) _ _ g3,g4,fun b hb'=>?_⟩
    ·rintro ((hx|⟨i',q',h1,h2⟩)|hx)
     ·exact hu (.inr hx)
     ·exact hu (.inl ⟨_,q',h1,h2⟩)
     ·exact hu (.inl (hblkO c hx))
    ·rcases hs.1.own b (hblkO b hb') with h'|h'
     ·obtain ⟨k0,q0,h5,h6⟩:=h'
      rw [hb0] at h5
      cases hbx:bx with
      |none=>rw [hbx] at h5;simp [l0,Zas] at h5
      |some p=>
       obtain ⟨q1,hq1⟩:=hZ0 (by rw [hbx];rfl)
       rw [hbx] at h5
       simp only [l0,Zas] at h5
       split at h5
       ·rename_i ek
        subst ek
        have hk0:ι (.b 0)=B.i0 (.b 0):=hs.1.keep (.b 0) (by rw [hb0,hbx];simp [l0,Zas]) (by rw [hq1];rfl)
        have:=hs.1.sim.inj (.b 0) (.l j) q1 _ b hq1 e2 (by rw [hk0];exact h6) (by rw [← hv];exact hb')
        cases this
       ·cases h5
     ·exact h'
   cases hbx:bx with
   |none=>rw [hbx] at e3;exact ⟨_,.fr es et z,noOS,hres,e3,hrv,(fun h=>by cases h),hblkO⟩
   |some p=>
    rw [hbx] at e3
    obtain ⟨cs',g1,g2⟩:=e3
    exact ⟨_,.fr es et z,cs',hres,g2,hrv,(fun _=>g1),hblkO⟩
  cases e with
  |normal=>exact ⟨.inl rfl,key q⟩
  |ret=>exact ⟨.inr rfl,key q⟩
  |_=>exact q.elim
 ·cases hc
def SCall (P:Program) (E:Envt) (f:FuncId) (t:TypeId) (cs args:List PV) (ψ:PV→List PV→Prop):Prop:=GCall P E f (some (.box t cs)) args fun r os=>∃ x cs',r=.p x∧os=.box t cs'∧ψ x cs'
def SFresh (P:Program) (E:Envt) (f:FuncId) (t:TypeId) (cs args:List PV) (e z:Nat) (ψ:List (List PV)→List PV→Prop):Prop:=GCall P E f (some (.box t cs)) args fun r os=>∃ es cs',r=.fr es e z∧os=.box t cs'∧ψ es cs'
def FCall (P:Program) (E:Envt) (f:FuncId) (args:List PV) (e z:Nat) (φ:List (List PV)→Prop):Prop:=GCall P E f none args fun r _=>∃ es,r=.fr es e z∧φ es
def RCall (P:Program) (E:Envt) (f:FuncId) (e z:Nat) (es:List (List PV)) (args:List PV) (ψ:PV→List (List PV)→Prop):Prop:=GCall P E f (some (.row e z es)) args fun r os=>∃ x es',r=.p x∧os=.row e z es'∧ψ x es'
variable {L:Objs} {fr:List AV} {X:List PV} {K:List AV→Objs→Prop}
theorem gc_none {f:FuncId} {as:List AV} {ps:List PV} {post:RV→OS→Prop} (h:GCall P E f none ps post) (ha:Zbh L as=some ps) (hn:Zbj as=true):GC P E f as L none post:=by
 intro w X ι vs hs hX hE hEb hA
 exact h w (fun b=>Own L ι b∨X b) vs undef (fun b hb=>hb.elim (fun h=>sim_own_lt hs h) (fun h=>(hX b h).1)) hE (fun b hb=>⟨(hEb b hb).1,fun h=>by cases h⟩) (argPs_norow hn ha hA) trivial
def AV.key1 (k:Key):OS→AV
 |.box _ _=>.adr k 0
 |.row _ _ _=>.row k
theorem gc_obj {f:FuncId} {as:List AV} {ps:List PV} {os:OS} {k:Key} {post:RV→OS→Prop} (h:GCall P E f (some os) ps post) (hl:Zas L k=some os.ao) (ha:Zbh L as=some ps) (hn:Zbj as=true):GC P E f (AV.key1 k os :: as) L (some (k,os)) post:=by
 intro w X ι vs hs hX hE hEb hA
 simp only [ARepL] at hA
 obtain ⟨v0,vr,rfl,hv0,hA⟩:=hA
 have hv0:v0=ι k:=by
  cases os with
  |box t cs=>obtain ⟨b,e1,e2⟩:=hv0;rw [e1,e2]
  |row e z es=>exact hv0.1
 subst hv0
 have hOb:∀ c,blk (ι k)=some c→Own L ι c:=fun c hc=>⟨k,_,hl,hc⟩
 refine (h w (fun b=>Own L ι b∨X b) vr (ι k) (fun b hb=>hb.elim (fun h=>sim_own_lt hs h) (fun h=>(hX b h).1)) hE (fun c hc=>⟨(hEb c hc).1,fun _ e=>(hEb c hc).2 (hOb c e)⟩) (argPs_norow hn ha hA) ⟨fun c hc=>.inl (hOb c hc),ObjAt.of (hs.obj k _ hl)⟩).mono ?_
 rintro e w' ⟨v,r,os',rfl,hp,hr,hG,hB⟩
 exact ⟨v,r,os',rfl,hp,hr,⟨hG.os,hG.tape,hG.output,hG.size,fun c hc hn=>hG.block c hc (fun ec=>hn ⟨_,hl,ec⟩)⟩,hB⟩
theorem useS {f:FuncId} {as:List AV} {ps cs:List PV} {t:TypeId} {k:Key} {ψ:PV→List PV→Prop} {d:Option Nat} {is:List IOper} (h:SCall P E f t cs ps ψ) (hl:Zas L k=some (.box (cs.map .p) t)) (ha:Zbh L as=some ps) (hn:Zbj as=true) (hs:Zbl d (some (k,.box t cs)))
  (hk:∀ x cs',ψ x cs'→awpOps P E X is (Zg fr d (.p x)) (Zat L k (.box (cs'.map .p) t)) K):CallOp P E f (.adr k 0 :: as) L d fr (contO P E X is K):=
 .inr (.inl ⟨some (k,.box t cs),_,gc_obj h hl ha hn,hl,hs,fun r os' hp=>by obtain ⟨x,cs',rfl,rfl,hx⟩:=hp;exact hk x cs' hx⟩)
theorem argPs_any {L L':Objs}:∀ {as:List AV},Zbj as=true→Zbh L as=Zbh L' as
 |[],_=>rfl
 |a :: r,h=>by
  have e:Zbi L a=Zbi L' a∧Zbj r=true:=by
   cases a<;>simp only [Zbj,Bool.false_eq_true,Bool.and_eq_true,List.isEmpty_iff] at h
   case fn f ks=>obtain ⟨rfl,h⟩:=h;exact ⟨rfl,h⟩
   all_goals exact ⟨rfl,h⟩
  simp only [Zbh]
  rw [e.1,argPs_any (L:=L) (L':=L') e.2]
theorem useD {b:Bool} {f:FuncId} {as:List AV} {ps cs:List PV} {t:TypeId} {k:Key} {ψ:PV→List PV→Prop} {d:Option Nat} {is:List IOper} (h:SCall P E f t cs ps ψ) (hne:∃ x cs',ψ x cs') (hl:Zas L k=some (.box (cs.map .p) t)) (ha:Zbh L as=some ps) (hn:Zbj as=true) (hs:Zbl d (some (k,.box t cs))) (hb:b=true→∃ j,k=.b j)
  (hk:∀ x cs',ψ x cs'→awpOps P E X is (Zg fr d (.p x)) (Zat L k (.box (cs'.map .p) t)) K):DCallOp b P E f (.adr k 0 :: as) L d fr (contO P E X is K):=
 ⟨k,t,cs,ψ,fun L' hl'=>gc_obj h hl' ((argPs_any hn).symm.trans ha) hn,hl,(fun e he=>by subst he;exact hs),hb,hne,hk⟩
theorem useSF {f:FuncId} {as:List AV} {ps cs:List PV} {t:TypeId} {k:Key} {e z:Nat} {ψ:List (List PV)→List PV→Prop} {d:Nat} {is:List IOper} (h:SFresh P E f t cs ps e z ψ) (hl:Zas L k=some (.box (cs.map .p) t)) (ha:Zbh L as=some ps) (hn:Zbj as=true) (hs:Zbl (some d) (some (k,.box t cs)))
  (hk:∀ es cs',ψ es cs'→awpOps P E X is ((fr.map (·.kill (.l d))).set d (.row (.l d))) (Zav (Zat L k (.box (cs'.map .p) t)) (.l d) (.row es e z true)) K):CallOp P E f (.adr k 0 :: as) L (some d) fr (contO P E X is K):=
 .inr (.inl ⟨some (k,.box t cs),_,gc_obj h hl ha hn,hl,hs,fun r os' hp=>by obtain ⟨es,cs',rfl,rfl,hx⟩:=hp;exact hk es cs' hx⟩)
theorem useF {f:FuncId} {as:List AV} {ps:List PV} {e z:Nat} {φ:List (List PV)→Prop} {d:Nat} {is:List IOper} (h:FCall P E f ps e z φ) (ha:Zbh L as=some ps) (hn:Zbj as=true)
  (hk:∀ es,φ es→awpOps P E X is ((fr.map (·.kill (.l d))).set d (.row (.l d))) (Zav L (.l d) (.row es e z true)) K):CallOp P E f as L (some d) fr (contO P E X is K):=
 .inr (.inl ⟨none,_,gc_none h ha hn,trivial,trivial,fun r cs' hp=>by obtain ⟨es,rfl,hx⟩:=hp;exact hk es hx⟩)
theorem useR {f:FuncId} {as:List AV} {ps:List PV} {e z:Nat} {es:List (List PV)} {k:Key} {ψ:PV→List (List PV)→Prop} {d:Option Nat} {is:List IOper} (h:RCall P E f e z es ps ψ) (hl:Zas L k=some (.row es e z true)) (ha:Zbh L as=some ps) (hn:Zbj as=true) (hs:Zbl d (some (k,.row e z es)))
  (hk:∀ x es',ψ x es'→awpOps P E X is (Zg fr d (.p x)) (Zat L k (.row es' e z true)) K):CallOp P E f (.row k :: as) L d fr (contO P E X is K):=
 .inr (.inl ⟨some (k,.row e z es),_,gc_obj h hl ha hn,hl,hs,fun r os' hp=>by obtain ⟨x,es',rfl,rfl,hx⟩:=hp;exact hk x es' hx⟩)
theorem GCall.mono {f:FuncId} {bx:Option OS} {args:List PV} {post post':RV→OS→Prop} (h:GCall P E f bx args post) (hp:∀ r os,post r os→post' r os):GCall P E f bx args post':=by
 intro w U vs v0 hU hE hEb hA hB
 refine (h w U vs v0 hU hE hEb hA hB).mono ?_
 rintro e w' ⟨v,r,os',h1,h2,h3⟩
 exact ⟨v,r,os',h1,hp r os' h2,h3⟩
theorem RCall.mono {f:FuncId} {e z:Nat} {es:List (List PV)} {args:List PV} {ψ ψ':PV→List (List PV)→Prop} (h:RCall P E f e z es args ψ) (hp:∀ x es,ψ x es→ψ' x es):RCall P E f e z es args ψ':=
 GCall.mono h fun r os ⟨x,es',h1,h2,h3⟩=>⟨x,es',h1,h2,hp x es' h3⟩
theorem FCall.mono {f:FuncId} {e z:Nat} {args:List PV} {φ φ':List (List PV)→Prop} (h:FCall P E f args e z φ) (hp:∀ es,φ es→φ' es):FCall P E f args e z φ':=
 GCall.mono h fun r os ⟨es,h1,h2⟩=>⟨es,h1,hp es h2⟩
theorem PCall.mono {f:FuncId} {args:List PV} {φ φ':PV→Prop} (h:PCall P E f args φ) (hp:∀ x,φ x→φ' x):PCall P E f args φ':=by
 intro w U vs hU hE hEb hA
 refine (h w U vs hU hE hEb hA).mono ?_
 rintro e w' ⟨v,x,h1,h2,h3⟩
 exact ⟨v,x,h1,hp x h2,h3⟩
theorem fin_S {t:TypeId} {cs:List PV} {ψ:PV→List PV→Prop} {x:PV} (cs':List PV) (h1:Zas L (.b 0)=some (.box (cs'.map .p) t)) (h2:ψ x cs'):finP (some (.box t cs)) (fun r os=>∃ x cs',r=.p x∧os=.box t cs'∧ψ x cs') x L:=⟨.box t cs',h1,x,cs',rfl,rfl,h2⟩
theorem fin_R {e z:Nat} {es:List (List PV)} {ψ:PV→List (List PV)→Prop} {x:PV} (es':List (List PV)) (h1:Zas L (.b 0)=some (.row es' e z true)) (h2:ψ x es'):finP (some (.row e z es)) (fun r os=>∃ x es',r=.p x∧os=.row e z es'∧ψ x es') x L:=⟨.row e z es',h1,x,es',rfl,rfl,h2⟩
theorem fin_F {i e z:Nat} {φ:List (List PV)→Prop} (j:Nat) (es:List (List PV)) (h0:fr.getD i .any=.row (.l j)) (h1:Zas L (.l j)=some (.row es e z true)) (h2:φ es):finF none (fun r _=>∃ es,r=.fr es e z∧φ es) i fr L:=.inl ⟨j,es,e,z,h0,h1,es,rfl,h2⟩
theorem fin_SF {i e z:Nat} {t:TypeId} {cs:List PV} {ψ:List (List PV)→List PV→Prop} (j:Nat) (es:List (List PV)) (cs':List PV) (h0:fr.getD i .any=.row (.l j)) (h1:Zas L (.l j)=some (.row es e z true)) (h3:Zas L (.b 0)=some (.box (cs'.map .p) t)) (h2:ψ es cs'):finF (some (.box t cs)) (fun r os=>∃ es cs',r=.fr es e z∧os=.box t cs'∧ψ es cs') i fr L:=.inl ⟨j,es,e,z,h0,h1,.box t cs',h3,es,cs',rfl,rfl,h2⟩
end
end Go.Proofs.YtehfjlpenlffmaaGreatDoor
namespace Go.Proofs.YtehfjlpenlffmaaGreatDoor
open Go.RowKit
def flatD:PV→Bool
 |.int ..|.bool _|.str _=>true
 |_=>false
def valD:PV→Value
 |.int k n=>.int k n
 |.bool b=>.bool b
 |.str s=>.string ⟨s.toArray⟩
 |_=>undef
theorem PRep.valD {w:World} {U:Nat→Prop} {x:PV} {v:Value} (hf:flatD x=true):PRep w U x v↔v=valD x:=by
 cases x<;>simp_all [flatD,PRep,Go.Proofs.YtehfjlpenlffmaaGreatDoor.valD]
theorem PRepL.valD {w:World} {U:Nat→Prop}:∀ {xs:List PV} {vs:List Value},(xs.all flatD)=true→(PRepL w U xs vs↔vs=xs.map Go.Proofs.YtehfjlpenlffmaaGreatDoor.valD):=by
 intro xs
 induction xs with
 |nil=>intro vs _;simp [PRepL]
 |cons x r ih=>
  intro vs h
  simp only [List.all_cons,Bool.and_eq_true] at h
  simp only [PRepL,List.map_cons]
  constructor
  ·rintro ⟨v,s,rfl,h1,h2⟩
   rw [PRep.valD h.1] at h1
   rw [ih h.2] at h2
   rw [h1,h2]
  ·rintro rfl
   exact ⟨_,_,rfl,(PRep.valD h.1).2 rfl,(ih h.2).2 rfl⟩
section
variable {P:Program} {E:Envt}
theorem grow_below {w w':World} {O:Nat→Prop} (h:Below w.heap.size w w'):Grow w w' O:=⟨h.os,h.tape,h.output,h.size,fun b hb _=>h.block b hb⟩
def flatX:PV→Bool
 |.tup cs=>cs.all flatD
 |x=>flatD x
def valX:PV→Value
 |.tup cs=>.tuple (cs.map valD).toArray
 |x=>valD x
theorem PRep.valX {w:World} {U:Nat→Prop} {x:PV} (hf:flatX x=true):PRep w U x (valX x):=by
 cases x with
 |tup cs=>exact ⟨_,rfl,(PRepL.valD (by simpa [flatX] using hf)).2 rfl⟩
 |int k n=>rfl
 |bool b=>rfl
 |str s=>rfl
 |_=>simp [flatX,flatD] at hf
theorem pcall_flat {f:FuncId} {args:List PV} {r:PV} (ha:args.all flatD=true) (hr:flatX r=true) (h:∀ w,E.ok w→Calls P f (args.map valD).toArray w fun e w'=>e=.returned (valX r)∧Grow w w' (fun _=>False)):PCall P E f args (·=r):=by
 intro w U vs hU hE hEb hA
 rw [PRepL.valD ha] at hA
 subst hA
 refine (h w hE).mono ?_
 rintro e w' ⟨rfl,hg⟩
 exact ⟨_,r,rfl,rfl,PRep.valX hr,hg⟩
end
end Go.Proofs.YtehfjlpenlffmaaGreatDoor
namespace Go.Proofs.YtehfjlpenlffmaaGreatDoor
def bufOf (w:World) (T:TypeId) (b x:Nat):Prop:=∃ p u,w.heap[b]?=some (.cells #[p,u] T (0,0))∧u.ownBlock=some x
def SbPost (T e:TypeId) (b:Nat) (bs:List UInt8) (w w':World):Prop:=
 (∃ v,w'.heap[b]?=some (.cells #[.pointer (some ⟨b,0,none⟩),v] T (0,0))∧w'.ownsRow 0 e 1 v bs.length (Lib.byteCells bs)∧v.ownBlock≠some b∧∀ x,v.ownBlock=some x→bufOf w T b x∨w.heap.size≤x)∧Grow w w' (fun x=>x=b∨bufOf w T b x)
section
variable {w w1 w2:World} {T e:TypeId} {b:Nat} {v v':Value} {bs:List UInt8} {p:Value}
theorem bufOf_eq (h:w.heap[b]?=some (.cells #[p,v] T (0,0))) {x:Nat}:bufOf w T b x↔v.ownBlock=some x:=by
 constructor
 ·rintro ⟨q,u,h1,h2⟩
  rw [h] at h1
  simp at h1
  rw [h1.2];exact h2
 ·intro h2;exact ⟨_,_,h,h2⟩
theorem heap_set0 {q:Value} (h:w.heap[b]?=some (.cells #[p,v] T (0,0))):(w.setCell ⟨b,0,none⟩ q).heap[b]?=some (.cells #[q,v] T (0,0)):=by
 simp [World.setCell,Array.getElem?_modify,h]
theorem grow_setCell {O:Nat→Prop} (off:Nat) (q:Value) (hO:O b):Grow w (w.setCell ⟨b,off,none⟩ q) O:=
 ⟨rfl,rfl,rfl,by simp [World.setCell],fun c _ hn=>heap_setCell_other _ _ _ _ (fun e=>hn (by subst e;exact hO))⟩
theorem SbPost.behind {q:Value} (hbk:w.heap[b]?=some (.cells #[q,.slice none 0 0] T (0,0))) (h:SbPost T e b bs (w.setCell ⟨b,0,none⟩ (.pointer (some ⟨b,0,none⟩))).drew w2):SbPost T e b bs w w2:=by
 obtain ⟨⟨u,h1,h2,h3,h4⟩,hG⟩:=h
 have hk:=heap_set0 (q:=.pointer (some ⟨b,0,none⟩)) hbk
 have hno:∀ x,¬ bufOf (w.setCell ⟨b,0,none⟩ (.pointer (some ⟨b,0,none⟩))).drew T b x:=fun x hx=>by
  have:=(bufOf_eq (w:=(w.setCell ⟨b,0,none⟩ (.pointer (some ⟨b,0,none⟩))).drew) hk).1 hx
  simp [Value.ownBlock] at this
 refine ⟨⟨u,h1,h2,h3,fun x hx=>?_⟩,?_⟩
 ·rcases h4 x hx with h|h
  ·exact (hno x h).elim
  ·exact .inr (by simpa [World.setCell] using h)
 ·refine (grow_setCell (w:=w) 0 (.pointer (some ⟨b,0,none⟩)) (O:=fun x=>x=b∨bufOf w T b x) (.inl rfl)).drew.trans hG (fun c hc=>?_)
  rcases hc with h|h
  ·exact .inl (.inl h)
  ·exact (hno c h).elim
end
section
variable {P:Program} {E:Envt} {w w':World} {X:Nat→Prop} {U:Nat→Prop} {L:Objs} {ι:Key→Value} {k:Key} {i:Nat} {T e:TypeId} {s s':List UInt8}
variable {fr:List AV} {d:Option Nat} {is:List IOper} {Y:List PV} {K:List AV→Objs→Prop}
end
def renKs (f:Key→Option Key):List Key→Option (List Key)
 |[]=>some []
 |k :: r=>match f k with
  |some k'=>(renKs f r).map (k' :: ·)
  |none=>none
def renCs (f:Key→Option Key):List CV→Option (List CV)
 |[]=>some []
 |.p p :: r=>(renCs f r).map (.p p :: ·)
 |.row k :: r=>match f k with
  |some k'=>(renCs f r).map (.row k' :: ·)
  |none=>none
 |.mp k :: r=>match f k with
  |some k'=>(renCs f r).map (.mp k' :: ·)
  |none=>none
def AV.ren (f:Key→Option Key):AV→AV
 |.p x=>.p x
 |.row k=>match f k with|some k'=>.row k'|none=>.any
 |.adr k o=>match f k with|some k'=>.adr k' o|none=>.any
 |.rad k z i o=>match f k with|some k'=>.rad k' z i o|none=>.any
 |.ipt z es i o=>.ipt z es i o
 |.mp k=>match f k with|some k'=>.mp k'|none=>.any
 |.fn fi ks=>match renKs f ks with|some ks'=>.fn fi ks'|none=>.any
 |.g c a=>.g c (a.ren f)
 |.ag cs=>match renCs f cs with|some cs'=>.ag cs'|none=>.any
 |.any=>.any
def AO.ren (f:Key→Option Key):AO→AO
 |.box cs t=>.box (cs.map (·.ren f)) t
 |.row es e z ap=>.row es e z ap
 |.map kv a b=>.map kv a b
 |.rowv es e z=>.rowv (es.map (·.map (·.ren f))) e z
 |.mapv kv a b=>.mapv (kv.map fun p=>(p.1,p.2.ren f)) a b
 |.mit last kv=>.mit last kv
def mapO (f:Key→Option Key):Objs→Objs
 |[]=>[]
 |(k,a) :: r=>match f k with
  |some k'=>(k',a.ren f) :: mapO f r
  |none=>mapO f r
section
variable {w w':World} {U:Nat→Prop} {ι ι':Key→Value} {f:Key→Option Key}
theorem renKs_map (hf:∀ k k',f k=some k'→ι' k'=ι k):∀ {ks ks':List Key},renKs f ks=some ks'→ks'.map ι'=ks.map ι
 |[],ks',h=>by simp only [renKs,Option.some.injEq] at h;subst h;rfl
 |k :: r,ks',h=>by
  simp only [renKs] at h
  split at h
  ·rename_i k' e
   obtain ⟨r',h1,rfl⟩:=Option.map_eq_some_iff.1 h
   simp only [List.map_cons,renKs_map hf h1,hf k k' e]
  ·cases h
theorem renCs_get (hf:∀ k k',f k=some k'→ι' k'=ι k):∀ {cs cs':List CV},renCs f cs=some cs'→cs'.length=cs.length∧∀ (j:Nat) (x':CV),cs'[j]?=some x'→∃ x,cs[j]?=some x∧∀ w U v,CRep w U ι x v→CRep w U ι' x' v
 |[],cs',h=>by simp only [renCs,Option.some.injEq] at h;subst h;simp
 |.p p :: r,cs',h=>by
  simp only [renCs] at h
  obtain ⟨r',h1,rfl⟩:=Option.map_eq_some_iff.1 h
  obtain ⟨g1,g2⟩:=renCs_get hf h1
  refine ⟨by simp [g1],fun j x' hx=>?_⟩
  cases j with
  |zero=>simp at hx;subst hx;exact ⟨_,rfl,fun w U v h=>h⟩
  |succ j=>simp at hx;simpa using g2 j x' hx
 |.row k :: r,cs',h=>by
  simp only [renCs] at h
  split at h
  ·rename_i k' e
   obtain ⟨r',h1,rfl⟩:=Option.map_eq_some_iff.1 h
   obtain ⟨g1,g2⟩:=renCs_get hf h1
   refine ⟨by simp [g1],fun j x' hx=>?_⟩
   cases j with
   |zero=>simp at hx;subst hx;exact ⟨_,rfl,fun w U v h=>by simp only [CRep] at h ⊢;rw [hf k k' e];exact h⟩
   |succ j=>simp at hx;simpa using g2 j x' hx
  ·cases h
 |.mp k :: r,cs',h=>by
  simp only [renCs] at h
  split at h
  ·rename_i k' e
   obtain ⟨r',h1,rfl⟩:=Option.map_eq_some_iff.1 h
   obtain ⟨g1,g2⟩:=renCs_get hf h1
   refine ⟨by simp [g1],fun j x' hx=>?_⟩
   cases j with
   |zero=>simp at hx;subst hx;exact ⟨_,rfl,fun w U v h=>by simp only [CRep] at h ⊢;rw [hf k k' e];exact h⟩
   |succ j=>simp at hx;simpa using g2 j x' hx
  ·cases h
theorem ARep.ren (hf:∀ k k',f k=some k'→ι' k'=ι k):∀ {a:AV} {u:Value},ARep w U ι a u→ARep w U ι' (a.ren f) u
 |.p x,u,h=>h
 |.row k,u,h=>by
  simp only [AV.ren];split
  ·rename_i k' e;simpa [ARep,hf k k' e] using h
  ·trivial
 |.adr k o,u,h=>by
  simp only [AV.ren];split
  ·rename_i k' e;simpa [ARep,hf k k' e] using h
  ·trivial
 |.rad k z i o,u,h=>by
  simp only [AV.ren];split
  ·rename_i k' e;simpa [ARep,hf k k' e] using h
  ·trivial
 |.ipt z es i o,u,h=>h
 |.mp k,u,h=>by
  simp only [AV.ren];split
  ·rename_i k' e;simpa [ARep,hf k k' e] using h
  ·trivial
 |.fn fi ks,u,h=>by
  simp only [AV.ren];split
  ·rename_i ks' e
   simp only [ARep] at h ⊢
   rw [h,renKs_map hf e]
  ·trivial
 |.g c a,u,h=>⟨fun hc=>ARep.ren hf (a:=a) (h.1 hc),h.2⟩
 |.ag cs,u,h=>by
  simp only [AV.ren];split
  ·rename_i cs' e
   obtain ⟨vs,e0,hl,hr⟩:=h
   obtain ⟨g1,g2⟩:=renCs_get hf e
   refine ⟨vs,e0,by rw [hl,g1],fun j x' hx=>?_⟩
   obtain ⟨x,hx1,hx2⟩:=g2 j x' hx
   obtain ⟨v,h1,h2,h3⟩:=hr j x hx1
   exact ⟨v,h1,h2,hx2 _ _ _ h3⟩
  ·trivial
 |.any,u,h=>trivial
theorem AO.ren_mapA (a:AO):a.ren f=a.mapA (AV.ren f):=by cases a<;>rfl
theorem ObjOk.ren (hf:∀ k k',f k=some k'→ι' k'=ι k) {k k':Key} (hk:ι' k'=ι k) {a:AO} (h:ObjOk w U ι k a):ObjOk w U ι' k' (a.ren f):=by
 rw [AO.ren_mapA]
 exact h.conv _ hk (fun _ _=>rfl) (fun b _ hu=>⟨rfl,hu⟩) (fun hr=>hr.ren hf)
theorem ObjOk.keeps {U':Nat→Prop} (hk:Keeps w w U U') {k:Key} {a:AO} (h:ObjOk w U ι k a):ObjOk w U' ι k a:=h.mono hk (fun _ _=>rfl)
theorem look_mapO (hi:∀ k1 k2 k,f k1=some k→f k2=some k→k1=k2) {k:Key} {a:AO}:∀ {L:Objs},Zas (mapO f L) k=some a→∃ k' a',Zas L k'=some a'∧f k'=some k∧a=a'.ren f
 |[],h=>by simp [mapO,Zas] at h
 |(k1,a1) :: r,h=>by
  simp only [mapO] at h
  split at h
  ·rename_i q e
   simp only [Zas] at h
   split at h
   ·rename_i hq
    cases h
    exact ⟨k1,a1,by simp [Zas],by rw [e,hq],rfl⟩
   ·rename_i hq
    obtain ⟨k',a',h1,h2,h3⟩:=look_mapO hi h
    refine ⟨k',a',?_,h2,h3⟩
    simp only [Zas]
    rw [if_neg (fun ek=>hq (by rw [ek] at e;rw [h2] at e;cases e;rfl))]
    exact h1
  ·rename_i e
   obtain ⟨k',a',h1,h2,h3⟩:=look_mapO hi h
   refine ⟨k',a',?_,h2,h3⟩
   simp only [Zas]
   rw [if_neg (fun ek=>by rw [ek,h2] at e;cases e)]
   exact h1
end
section
variable {P:Program} {E:Envt}
variable {L:Objs} {fr:List AV} {d:Option Nat} {is:List IOper} {Y:List PV} {K:List AV→Objs→Prop}
end
def r1 (d q:Nat) (k:Key):Option Key:=if k=.l d then some (.l q) else if k=.l q then none else some k
theorem r1_inj {d q:Nat}:∀ k1 k2 k,r1 d q k1=some k→r1 d q k2=some k→k1=k2:=by
 intro k1 k2 k h1 h2
 unfold r1 at h1 h2
 split at h1
 ·cases h1
  split at h2
  ·rename_i e1 e2;rw [e1,e2]
  ·split at h2
   ·cases h2
   ·cases h2;rename_i e1 e2 e3;exact absurd rfl e3
 ·split at h1
  ·cases h1
  ·cases h1
   split at h2
   ·cases h2;exact absurd rfl ‹¬ Key.l q=Key.l q›
   ·split at h2
    ·cases h2
    ·cases h2;rfl
section
variable {E:Envt} {B:Base} {w:World} {L:Objs} {ι:Key→Value} {fr:List AV} {a:Act}
theorem look_ren1 (d q:Nat):∀ {L:Objs} (k:Key),Zas (mapO (r1 d q) L) k=if k=.l q then (Zas L (.l d)).map (AO.ren (r1 d q)) else if k=.l d then none else (Zas L k).map (AO.ren (r1 d q))
 |[],k=>by simp [mapO,Zas]
 |(k1,a1) :: r,k=>by
  have ih:=look_ren1 d q (L:=r) k
  by_cases hdq:d=q
  ·subst hdq
   simp only [mapO,r1]
   by_cases h1:k1=.l d
   ·subst h1
    simp only [if_true,Zas]
    by_cases h2:k=.l d
    ·subst h2;simp
    ·rw [if_neg (Ne.symm h2),ih,if_neg h2,if_neg h2,if_neg h2,if_neg h2,if_neg (Ne.symm h2)]
   ·simp only [if_neg h1,Zas]
    by_cases h2:k1=k
    ·subst h2;simp [h1]
    ·rw [if_neg h2,ih,if_neg h2]
  have hne:¬ Key.l d=Key.l q:=fun e=>hdq (by cases e;rfl)
  simp only [mapO,r1]
  by_cases h1:k1=.l d
  ·subst h1
   simp only [if_true,Zas]
   by_cases h2:k=.l q
   ·subst h2;simp
   ·rw [if_neg (Ne.symm h2),ih,if_neg h2,if_neg h2]
    by_cases h3:k=.l d
    ·simp [h3]
    ·rw [if_neg h3,if_neg h3,if_neg (Ne.symm h3)]
  ·by_cases h2:k1=.l q
   ·subst h2
    simp only [if_neg h1,if_true]
    rw [ih]
    simp only [Zas]
    by_cases h3:k=.l q
    ·subst h3;simp [Ne.symm hne]
    ·rw [if_neg h3,if_neg h3,if_neg (Ne.symm h3)]
   ·simp only [if_neg h1,if_neg h2,Zas]
    by_cases h3:k1=k
    ·subst h3;simp [h1,h2]
    ·rw [if_neg h3,ih,if_neg h3]
theorem StF.ren1 (hs:StF E B w L ι fr a) (d q:Nat):∃ ι',StF E B w (mapO (r1 d q) L) ι' (fr.map (·.ren (r1 d q))) a:=by
 obtain ⟨h,hf,hd⟩:=hs
 let ι':Key→Value:=fun k=>if k=.l q then ι (.l d) else ι k
 have hi:∀ k k',r1 d q k=some k'→ι' k'=ι k:=by
  intro k k' hk
  unfold r1 at hk
  split at hk
  ·rename_i e;cases hk;subst e;simp [ι']
  ·split at hk
   ·cases hk
   ·rename_i e1 e2;cases hk;simp [ι',e2]
 have hlk:∀ {k:Key} {ao:AO},Zas (mapO (r1 d q) L) k=some ao→∃ k' ao',Zas L k'=some ao'∧r1 d q k'=some k∧ao=ao'.ren (r1 d q):=fun hl=>look_mapO r1_inj hl
 have hO:∀ b,Own (mapO (r1 d q) L) ι' b→Own L ι b:=by
  rintro b ⟨k,ao,h1,h2⟩
  obtain ⟨k',ao',g1,g2,_⟩:=hlk h1
  exact ⟨k',ao',g1,by rw [← hi k' k g2];exact h2⟩
 have hk:Keeps w w (fun b=>Own L ι b∨B.X b) (fun b=>Own (mapO (r1 d q) L) ι' b∨B.X b):=fun b _ hu=>⟨rfl,fun h=>hu (h.imp (hO b) id)⟩
 refine ⟨ι',⟨h.grow,⟨fun k ao hl=>?_,fun k k' ao ao' b h1 h2 h3 h4=>?_⟩,fun b hb=>h.own b (hO b hb),h.xlt,fun k h0 h1=>?_,h.env,h.envb,h.loc,h.xdis⟩,⟨by simpa using hf.1,fun i x hx=>?_⟩,hd⟩
 ·obtain ⟨k',ao',g1,g2,rfl⟩:=hlk hl
  exact ((h.sim.obj k' ao' g1).ren hi (hi k' k g2)).keeps hk
 ·obtain ⟨j,_,g1,g2,_⟩:=hlk h1
  obtain ⟨j',_,g3,g4,_⟩:=hlk h2
  have:=h.sim.inj j j' _ _ b g1 g3 (by rw [← hi j k g2];exact h3) (by rw [← hi j' k' g4];exact h4)
  subst this
  rw [g2] at g4
  cases g4
  rfl
 ·obtain ⟨ao,hao⟩:=Option.isSome_iff_exists.1 h1
  obtain ⟨k',ao',g1,g2,_⟩:=hlk hao
  have:k'=k:=by
   unfold r1 at g2
   split at g2
   ·cases g2;rw [h.loc q] at h0;cases h0
   ·split at g2
    ·cases g2
    ·cases g2;rfl
  subst this
  rw [hi k' k' g2]
  exact h.keep k' h0 (by rw [g1];rfl)
 ·rw [List.getElem?_map,Option.map_eq_some_iff] at hx
  obtain ⟨y,hy,rfl⟩:=hx
  obtain ⟨u,hu,hr⟩:=hf.2 i y hy
  exact ⟨u,hu,(hr.ren hi).mono hk⟩
theorem re_le {fr':List AV} (h:Zb fr fr'):ReOk E fr L fr' L:=fun B w ι a hs=>by
 obtain ⟨g1,g2⟩:=h.get
 refine ⟨ι,hs.1,⟨by rw [hs.2.1.1,g1],fun i y hy=>?_⟩,hs.2.2⟩
 obtain ⟨x,hx,hxy⟩:=g2 i y hy
 obtain ⟨v,hv,hr⟩:=hs.2.1.2 i x hx
 exact ⟨v,hv,hxy.rep hr⟩
theorem re_ren (d q:Nat):ReOk E fr L (fr.map (·.ren (r1 d q))) (mapO (r1 d q) L):=fun B w ι a hs=>hs.ren1 d q
theorem re_rowv {k:Key} {es:List (List PV)} {e z:Nat} (hl:Zas L k=some (.row es e z true)):ReOk E fr L fr (Zat L k (.rowv (es.map (·.map .p)) e z)):=fun B w ι a hs=>⟨ι,hs.retell k _ _ hl fun U h=>by
 obtain ⟨vs,h1,h2,h3,h4⟩:=h
 refine ⟨vs,by simpa using h1,h2,fun x hx=>?_,fun j x hx=>?_⟩
 ·obtain ⟨y,hy,rfl⟩:=List.mem_map.1 hx
  simpa using h4 y hy
 ·rw [← List.map_flatten,List.getElem?_map,Option.map_eq_some_iff] at hx
  obtain ⟨y,hy,rfl⟩:=hx
  exact h3.get hy⟩
theorem re_plain {k:Key} {es:List (List AV)} {es':List (List PV)} {e z:Nat} (hl:Zas L k=some (.rowv es e z)) (hp:Zbb es=some es'):ReOk E fr L fr (Zat L k (.row es' e z true)):=fun B w ι a hs=>⟨ι,hs.retell k _ _ hl fun U h=>h.plain hp⟩
theorem re_mapv {k:Key} {kv:List (List UInt8×PV)} {kt et:Nat} (hl:Zas L k=some (.map kv kt et)):ReOk E fr L fr (Zat L k (.mapv (kv.map fun p=>(p.1,.p p.2)) kt et)):=fun B w ι a hs=>⟨ι,hs.retell k _ _ hl fun U h=>by
 obtain ⟨r,ents,cl,e1,e2,e3,e4⟩:=h
 refine ⟨r,ents,cl,e1,e2,by rw [e3.1,List.map_map];rfl,e4,fun j p hp=>?_⟩
 rw [List.getElem?_map,Option.map_eq_some_iff] at hp
 obtain ⟨y,hy,rfl⟩:=hp
 exact e3.get j y hy⟩
theorem re_plainM {k:Key} {kv:List (List UInt8×AV)} {kv':List (List UInt8×PV)} {kt et:Nat} (hl:Zas L k=some (.mapv kv kt et)) (hp:Zbc kv=some kv'):ReOk E fr L fr (Zat L k (.map kv' kt et)):=fun B w ι a hs=>⟨ι,hs.retell k _ _ hl fun U h=>h.plainM hp⟩
theorem re_row {k:Key} {es:List (List PV)} {e z:Nat} {ap:Bool} (hl:Zas L k=some (.row es e z ap)):ReOk E fr L (fr.map (·.thaw k (.sl z es))) (Zaw k (.sl z es) L):=fun B w ι a hs=>⟨ι,hs.thaw hl⟩
theorem re_box {k:Key} {cs:List PV} {t:TypeId} (hl:Zas L k=some (.box (cs.map .p) t)):ReOk E fr L (fr.map (·.thaw k (.ptr cs))) (Zaw k (.ptr cs) L):=fun B w ι a hs=>⟨ι,hs.thawB hl⟩
theorem re_map {k:Key} {kv:List (List UInt8×PV)} {kt et:Nat} (hl:Zas L k=some (.map kv kt et)):ReOk E fr L (fr.map (·.thaw k (.mpv (kv.map (·.1)) (kv.map (·.2))))) (Zaw k (.mpv (kv.map (·.1)) (kv.map (·.2))) L):=fun B w ι a hs=>⟨ι,hs.thawM hl⟩
end
section
variable {α:Type} [DecidableEq α]
def lc:List α→List α→Nat
 |[],_=>0
 |_ :: _,[]=>0
 |a :: az,b :: bs=>if a=b then lc az bs+1 else max (lc az (b :: bs)) (lc (a :: az) bs)
termination_by x y=>x.length+y.length
def fk (a:α) (az bs:List α) (m:Nat):List α→Nat→Option Nat
 |[],_=>none
 |b :: r,k=>if a=b∧lc az (bs.drop (k+1))+1=m then some k else fk a az bs m r (k+1)
end
end Go.Proofs.YtehfjlpenlffmaaGreatDoor
