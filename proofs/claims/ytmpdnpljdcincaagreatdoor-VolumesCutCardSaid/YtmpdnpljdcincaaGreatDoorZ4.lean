import Derived.Test.YtmpdnpljdcincaaGreatDoorZ3
import Derived.Lib.Builder
import Derived.Lib.UnsafeStr
import Derived.Lib.AppendStr
set_option linter.unusedVariables false
set_option linter.unusedSimpArgs false
set_option linter.defProp false
namespace Go.Proofs.YtmpdnpljdcincaaGreatDoor
open Option.some renaming injEq→zh
open List renaming eq_nil_of_length_eq_zero→zr,map_congr_left→zP,map_cons→zx,map_map→ya,replicate→zM
open Bool renaming and_eq_true→zj
open Option renaming map_eq_some_iff→zi,map_some→zN
def chkF (P:Program) (fn:Func) (ic:IC) (rs:List IRes) (n:Nat):Bool:=
 match fn.body with
 |some c=>chkC P qoL ic c && qek P fn.results.toList rs && fn.ntmps == n
 |none=>false
section
variable {P:Program} {E:Envt}
theorem qag (hm:P.follows .mixedOrders=true) {f:FuncId} {fn:Func} {ic:IC} {rs:List IRes} {args:List PV} {n:Nat} {φ:PV→Prop} (hf:P.funcs[f]?=some fn) (hc:chkF P fn ic rs n=true)
  (h:awp P E ic (args.map .p++zM (n - args.length) .any) [] (retQ rs fun x _=>φ x)):PCall P E f args φ:=by
 unfold chkF at hc
 split at hc
 ·rename_i c hb
  simp only [zj,beq_iff_eq] at hc
  exact qoH (qxZ hm) hf hb hc.2 hc.1.1 hc.1.2 h
 ·cases hc
def qp1 (P:Program) (E:Envt) (y:IC) (Q:AQ):AQ:=qmL (fun fr L=>awp P E y fr L Q) Q
def BrC (P:Program) (E:Envt) (b:Bool) (x y:IC) (fr:List AV) (L:Objs) (Q:AQ):Prop:=BrQ b (awp P E x fr L Q) (awp P E y fr L Q)
def qAb (P:Program) (E:Envt) (x:IC) (fr:List AV) (L:Objs) (Q:AQ):Prop:=awp P E (.loop x) fr L Q
def DrgC (P:Program) (E:Envt) (ops:List IOper) (fr:List AV) (L:Objs) (K:List AV→Objs→Prop):Prop:=∃ X,qaa P E X ops fr L K
def qef (P:Program) (E:Envt) (X:List PV) (is:List IOper) (K:List AV→Objs→Prop):List AV→Objs→Prop:=fun fr L=>qaa P E X is fr L K
theorem ReOk.refl {fr:List AV} {L:Objs}:ReOk E fr L fr L:=fun B w ι a hs=>⟨ι,hs⟩
theorem ReOk.trans {fr fr1 fr2:List AV} {L L1 L2:Objs} (h:ReOk E fr L fr1 L1) (k:ReOk E fr1 L1 fr2 L2):ReOk E fr L fr2 L2:=fun B w ι a hs=>by
 obtain ⟨ι1,hs1⟩:=h B w ι a hs
 exact k B w ι1 a hs1
theorem qax {fr fr':List AV} {L L':Objs} (h1:Za fr fr') (h2:Zc L' L):ReOk E fr L fr' L':=fun B w ι a hs=>⟨ι,hs.weak h1 h2⟩
def EndR (E:Envt) (I:Nat→List AV→Objs→Prop) (n:Nat) (fr:List AV) (L:Objs):Prop:=∃ m fr' L',m < n∧ReOk E fr L fr' L'∧I m fr' L'
def qou (E:Envt) (I:Nat→List AV→Objs→Prop) (n:Nat) (Q:AQ):AQ:=qmL (EndR E I n) Q
def CutC (P:Program) (E:Envt) (x:IC) (fr:List AV) (L:Objs) (Q:AQ):Prop:=∃ fr' L',ReOk E fr L fr' L'∧awp P E x fr' L' Q
def MidK (E:Envt) (M:List AV→Objs→Prop) (fr:List AV) (L:Objs):Prop:=∃ fr' L',ReOk E fr L fr' L'∧M fr' L'
def midQ (E:Envt) (M:List AV→Objs→Prop) (Q:AQ):AQ:=qmL (MidK E M) Q
variable {fr:List AV} {L:Objs} {Q:AQ} {X:List PV} {K:List AV→Objs→Prop}
theorem qxd:awp P E .skip fr L Q=Q .normal fr L:=rfl
theorem qxf {i:Nat}:awp P E (.exit i) fr L Q=Q (.exit i) fr L:=rfl
theorem qz1:awp P E .ret fr L Q=Q .ret fr L:=rfl
theorem qz0 {x y:IC}:awp P E (.seq x y) fr L Q=awp P E x fr L (qp1 P E y Q):=rfl
theorem qvd {i:Nat} {x:IC}:awp P E (.block i x) fr L Q=awp P E x fr L (qke i Q):=rfl
theorem qz2 {ops:List IOper}:awp P E (.reg ops) fr L Q=qaa P E [] ops fr L (Q .normal):=rfl
theorem qz4 {ops:List IOper}:awp P E (.drg ops) fr L Q=DrgC P E ops fr L (Q .normal):=rfl
theorem qz3 {pm:List Nat} {ops:List IOper}:awp P E (.drp pm ops) fr L Q=DrgC P E ops fr L (Q .normal):=rfl
theorem qxe {x:IC}:awp P E (.loop x) fr L Q=qAb P E x fr L Q:=rfl
theorem qxg {c:Opd} {x y:IC}:awp P E (.cond c x y) fr L Q=(match rd fr c with|.p (.bool b)=>BrC P E b x y fr L Q|_=>False):=rfl
theorem qyg {y:IC}:qp1 P E y Q .normal fr L=awp P E y fr L Q:=rfl
theorem qyf {y:IC}:qp1 P E y Q .ret fr L=Q .ret fr L:=rfl
theorem qyh {y:IC} {i:Nat}:qp1 P E y Q (.exit i) fr L=Q (.exit i) fr L:=rfl
theorem qw6 {i:Nat}:qke i Q .normal fr L=Q .normal fr L:=rfl
theorem qw5 {i:Nat}:qke i Q .ret fr L=Q .ret fr L:=rfl
theorem qw7 {i j:Nat}:qke i Q (.exit j) fr L=if j=i then Q .normal fr L else Q (.exit j) fr L:=rfl
theorem qv6 {I:Nat→List AV→Objs→Prop} {n:Nat}:qou E I n Q .normal fr L=EndR E I n fr L:=rfl
theorem qz5 {x:IC}:awp P E (.cut x) fr L Q=CutC P E x fr L Q:=rfl
theorem qA3 {M:List AV→Objs→Prop}:midQ E M Q .normal fr L=MidK E M fr L:=rfl
theorem qA2 {M:List AV→Objs→Prop}:midQ E M Q .ret fr L=Q .ret fr L:=rfl
theorem qA4 {M:List AV→Objs→Prop} {i:Nat}:midQ E M Q (.exit i) fr L=Q (.exit i) fr L:=rfl
theorem qv5 {I:Nat→List AV→Objs→Prop} {n:Nat}:qou E I n Q .ret fr L=Q .ret fr L:=rfl
theorem qv7 {I:Nat→List AV→Objs→Prop} {n i:Nat}:qou E I n Q (.exit i) fr L=Q (.exit i) fr L:=rfl
theorem qAB {rs:List IRes} {φ:PV→Objs→Prop}:retQ rs φ .ret fr L=RetK (Zbc fr L rs) φ L:=rfl
theorem qAC {rs:List IRes} {φ:PV→Objs→Prop}:retQ rs φ .normal fr L=RetK (Zbc fr L rs) φ L:=rfl
theorem qxD {x y:IC}:BrC P E true x y fr L Q=awp P E x fr L Q:=by simp [BrC,BrQ]
theorem qvB {x y:IC}:BrC P E false x y fr L Q=awp P E y fr L Q:=by simp [BrC,BrQ]
theorem br {b:Bool} {x y:IC} (h1:b=true→awp P E x fr L Q) (h2:b=false→awp P E y fr L Q):BrC P E b x y fr L Q:=⟨h1,h2⟩
theorem qac {x:IC} (I:Nat→List AV→Objs→Prop) (n:Nat) (fr':List AV) (L':Objs) (h1:Za fr fr') (h2:Zc L' L) (h0:I n fr' L') (hr:∀ n fr L,I n fr L→awp P E x fr L (qou E I n Q)):qAb P E x fr L Q:=⟨I,⟨n,fr',L',qax h1 h2,h0⟩,hr⟩
theorem qfR {x:IC} (I:Nat→List AV→Objs→Prop) (n:Nat) (fr':List AV) (L':Objs) (h1:ReOk E fr L fr' L') (h0:I n fr' L') (hr:∀ n fr L,I n fr L→awp P E x fr L (qou E I n Q)):qAb P E x fr L Q:=⟨I,⟨n,fr',L',h1,h0⟩,hr⟩
theorem qe4 {I:Nat→List AV→Objs→Prop} {n:Nat} (m:Nat) (fr':List AV) (L':Objs) (hm:m < n) (h1:ReOk E fr L fr' L') (h0:I m fr' L'):EndR E I n fr L:=⟨m,fr',L',hm,h1,h0⟩
theorem qaF {x:IC} (fr':List AV) (L':Objs) (h1:ReOk E fr L fr' L') (h:awp P E x fr' L' Q):CutC P E x fr L Q:=⟨fr',L',h1,h⟩
theorem qab {I:Nat→List AV→Objs→Prop} {n:Nat} (m:Nat) (fr':List AV) (L':Objs) (hm:m < n) (h1:Za fr fr') (h2:Zc L' L) (h0:I m fr' L'):EndR E I n fr L:=⟨m,fr',L',hm,qax h1 h2,h0⟩
theorem qdP {M:List AV→Objs→Prop} (fr':List AV) (L':Objs) (h1:Za fr fr') (h2:Zc L' L) (h0:M fr' L'):MidK E M fr L:=⟨fr',L',qax h1 h2,h0⟩
theorem qmj (k:Key) (cs:List PV):(cs.map AV.p).map (fun x=>AV.kill k x)=cs.map AV.p:=by
 rw [ya];exact zP fun x _=>rfl
theorem qsv (k:Key) (y:PV) (cs:List PV):(cs.map AV.p).map (fun x=>AV.thaw k y x)=cs.map AV.p:=by
 rw [ya];exact zP fun x _=>rfl
theorem qaj {x:IC} (h2:Zc L L) (h:awp P E x fr L Q):CutC P E x fr L Q:=⟨fr,L,ReOk.refl,h⟩
theorem qiC {K':List AV→Objs→Prop} (hk:∀ fr L,K fr L→K' fr L):∀ (is:List IOper) (fr:List AV) (L:Objs),qaa P E X is fr L K→qaa P E X is fr L K':=by
 intro is
 induction is with
 |nil=>intro fr L h;exact hk fr L h
 |cons i is ih=>
  obtain ⟨d,op,gd⟩:=i
  intro fr L h
  have hcall:∀ f as d fr,qbF P E f as L d fr (fun fr L=>qaa P E X is fr L K)→qbF P E f as L d fr (fun fr L=>qaa P E X is fr L K'):=by
   intro f as d fr h
   rcases h with ⟨φ,h1,h2⟩|⟨bk,post,h1,h2,h3,h4⟩|⟨i0,h⟩
   ·exact .inl ⟨φ,h1,fun x hx=>ih _ _ (h2 x hx)⟩
   ·refine .inr (.inl ⟨bk,post,h1,h2,h3,fun r os' hp=>?_⟩)
    have:=h4 r os' hp
    cases r with
    |p x=>exact ih _ _ this
    |fr es e z=>cases d with
     |none=>exact ih _ _ this
     |some d=>exact ih _ _ this
    |ft es e z ps=>cases d with
     |none=>exact ih _ _ this
     |some d=>exact ih _ _ this
   ·refine .inr (.inr ⟨i0,fun w X' ι vs a1 a2 a3 a4 a5=>(h w X' ι vs a1 a2 a3 a4 a5).mono ?_⟩)
    rintro e w' ⟨v,r,L',ι',b1,b2,b3⟩
    exact ⟨v,r,L',ι',b1,ih _ _ b2,b3⟩
  cases gd with
  |none=>
   cases op with
   |call f args=>exact ⟨h.1,hcall _ _ _ _ h.2⟩
   |pcall n f args=>exact ⟨h.1,ih _ _ h.2⟩
   |dcall b f args=>
    obtain ⟨h0,k,t,cs,post,h1,h2,h3,h4,h5,h6⟩:=h
    exact ⟨h0,k,t,cs,post,h1,h2,h3,h4,h5,fun x cs' hp=>ih _ _ (h6 x cs' hp)⟩
   |callv g args=>
    simp only [qaa] at h ⊢
    split at h
    ·exact ⟨h.1,h.2.1,h.2.2.1,h.2.2.2.1,hcall _ _ _ _ h.2.2.2.2⟩
    ·exact h.elim
   |pcv n g args=>
    simp only [qaa] at h ⊢
    split at h
    ·exact ⟨h.1,ih _ _ h.2⟩
    ·exact h.elim
   |fz x=>
    simp only [qaa] at h ⊢
    split at h
    ·exact ih _ _ h
    ·exact ih _ _ h
   |hole x=>exact ih _ _ h
   |fcl n f args e z=>
    simp only [qaa] at h ⊢
    split at h
    ·exact ⟨h.1,ih _ _ h.2⟩
    ·exact h.elim
   |re=>obtain ⟨fr',L',h1,h2⟩:=h;exact ⟨fr',L',h1,ih _ _ h2⟩
   |isn x=>
    simp only [qaa] at h ⊢
    split at h
    ·exact ⟨h.1,fun b hb=>ih _ _ (h.2 b hb)⟩
    ·exact h.elim
   |_=>
    simp only [qaa] at h ⊢
    split at h
    ·exact ⟨h.1,ih _ _ h.2⟩
    ·exact h.elim
  |some q=>
   obtain ⟨s,want⟩:=q
   simp only [qaa] at h ⊢
   split at h
   ·cases op with
    |call f args=>
     simp only at h ⊢
     rcases h with ⟨h1,⟨x,h2,h3⟩|⟨h2,h3⟩⟩
     ·exact ⟨h1,.inl ⟨x,h2,ih _ _ h3⟩⟩
     ·exact ⟨h1,.inr ⟨fun e=>hcall _ _ _ _ (h2 e),fun e=>ih _ _ (h3 e)⟩⟩
    |pcall n f args=>simp only at h ⊢;exact ⟨h.1,ih _ _ h.2⟩
    |callv g args=>
     simp only at h ⊢
     split at h
     ·rcases h with ⟨h0,h1,⟨x,h2,h3⟩|⟨h2,h3⟩⟩
      ·exact ⟨h0,h1,.inl ⟨x,h2,ih _ _ h3⟩⟩
      ·exact ⟨h0,h1,.inr ⟨fun e=>hcall _ _ _ _ (h2 e),fun e=>ih _ _ (h3 e)⟩⟩
     ·exact ⟨h.1,ih _ _ h.2⟩
    |pcv n g args=>
     simp only at h ⊢
     split at h
     ·exact ⟨h.1,ih _ _ h.2⟩
     ·exact h.elim
    |_=>
     simp only at h ⊢
     split at h
     ·exact ⟨h.1,ih _ _ h.2⟩
     ·exact ⟨h.1,h.2.1,ih _ _ h.2.2⟩
   ·exact h.elim
theorem qr4:∀ (x:IC) (fr:List AV) (L:Objs) (Q Q':AQ),(∀ e fr L,Q e fr L→Q' e fr L)→awp P E x fr L Q→awp P E x fr L Q':=by
 intro x
 induction x with
 |skip=>intro fr L Q Q' hq h;exact hq _ _ _ h
 |reg ops=>intro fr L Q Q' hq h;exact qiC (hq .normal) ops fr L h
 |drg ops=>intro fr L Q Q' hq h;obtain ⟨Y,h⟩:=h;exact ⟨Y,qiC (hq .normal) ops fr L h⟩
 |drp pm ops=>intro fr L Q Q' hq h;obtain ⟨Y,h⟩:=h;exact ⟨Y,qiC (hq .normal) ops fr L h⟩
 |seq x y ihx ihy=>
  intro fr L Q Q' hq h
  refine ihx fr L _ _ (fun e fr L h=>?_) h
  cases e<;>first|exact ihy fr L Q Q' hq h|exact hq _ _ _ h
 |cond c x y ihx ihy=>
  intro fr L Q Q' hq h
  simp only [awp] at h ⊢
  split at h
  ·exact ⟨fun e=>ihx fr L Q Q' hq (h.1 e),fun e=>ihy fr L Q Q' hq (h.2 e)⟩
  ·exact h.elim
 |block i x ih=>
  intro fr L Q Q' hq h
  refine ih fr L _ _ (fun e fr L h=>?_) h
  cases e with
  |exit j=>
   simp only [qke] at h ⊢
   split at h
   ·rename_i hj;rw [if_pos hj];exact hq _ _ _ h
   ·rename_i hj;rw [if_neg hj];exact hq _ _ _ h
  |_=>exact hq _ _ _ h
 |loop x ih=>
  intro fr L Q Q' hq h
  obtain ⟨I,h0,hr⟩:=h
  refine ⟨I,h0,fun n fr L hi=>ih fr L _ _ (fun e fr L h=>?_) (hr n fr L hi)⟩
  cases e with
  |normal=>exact h
  |_=>exact hq _ _ _ h
 |exit i=>intro fr L Q Q' hq h;exact hq _ _ _ h
 |ret=>intro fr L Q Q' hq h;exact hq _ _ _ h
 |dead=>intro fr L Q Q' hq h;exact h.elim
 |cut x ih=>intro fr L Q Q' hq h;obtain ⟨fr',L',h1,h⟩:=h;exact ⟨fr',L',h1,ih fr' L' Q Q' hq h⟩
theorem qgj {b:Bool} {x y r:IC} (M:List AV→Objs→Prop) (h1:b=true→awp P E x fr L (midQ E M Q)) (h2:b=false→awp P E y fr L (midQ E M Q)) (hM:∀ fr L,M fr L→awp P E r fr L Q):BrC P E b x y fr L (qp1 P E (.cut r) Q):=by
 have hq:∀ e fr L,midQ E M Q e fr L→qp1 P E (.cut r) Q e fr L:=by
  intro e fr L h
  cases e with
  |normal=>obtain ⟨fr',L',a1,a3⟩:=h;exact ⟨fr',L',a1,hM fr' L' a3⟩
  |_=>exact h
 exact ⟨fun e=>qr4 x fr L _ _ hq (h1 e),fun e=>qr4 y fr L _ _ hq (h2 e)⟩
theorem drg0 {ops:List IOper} (h:qaa P E [] ops fr L K):DrgC P E ops fr L K:=⟨_,h⟩
theorem drg1 {ops:List IOper} {x1:PV} (h:qaa P E [x1] ops fr L K):DrgC P E ops fr L K:=⟨_,h⟩
theorem drg2 {ops:List IOper} {x1 x2:PV} (h:qaa P E [x1,x2] ops fr L K):DrgC P E ops fr L K:=⟨_,h⟩
def isOp:IOp→Bool
 |.call ..|.pcall ..|.dcall ..|.callv ..|.pcv ..|.fz ..|.hole ..|.isn ..|.re|.fcl ..=>false
 |_=>true
def OpsK (P:Program) (E:Envt) (X:List PV) (q:Option (Prop×List AV×Objs)) (is:List IOper) (K:List AV→Objs→Prop):Prop:=
 match q with
 |some (c,fr',L')=>c∧qaa P E X is fr' L' K
 |none=>False
def GdK (P:Program) (E:Envt) (X:List PV) (pl:Bool) (g:Option Bool) (q:Option (Prop×AV)) (d:Option Nat) (is:List IOper) (fr:List AV) (L:Objs) (K:List AV→Objs→Prop):Prop:=
 match g with
 |some c0=>match q with
  |some (c,r)=>(c0=true→c)∧qaa P E X is (Zf fr d (.g c0 r)) L K
  |none=>pl=true∧c0=false∧qaa P E X is (Zf fr d (.g c0 .any)) L K
 |none=>False
theorem qvo {c:Prop} {fr':List AV} {L':Objs} {is:List IOper}:OpsK P E X (some (c,fr',L')) is K=(c∧qaa P E X is fr' L' K):=rfl
theorem qxy {c0:Bool} {d:Option Nat} {is:List IOper}:GdK P E X true (some c0) none d is fr L K=(c0=false∧qaa P E X is (Zf fr d (.g c0 .any)) L K):=by simp [GdK]
theorem qxx {pl c0:Bool} {c:Prop} {r:AV} {d:Option Nat} {is:List IOper}:GdK P E X pl (some c0) (some (c,r)) d is fr L K=((c0=true→c)∧qaa P E X is (Zf fr d (.g c0 r)) L K):=rfl
theorem qzc:qaa P E X [] fr L K=K fr L:=rfl
theorem qaA {d:Option Nat} {op:IOp} {is:List IOper} (h:isOp op=true):qaa P E X (⟨d,op,none⟩ :: is) fr L K=OpsK P E X (Zd d fr L op) is K:=by
 cases op<;>first|rfl|(simp [isOp] at h)
theorem qbd {d:Option Nat} {op:IOp} {is:List IOper} {s:Nat} {want:Bool} (h:isOp op=true):qaa P E X (⟨d,op,some (s,want)⟩ :: is) fr L K=GdK P E X (qcF op) (Zg fr s want) (Ze fr L op) d is fr L K:=by
 cases op<;>first|rfl|(simp [isOp] at h)
def qcE (P:Program) (E:Envt) (X:List PV) (q:Option (Prop×AV)) (d:Option Nat) (is:List IOper) (fr:List AV) (L:Objs) (K:List AV→Objs→Prop):Prop:=
 match q with
 |some (c,r)=>c∧qaa P E X is (Zf fr d r) L K
 |none=>False
theorem qsN {c:Prop} {r:AV} {d:Option Nat} {is:List IOper}:qcE P E X (some (c,r)) d is fr L K=(c∧qaa P E X is (Zf fr d r) L K):=rfl
theorem qat {op:IOp} {d:Option Nat} {is:List IOper} (h:Zd d fr L op=(Ze fr L op).map (fun q=>(q.1,Zf fr d q.2,L))):OpsK P E X (Zd d fr L op) is K=qcE P E X (Ze fr L op) d is fr L K:=by
 rw [h]
 cases Ze fr L op<;>rfl
theorem qB5 {d:Option Nat} {is:List IOper} {_x}:qaa P E X (⟨d,.mov _x,none⟩ :: is) fr L K=qcE P E X (Ze fr L (.mov _x)) d is fr L K:=by rw [qaA rfl];exact qat rfl
theorem qCE {d:Option Nat} {is:List IOper} {s:Nat} {want:Bool} {_x}:qaa P E X (⟨d,.mov _x,some (s,want)⟩ :: is) fr L K=GdK P E X true (Zg fr s want) (Ze fr L (.mov _x)) d is fr L K:=qbd rfl
theorem qAR {d:Option Nat} {is:List IOper} {_c} {_a} {_b}:qaa P E X (⟨d,.pick _c _a _b,none⟩ :: is) fr L K=qcE P E X (Ze fr L (.pick _c _a _b)) d is fr L K:=by rw [qaA rfl];exact qat rfl
theorem qBf {d:Option Nat} {is:List IOper} {s:Nat} {want:Bool} {_c} {_a} {_b}:qaa P E X (⟨d,.pick _c _a _b,some (s,want)⟩ :: is) fr L K=GdK P E X true (Zg fr s want) (Ze fr L (.pick _c _a _b)) d is fr L K:=qbd rfl
theorem qCp {d:Option Nat} {is:List IOper} {_b} {_x} {_y}:qaa P E X (⟨d,.bin _b _x _y,none⟩ :: is) fr L K=qcE P E X (Ze fr L (.bin _b _x _y)) d is fr L K:=by rw [qaA rfl];exact qat rfl
theorem qCU {d:Option Nat} {is:List IOper} {s:Nat} {want:Bool} {_b} {_x} {_y}:qaa P E X (⟨d,.bin _b _x _y,some (s,want)⟩ :: is) fr L K=GdK P E X true (Zg fr s want) (Ze fr L (.bin _b _x _y)) d is fr L K:=qbd rfl
theorem qCn {d:Option Nat} {is:List IOper} {_b} {_x} {_y}:qaa P E X (⟨d,.bnb _b _x _y,none⟩ :: is) fr L K=qcE P E X (Ze fr L (.bnb _b _x _y)) d is fr L K:=by rw [qaA rfl];exact qat rfl
theorem qCS {d:Option Nat} {is:List IOper} {s:Nat} {want:Bool} {_b} {_x} {_y}:qaa P E X (⟨d,.bnb _b _x _y,some (s,want)⟩ :: is) fr L K=GdK P E X true (Zg fr s want) (Ze fr L (.bnb _b _x _y)) d is fr L K:=qbd rfl
theorem qCh {d:Option Nat} {is:List IOper} {_n} {_k} {_x} {_y}:qaa P E X (⟨d,.eqa _n _k _x _y,none⟩ :: is) fr L K=qcE P E X (Ze fr L (.eqa _n _k _x _y)) d is fr L K:=by rw [qaA rfl];exact qat rfl
theorem qCO {d:Option Nat} {is:List IOper} {s:Nat} {want:Bool} {_n} {_k} {_x} {_y}:qaa P E X (⟨d,.eqa _n _k _x _y,some (s,want)⟩ :: is) fr L K=GdK P E X true (Zg fr s want) (Ze fr L (.eqa _n _k _x _y)) d is fr L K:=qbd rfl
theorem qB0 {d:Option Nat} {is:List IOper} {_x}:qaa P E X (⟨d,.not _x,none⟩ :: is) fr L K=qcE P E X (Ze fr L (.not _x)) d is fr L K:=by rw [qaA rfl];exact qat rfl
theorem qCB {d:Option Nat} {is:List IOper} {s:Nat} {want:Bool} {_x}:qaa P E X (⟨d,.not _x,some (s,want)⟩ :: is) fr L K=GdK P E X true (Zg fr s want) (Ze fr L (.not _x)) d is fr L K:=qbd rfl
theorem qB9 {d:Option Nat} {is:List IOper} {_x}:qaa P E X (⟨d,.len _x,none⟩ :: is) fr L K=qcE P E X (Ze fr L (.len _x)) d is fr L K:=by rw [qaA rfl];exact qat rfl
theorem qCG {d:Option Nat} {is:List IOper} {s:Nat} {want:Bool} {_x}:qaa P E X (⟨d,.len _x,some (s,want)⟩ :: is) fr L K=GdK P E X true (Zg fr s want) (Ze fr L (.len _x)) d is fr L K:=qbd rfl
theorem qBY {d:Option Nat} {is:List IOper} {_x}:qaa P E X (⟨d,.sln _x,none⟩ :: is) fr L K=qcE P E X (Ze fr L (.sln _x)) d is fr L K:=by rw [qaA rfl];exact qat rfl
theorem qCA {d:Option Nat} {is:List IOper} {s:Nat} {want:Bool} {_x}:qaa P E X (⟨d,.sln _x,some (s,want)⟩ :: is) fr L K=GdK P E X true (Zg fr s want) (Ze fr L (.sln _x)) d is fr L K:=qbd rfl
theorem o_mx {d:Option Nat} {is:List IOper} {_x} {_y}:qaa P E X (⟨d,.mx _x _y,none⟩ :: is) fr L K=qcE P E X (Ze fr L (.mx _x _y)) d is fr L K:=by rw [qaA rfl];exact qat rfl
theorem g_mx {d:Option Nat} {is:List IOper} {s:Nat} {want:Bool} {_x} {_y}:qaa P E X (⟨d,.mx _x _y,some (s,want)⟩ :: is) fr L K=GdK P E X true (Zg fr s want) (Ze fr L (.mx _x _y)) d is fr L K:=qbd rfl
theorem qCd {d:Option Nat} {is:List IOper} {_x} {_y}:qaa P E X (⟨d,.idx _x _y,none⟩ :: is) fr L K=qcE P E X (Ze fr L (.idx _x _y)) d is fr L K:=by rw [qaA rfl];exact qat rfl
theorem qCK {d:Option Nat} {is:List IOper} {s:Nat} {want:Bool} {_x} {_y}:qaa P E X (⟨d,.idx _x _y,some (s,want)⟩ :: is) fr L K=GdK P E X true (Zg fr s want) (Ze fr L (.idx _x _y)) d is fr L K:=qbd rfl
theorem qBX {d:Option Nat} {is:List IOper} {_x} {_l} {_h}:qaa P E X (⟨d,.ssl _x _l _h,none⟩ :: is) fr L K=qcE P E X (Ze fr L (.ssl _x _l _h)) d is fr L K:=by rw [qaA rfl];exact qat rfl
theorem qCz {d:Option Nat} {is:List IOper} {s:Nat} {want:Bool} {_x} {_l} {_h}:qaa P E X (⟨d,.ssl _x _l _h,some (s,want)⟩ :: is) fr L K=GdK P E X true (Zg fr s want) (Ze fr L (.ssl _x _l _h)) d is fr L K:=qbd rfl
theorem qBT {d:Option Nat} {is:List IOper} {_z} {_x} {_l} {_h}:qaa P E X (⟨d,.vsl _z _x _l _h,none⟩ :: is) fr L K=qcE P E X (Ze fr L (.vsl _z _x _l _h)) d is fr L K:=by rw [qaA rfl];exact qat rfl
theorem qCy {d:Option Nat} {is:List IOper} {s:Nat} {want:Bool} {_z} {_x} {_l} {_h}:qaa P E X (⟨d,.vsl _z _x _l _h,some (s,want)⟩ :: is) fr L K=GdK P E X true (Zg fr s want) (Ze fr L (.vsl _z _x _l _h)) d is fr L K:=qbd rfl
theorem qCc {d:Option Nat} {is:List IOper} {_z} {_x} {_y}:qaa P E X (⟨d,.ixa _z _x _y,none⟩ :: is) fr L K=qcE P E X (Ze fr L (.ixa _z _x _y)) d is fr L K:=by rw [qaA rfl];exact qat rfl
theorem qCJ {d:Option Nat} {is:List IOper} {s:Nat} {want:Bool} {_z} {_x} {_y}:qaa P E X (⟨d,.ixa _z _x _y,some (s,want)⟩ :: is) fr L K=GdK P E X true (Zg fr s want) (Ze fr L (.ixa _z _x _y)) d is fr L K:=qbd rfl
theorem qCf {d:Option Nat} {is:List IOper} {_o} {_x}:qaa P E X (⟨d,.fla _o _x,none⟩ :: is) fr L K=qcE P E X (Ze fr L (.fla _o _x)) d is fr L K:=by rw [qaA rfl];exact qat rfl
theorem qCM {d:Option Nat} {is:List IOper} {s:Nat} {want:Bool} {_o} {_x}:qaa P E X (⟨d,.fla _o _x,some (s,want)⟩ :: is) fr L K=GdK P E X true (Zg fr s want) (Ze fr L (.fla _o _x)) d is fr L K:=qbd rfl
theorem qCe {d:Option Nat} {is:List IOper} {_o} {_s} {_a} {_x}:qaa P E X (⟨d,.fld _o _s _a _x,none⟩ :: is) fr L K=qcE P E X (Ze fr L (.fld _o _s _a _x)) d is fr L K:=by rw [qaA rfl];exact qat rfl
theorem qCL {d:Option Nat} {is:List IOper} {s:Nat} {want:Bool} {_o} {_s} {_a} {_x}:qaa P E X (⟨d,.fld _o _s _a _x,some (s,want)⟩ :: is) fr L K=GdK P E X true (Zg fr s want) (Ze fr L (.fld _o _s _a _x)) d is fr L K:=qbd rfl
theorem o_ld {d:Option Nat} {is:List IOper} {_s} {_a} {_x}:qaa P E X (⟨d,.ld _s _a _x,none⟩ :: is) fr L K=qcE P E X (Ze fr L (.ld _s _a _x)) d is fr L K:=by rw [qaA rfl];exact qat rfl
theorem g_ld {d:Option Nat} {is:List IOper} {s:Nat} {want:Bool} {_s} {_a} {_x}:qaa P E X (⟨d,.ld _s _a _x,some (s,want)⟩ :: is) fr L K=GdK P E X true (Zg fr s want) (Ze fr L (.ld _s _a _x)) d is fr L K:=qbd rfl
theorem qCa {d:Option Nat} {is:List IOper} {_n} {_s} {_a} {_x}:qaa P E X (⟨d,.ldn _n _s _a _x,none⟩ :: is) fr L K=qcE P E X (Ze fr L (.ldn _n _s _a _x)) d is fr L K:=by rw [qaA rfl];exact qat rfl
theorem qCH {d:Option Nat} {is:List IOper} {s:Nat} {want:Bool} {_n} {_s} {_a} {_x}:qaa P E X (⟨d,.ldn _n _s _a _x,some (s,want)⟩ :: is) fr L K=GdK P E X false (Zg fr s want) (Ze fr L (.ldn _n _s _a _x)) d is fr L K:=qbd rfl
theorem qCb {d:Option Nat} {is:List IOper} {_s} {_a} {_x}:qaa P E X (⟨d,.ldl _s _a _x,none⟩ :: is) fr L K=qcE P E X (Ze fr L (.ldl _s _a _x)) d is fr L K:=by rw [qaA rfl];exact qat rfl
theorem qCI {d:Option Nat} {is:List IOper} {s:Nat} {want:Bool} {_s} {_a} {_x}:qaa P E X (⟨d,.ldl _s _a _x,some (s,want)⟩ :: is) fr L K=GdK P E X false (Zg fr s want) (Ze fr L (.ldl _s _a _x)) d is fr L K:=qbd rfl
theorem qCg {d:Option Nat} {is:List IOper} {_i} {_x}:qaa P E X (⟨d,.ext _i _x,none⟩ :: is) fr L K=qcE P E X (Ze fr L (.ext _i _x)) d is fr L K:=by rw [qaA rfl];exact qat rfl
theorem qCN {d:Option Nat} {is:List IOper} {s:Nat} {want:Bool} {_i} {_x}:qaa P E X (⟨d,.ext _i _x,some (s,want)⟩ :: is) fr L K=GdK P E X true (Zg fr s want) (Ze fr L (.ext _i _x)) d is fr L K:=qbd rfl
theorem qCo {d:Option Nat} {is:List IOper} {_z} {_p}:qaa P E X (⟨d,.bld _z _p,none⟩ :: is) fr L K=qcE P E X (Ze fr L (.bld _z _p)) d is fr L K:=by rw [qaA rfl];exact qat rfl
theorem qCT {d:Option Nat} {is:List IOper} {s:Nat} {want:Bool} {_z} {_p}:qaa P E X (⟨d,.bld _z _p,some (s,want)⟩ :: is) fr L K=GdK P E X true (Zg fr s want) (Ze fr L (.bld _z _p)) d is fr L K:=qbd rfl
theorem qCj {d:Option Nat} {is:List IOper} {_k} {_x}:qaa P E X (⟨d,.cvi _k _x,none⟩ :: is) fr L K=qcE P E X (Ze fr L (.cvi _k _x)) d is fr L K:=by rw [qaA rfl];exact qat rfl
theorem qCQ {d:Option Nat} {is:List IOper} {s:Nat} {want:Bool} {_k} {_x}:qaa P E X (⟨d,.cvi _k _x,some (s,want)⟩ :: is) fr L K=GdK P E X true (Zg fr s want) (Ze fr L (.cvi _k _x)) d is fr L K:=qbd rfl
theorem qCi {d:Option Nat} {is:List IOper} {_x}:qaa P E X (⟨d,.cvs _x,none⟩ :: is) fr L K=qcE P E X (Ze fr L (.cvs _x)) d is fr L K:=by rw [qaA rfl];exact qat rfl
theorem qCP {d:Option Nat} {is:List IOper} {s:Nat} {want:Bool} {_x}:qaa P E X (⟨d,.cvs _x,some (s,want)⟩ :: is) fr L K=GdK P E X true (Zg fr s want) (Ze fr L (.cvs _x)) d is fr L K:=qbd rfl
theorem qCq {d:Option Nat} {is:List IOper} {_x}:qaa P E X (⟨d,.b2s _x,none⟩ :: is) fr L K=qcE P E X (Ze fr L (.b2s _x)) d is fr L K:=by rw [qaA rfl];exact qat rfl
theorem qCV {d:Option Nat} {is:List IOper} {s:Nat} {want:Bool} {_x}:qaa P E X (⟨d,.b2s _x,some (s,want)⟩ :: is) fr L K=GdK P E X true (Zg fr s want) (Ze fr L (.b2s _x)) d is fr L K:=qbd rfl
theorem qCl {d:Option Nat} {is:List IOper} {_z} {_p}:qaa P E X (⟨d,.bsl _z _p,none⟩ :: is) fr L K=qcE P E X (Ze fr L (.bsl _z _p)) d is fr L K:=by rw [qaA rfl];exact qat rfl
theorem qCR {d:Option Nat} {is:List IOper} {s:Nat} {want:Bool} {_z} {_p}:qaa P E X (⟨d,.bsl _z _p,some (s,want)⟩ :: is) fr L K=GdK P E X true (Zg fr s want) (Ze fr L (.bsl _z _p)) d is fr L K:=qbd rfl
theorem qB1 {d:Option Nat} {is:List IOper} {_x}:qaa P E X (⟨d,.nck _x,none⟩ :: is) fr L K=qcE P E X (Ze fr L (.nck _x)) d is fr L K:=by rw [qaA rfl];exact qat rfl
theorem qCC {d:Option Nat} {is:List IOper} {s:Nat} {want:Bool} {_x}:qaa P E X (⟨d,.nck _x,some (s,want)⟩ :: is) fr L K=GdK P E X true (Zg fr s want) (Ze fr L (.nck _x)) d is fr L K:=qbd rfl
theorem qB8 {d:Option Nat} {is:List IOper} {_f} {_c}:qaa P E X (⟨d,.mkf _f _c,none⟩ :: is) fr L K=qcE P E X (Ze fr L (.mkf _f _c)) d is fr L K:=by rw [qaA rfl];exact qat rfl
theorem qCF {d:Option Nat} {is:List IOper} {s:Nat} {want:Bool} {_f} {_c}:qaa P E X (⟨d,.mkf _f _c,some (s,want)⟩ :: is) fr L K=GdK P E X true (Zg fr s want) (Ze fr L (.mkf _f _c)) d is fr L K:=qbd rfl
theorem qAT {d:Option Nat} {is:List IOper} {_x}:qaa P E X (⟨d,.cap0 _x,none⟩ :: is) fr L K=qcE P E X (Ze fr L (.cap0 _x)) d is fr L K:=by rw [qaA rfl];exact qat rfl
theorem qBg {d:Option Nat} {is:List IOper} {s:Nat} {want:Bool} {_x}:qaa P E X (⟨d,.cap0 _x,some (s,want)⟩ :: is) fr L K=GdK P E X true (Zg fr s want) (Ze fr L (.cap0 _x)) d is fr L K:=qbd rfl
theorem qBS {d:Option Nat} {is:List IOper} {_x} {_h}:qaa P E X (⟨d,.vsn _x _h,none⟩ :: is) fr L K=qcE P E X (Ze fr L (.vsn _x _h)) d is fr L K:=by rw [qaA rfl];exact qat rfl
theorem qCx {d:Option Nat} {is:List IOper} {s:Nat} {want:Bool} {_x} {_h}:qaa P E X (⟨d,.vsn _x _h,some (s,want)⟩ :: is) fr L K=GdK P E X true (Zg fr s want) (Ze fr L (.vsn _x _h)) d is fr L K:=qbd rfl
theorem qB3 {d:Option Nat} {is:List IOper} {_o} {_z} {_x} {_h}:qaa P E X (⟨d,.mpl _o _z _x _h,none⟩ :: is) fr L K=qcE P E X (Ze fr L (.mpl _o _z _x _h)) d is fr L K:=by rw [qaA rfl];exact qat rfl
theorem qCD {d:Option Nat} {is:List IOper} {s:Nat} {want:Bool} {_o} {_z} {_x} {_h}:qaa P E X (⟨d,.mpl _o _z _x _h,some (s,want)⟩ :: is) fr L K=GdK P E X true (Zg fr s want) (Ze fr L (.mpl _o _z _x _h)) d is fr L K:=qbd rfl
theorem qAV {d:Option Nat} {is:List IOper} {_z} {_p}:qaa P E X (⟨d,.bldg _z _p,none⟩ :: is) fr L K=qcE P E X (Ze fr L (.bldg _z _p)) d is fr L K:=by rw [qaA rfl];exact qat rfl
theorem qBh {d:Option Nat} {is:List IOper} {s:Nat} {want:Bool} {_z} {_p}:qaa P E X (⟨d,.bldg _z _p,some (s,want)⟩ :: is) fr L K=GdK P E X true (Zg fr s want) (Ze fr L (.bldg _z _p)) d is fr L K:=qbd rfl
theorem qBW {d:Option Nat} {is:List IOper} {_s} {_p} {_x}:qaa P E X (⟨d,.stg _s _p _x,none⟩ :: is) fr L K=OpsK P E X (Zd d fr L (.stg _s _p _x)) is K:=qaA rfl
theorem qAW {d:Option Nat} {is:List IOper} {_t} {_z}:qaa P E X (⟨d,.alcd _t _z,none⟩ :: is) fr L K=OpsK P E X (Zd d fr L (.alcd _t _z)) is K:=qaA rfl
theorem qAU {d:Option Nat} {is:List IOper} {_e} {_z} {_p}:qaa P E X (⟨d,.bsrd _e _z _p,none⟩ :: is) fr L K=OpsK P E X (Zd d fr L (.bsrd _e _z _p)) is K:=qaA rfl
def IsnK (P:Program) (E:Envt) (X:List PV) (c:Prop) (q:Option (Nat×List (List PV))) (d:Option Nat) (is:List IOper) (fr:List AV) (L:Objs) (K:List AV→Objs→Prop):Prop:=
 match q with
 |some (_,es)=>c∧∀ b:Bool,(b=true→es=[])→qaa P E X is (Zf fr d (.p (.bool b))) L K
 |none=>False
theorem qvq {c:Prop} {z:Nat} {es:List (List PV)} {d:Option Nat} {is:List IOper}:IsnK P E X c (some (z,es)) d is fr L K=(c∧∀ b:Bool,(b=true→es=[])→qaa P E X is (Zf fr d (.p (.bool b))) L K):=rfl
theorem qzd {x:Opd} {d:Option Nat} {is:List IOper}:qaa P E X (⟨d,.isn x,none⟩ :: is) fr L K=IsnK P E X (rd fr x).un.1 (Zv L (rd fr x).un.2) d is fr L K:=rfl
def ReC (P:Program) (E:Envt) (X:List PV) (is:List IOper) (fr:List AV) (L:Objs) (K:List AV→Objs→Prop):Prop:=∃ fr' L',ReOk E fr L fr' L'∧qaa P E X is fr' L' K
theorem qaW {is:List IOper}:qaa P E X (⟨none,.re,none⟩ :: is) fr L K=ReC P E X is fr L K:=rfl
theorem qwk {x:Nat} {is:List IOper}:qaa P E X (⟨none,.hole x,none⟩ :: is) fr L K=qaa P E X is ((fr.map (·.kill (.l x))).set x .any) (Zau L (.l x) Zam) K:=rfl
theorem qB7 {d:Option Nat} {is:List IOper} {_t} {_z}:qaa P E X (⟨d,.mkm _t _z,none⟩ :: is) fr L K=OpsK P E X (Zd d fr L (.mkm _t _z)) is K:=qaA rfl
theorem qB2 {d:Option Nat} {is:List IOper} {_m} {_k} {_v}:qaa P E X (⟨d,.mpu _m _k _v,none⟩ :: is) fr L K=OpsK P E X (Zd d fr L (.mpu _m _k _v)) is K:=qaA rfl
theorem qCr {d:Option Nat} {is:List IOper} {_e} {_z} {_b} {_o} {_x} {_y}:qaa P E X (⟨d,.apz _e _z _b _o _x _y,none⟩ :: is) fr L K=OpsK P E X (Zd d fr L (.apz _e _z _b _o _x _y)) is K:=qaA rfl
theorem qBU {d:Option Nat} {is:List IOper} {_z} {_x} {_y}:qaa P E X (⟨d,.trn _z _x _y,none⟩ :: is) fr L K=OpsK P E X (Zd d fr L (.trn _z _x _y)) is K:=qaA rfl
theorem qB6 {d:Option Nat} {is:List IOper} {_e} {_z} {_b} {_o} {_x} {_y}:qaa P E X (⟨d,.mks _e _z _b _o _x _y,none⟩ :: is) fr L K=OpsK P E X (Zd d fr L (.mks _e _z _b _o _x _y)) is K:=qaA rfl
theorem qAS {d:Option Nat} {is:List IOper} {_e} {_z}:qaa P E X (⟨d,.nilr _e _z,none⟩ :: is) fr L K=OpsK P E X (Zd d fr L (.nilr _e _z)) is K:=qaA rfl
theorem qCt {d:Option Nat} {is:List IOper} {_t} {_z}:qaa P E X (⟨d,.alc _t _z,none⟩ :: is) fr L K=OpsK P E X (Zd d fr L (.alc _t _z)) is K:=qaA rfl
theorem qCm {d:Option Nat} {is:List IOper} {_t} {_x}:qaa P E X (⟨d,.box _t _x,none⟩ :: is) fr L K=OpsK P E X (Zd d fr L (.box _t _x)) is K:=qaA rfl
theorem qBV {d:Option Nat} {is:List IOper} {_n} {_s} {_p} {_x}:qaa P E X (⟨d,.stk _n _s _p _x,none⟩ :: is) fr L K=OpsK P E X (Zd d fr L (.stk _n _s _p _x)) is K:=qaA rfl
theorem qB4 {d:Option Nat} {is:List IOper} {_n} {_m} {_k} {_v}:qaa P E X (⟨d,.mpk _n _m _k _v,none⟩ :: is) fr L K=OpsK P E X (Zd d fr L (.mpk _n _m _k _v)) is K:=qaA rfl
theorem o_st {d:Option Nat} {is:List IOper} {_s} {_p} {_x}:qaa P E X (⟨d,.st _s _p _x,none⟩ :: is) fr L K=OpsK P E X (Zd d fr L (.st _s _p _x)) is K:=qaA rfl
theorem qCs {d:Option Nat} {is:List IOper} {_e} {_z} {_b} {_x} {_y}:qaa P E X (⟨d,.app _e _z _b _x _y,none⟩ :: is) fr L K=OpsK P E X (Zd d fr L (.app _e _z _b _x _y)) is K:=qaA rfl
theorem qCk {d:Option Nat} {is:List IOper} {_e} {_z} {_p}:qaa P E X (⟨d,.bsr _e _z _p,none⟩ :: is) fr L K=OpsK P E X (Zd d fr L (.bsr _e _z _p)) is K:=qaA rfl
theorem qBZ {d:Option Nat} {is:List IOper} {_e} {_x}:qaa P E X (⟨d,.s2b _e _x,none⟩ :: is) fr L K=OpsK P E X (Zd d fr L (.s2b _e _x)) is K:=qaA rfl
theorem qwl {d:Option Nat} {f:FuncId} {args:List Opd} {is:List IOper}:qaa P E X (⟨d,.call f args,none⟩ :: is) fr L K=(Zl fr args∧qbF P E f (Zm fr args) L d fr (qef P E X is K)):=rfl
def FnK (P:Program) (E:Envt) (X:List PV) (o:Option (FuncId×List AV)) (c:Prop) (d:Option Nat) (args:List Opd) (is:List IOper) (fr:List AV) (L:Objs) (K:List AV→Objs→Prop):Prop:=
 match o with
 |some (f,ks)=>c∧fnB P f=true∧Zk L ks=true∧Zl fr args∧qbF P E f (Zm fr args++ks) L d fr (qef P E X is K)
 |none=>False
theorem qxB {f:FuncId} {ks:List AV} {c:Prop} {d:Option Nat} {args:List Opd} {is:List IOper}:FnK P E X (some (f,ks)) c d args is fr L K=(c∧fnB P f=true∧Zk L ks=true∧Zl fr args∧qbF P E f (Zm fr args++ks) L d fr (qef P E X is K)):=rfl
theorem qtZ {d:Option Nat} {g:Opd} {args:List Opd} {is:List IOper}:qaa P E X (⟨d,.callv g args,none⟩ :: is) fr L K=FnK P E X (Zaq fr g) (rd fr g).un.1 d args is fr L K:=by
 cases h:Zaq fr g with
 |none=>simp only [qaa,FnK,h]
 |some q=>obtain ⟨f,ks⟩:=q;simp only [qaa,FnK,h];rfl
def FnG (P:Program) (E:Envt) (X:List PV) (o:Option (FuncId×List AV)) (c0:Bool) (c:Prop) (d:Option Nat) (args:List Opd) (is:List IOper) (fr:List AV) (L:Objs) (K:List AV→Objs→Prop):Prop:=
 match o with
 |some (f,ks)=>(fnB P f=true∧Zk L ks=true)∧(c0=true→c∧Zl fr args)∧qq0 c0 P E f (Zm fr args++ks) L d fr (qef P E X is K)
 |none=>c0=false∧qaa P E X is (Zf fr d (.g c0 .any)) L K
theorem qxC {f:FuncId} {ks:List AV} {c0:Bool} {c:Prop} {d:Option Nat} {args:List Opd} {is:List IOper}:FnG P E X (some (f,ks)) c0 c d args is fr L K=((fnB P f=true∧Zk L ks=true)∧(c0=true→c∧Zl fr args)∧qq0 c0 P E f (Zm fr args++ks) L d fr (qef P E X is K)):=rfl
theorem qst {d:Option Nat} {g:Opd} {args:List Opd} {is:List IOper} {s:Nat} {want:Bool}:qaa P E X (⟨d,.callv g args,some (s,want)⟩ :: is) fr L K=(match Zg fr s want with|some c0=>FnG P E X (Zaq fr g) c0 (rd fr g).un.1 d args is fr L K|none=>False):=by
 simp only [qaa]
 cases Zg fr s want with
 |none=>rfl
 |some c0=>cases h:Zaq fr g with
  |none=>rfl
  |some q=>obtain ⟨f,ks⟩:=q;rfl
theorem qtY {b:Bool} {d:Option Nat} {f:FuncId} {args:List Opd} {is:List IOper}:qaa P E X (⟨d,.dcall b f args,none⟩ :: is) fr L K=(Zl fr args∧DCallOp b P E f (Zm fr args) L d fr (qef P E X is K)):=rfl
def PcK (P:Program) (E:Envt) (f:FuncId) (as:List AV) (L:Objs) (x:PV):Prop:=qkA P E f as L (·=x)
def FclK (P:Program) (E:Envt) (X:List PV) (f:FuncId) (e z:Nat) (K:List AV→Objs→Prop) (is:List IOper) (fr:List AV) (L:Objs) (d:Nat) (c:Prop):Option (List PV)→PV→Prop
 |some ps,.sl z' es=>((Zal d fr L∧Zar L (.l d)=some Zam)∧c∧z'=z∧FrC P E f ps e z es)∧qaa P E X is (fr.set d (.row (.l d))) (Zas L (.l d) (.row es e z true)) K
 |_,_=>False
theorem qze {d:Nat} {n:Nat} {f:FuncId} {args:List Opd} {e z:Nat} {is:List IOper}:qaa P E X (⟨some d,.fcl n f args e z,none⟩ :: is) fr L K=FclK P E X f e z K is fr L d (Zl fr args) (qeU (Zm fr args)) (X.getD n (.bool false)):=by
 simp only [qaa]
 unfold FclK
 cases qeU (Zm fr args) with
 |none=>rfl
 |some ps=>cases X.getD n (.bool false)<;>rfl
theorem qvf:qeU []=some []:=rfl
theorem qz6 {x:PV} {r:List AV}:qeU (.p x :: r)=(qeU r).map (x :: ·):=rfl
theorem qvv {f:FuncId} {e z z':Nat} {is:List IOper} {d:Nat} {c:Prop} {ps:List PV} {es:List (List PV)}:FclK P E X f e z K is fr L d c (some ps) (.sl z' es)=(((Zal d fr L∧Zar L (.l d)=some Zam)∧c∧z'=z∧FrC P E f ps e z es)∧qaa P E X is (fr.set d (.row (.l d))) (Zas L (.l d) (.row es e z true)) K):=rfl
theorem qtX {d:Option Nat} {n:Nat} {f:FuncId} {args:List Opd} {is:List IOper}:qaa P E X (⟨d,.pcall n f args,none⟩ :: is) fr L K=((Zl fr args∧PcK P E f (Zm fr args) L (X.getD n (.bool false)))∧qaa P E X is (Zf fr d (.p (X.getD n (.bool false)))) L K):=rfl
theorem qss {d:Option Nat} {n:Nat} {f:FuncId} {args:List Opd} {is:List IOper} {s:Nat} {want:Bool}:qaa P E X (⟨d,.pcall n f args,some (s,want)⟩ :: is) fr L K=(match Zg fr s want with|some c0=>(c0=true→Zl fr args∧PcK P E f (Zm fr args) L (X.getD n (.bool false)))∧qaa P E X is (Zf fr d (.g c0 (.p (X.getD n (.bool false))))) L K|none=>False):=rfl
def PvK (P:Program) (E:Envt) (X:List PV) (o:Option (FuncId×List AV)) (c:Prop) (n:Nat) (d:Option Nat) (args:List Opd) (is:List IOper) (fr:List AV) (L:Objs) (K:List AV→Objs→Prop):Prop:=
 match o with
 |some (f,ks)=>(c∧fnB P f=true∧Zk L ks=true∧Zl fr args∧PcK P E f (Zm fr args++ks) L (X.getD n (.bool false)))∧qaa P E X is (Zf fr d (.p (X.getD n (.bool false)))) L K
 |none=>False
theorem qwj {f:FuncId} {ks:List AV} {c:Prop} {n:Nat} {d:Option Nat} {args:List Opd} {is:List IOper}:PvK P E X (some (f,ks)) c n d args is fr L K=((c∧fnB P f=true∧Zk L ks=true∧Zl fr args∧PcK P E f (Zm fr args++ks) L (X.getD n (.bool false)))∧qaa P E X is (Zf fr d (.p (X.getD n (.bool false)))) L K):=rfl
theorem qzb {d:Option Nat} {n:Nat} {g:Opd} {args:List Opd} {is:List IOper}:qaa P E X (⟨d,.pcv n g args,none⟩ :: is) fr L K=PvK P E X (Zaq fr g) (rd fr g).un.1 n d args is fr L K:=by
 cases h:Zaq fr g with
 |none=>simp only [qaa,PvK,h]
 |some q=>obtain ⟨f,ks⟩:=q;simp only [qaa,PvK,h];rfl
theorem qt0 {d:Option Nat} {f:FuncId} {args:List Opd} {is:List IOper} {s:Nat} {want:Bool}:qaa P E X (⟨d,.call f args,some (s,want)⟩ :: is) fr L K=(match Zg fr s want with|some c0=>(c0=true→Zl fr args)∧qq0 c0 P E f (Zm fr args) L d fr (qef P E X is K)|none=>False):=rfl
def FzK (P:Program) (E:Envt) (X:List PV) (q:Option (Key×PV)) (is:List IOper) (fr:List AV) (L:Objs) (K:List AV→Objs→Prop):Prop:=
 match q with
 |some (k,y)=>qaa P E X is (fr.map (·.thaw k y)) (Zav k y L) K
 |none=>qaa P E X is fr L K
theorem qxz {k:Key} {y:PV} {is:List IOper}:FzK P E X (some (k,y)) is fr L K=qaa P E X is (fr.map (·.thaw k y)) (Zav k y L) K:=rfl
theorem qxA {is:List IOper}:FzK P E X none is fr L K=qaa P E X is fr L K:=rfl
theorem qAQ {x:Opd} {is:List IOper}:qaa P E X (⟨none,.fz x,none⟩ :: is) fr L K=FzK P E X (Zap fr L x) is fr L K:=rfl
def Zi (L:Objs) (k:Key):Option (List PV):=
 match Zar L k with
 |some (.box cs _)=>Zw cs
 |_=>none
def Zj (L:Objs):List Key→Option (List PV)
 |[]=>some []
 |k :: r=>match Zi L k,Zj L r with
  |some cs,some l=>some (.ptr cs :: l)
  |_,_=>none
def Zbh (L:Objs):AV→Option PV
 |.p x=>some (wk x)
 |.row k=>match Zar L k with
  |some (.row es _ z _)=>some (.sl z es)
  |_=>none
 |.mp k=>match Zar L k with
  |some (.map kv _ _)=>some (.mpv (kv.map (·.1)) (kv.map (·.2)))
  |_=>none
 |.fn f ks=>(Zj L ks).map (.clo f)
 |.adr k o=>if o=0 then (Zi L k).map .ptr else none
 |_=>none
def Zbg (L:Objs):List AV→Option (List PV)
 |[]=>some []
 |x :: r=>match Zbh L x,Zbg L r with
  |some y,some l=>some (y :: l)
  |_,_=>none
def Zbi:List AV→Bool
 |[]=>true
 |.row _ :: _=>false
 |.mp _ :: _=>false
 |.adr _ _ :: _=>false
 |.fn _ ks :: r=>ks.isEmpty && Zbi r
 |_ :: r=>Zbi r
def Zbj:PV→Bool
 |.int ..|.bool ..|.str ..=>true
 |.agg cs=>cs.all fun|.int ..|.bool ..|.str ..=>true|_=>false
 |.tup cs=>cs.all fun|.int ..|.bool ..|.str ..=>true|_=>false
 |_=>false
theorem qnS (b:Bool):(b == true)=b:=by cases b<;>rfl
theorem qlW (b:Bool):(b == false)=!b:=by cases b<;>rfl
theorem PRep.flat {w:World} {U U':Nat→Prop} {x:PV} {v:Value} (hf:Zbj x=true) (h:PRep w U x v):PRep w U' x v:=by
 have one:∀ (y:PV) (u:Value),(match y with|.int ..|.bool ..|.str ..=>true|_=>false)=true→PRep w U y u→PRep w U' y u:=by
  intro y u hy hr
  cases y<;>simp_all [PRep]
 have lst:∀ (cs:List PV) (vs:List Value),(cs.all fun|.int ..|.bool ..|.str ..=>true|_=>false)=true→PRepL w U cs vs→PRepL w U' cs vs:=by
  intro cs
  induction cs with
  |nil=>intro vs _ h;exact h
  |cons c cs ih=>
   intro vs hc hr
   simp only [List.all_cons,zj] at hc
   simp only [PRepL] at hr ⊢
   obtain ⟨v,r,rfl,h1,h2⟩:=hr
   exact ⟨v,r,rfl,one c v hc.1 h1,ih r hc.2 h2⟩
 cases x with
 |agg cs=>simp only [Zbj] at hf;simp only [PRep] at h ⊢;obtain ⟨vs,e,hl⟩:=h;exact ⟨vs,e,lst cs vs hf hl⟩
 |tup cs=>simp only [Zbj] at hf;simp only [PRep] at h ⊢;obtain ⟨vs,e,hl⟩:=h;exact ⟨vs,e,lst cs vs hf hl⟩
 |int k n=>exact h
 |bool b=>exact h
 |str s=>exact h
 |raw v=>simp [Zbj] at hf
 |nl z=>simp [Zbj] at hf
 |sl z es=>simp [Zbj] at hf
 |ptr cs=>simp [Zbj] at hf
 |clo f ps=>simp [Zbj] at hf
 |mpv ks vs=>simp [Zbj] at hf
theorem qBj {w:World} {U U':Nat→Prop} {ι:Key→Value} {f:FuncId} {v:Value} (h:ARep w U ι (.fn f []) v):PRep w U' (.clo f []) v:=by
 exact ⟨[],by simpa [ARep] using h,by simp [PRepL]⟩
theorem qxn {as:List AV} {l:List PV} (h:Zw as=some l):as=l.map .p:=by
 induction as generalizing l with
 |nil=>simp only [Zw,zh] at h;subst h;rfl
 |cons q as ih=>
  cases q with
  |p x=>
   simp only [Zw,zi] at h
   obtain ⟨m,h1,rfl⟩:=h
   rw [ih h1]
   rfl
  |_=>simp [Zw] at h
theorem qr2 {w:World} {B:Nat→Prop} {ι:Key→Value} (hs:Sim w B L ι) (hX:∀ b,B b→¬ Own L ι b) {k:Key} {cs:List PV} (h:Zi L k=some cs):PRep w B (.ptr cs) (ι k):=by
 have hk:=quj w L ι B
 unfold Zi at h
 split at h
 ·rename_i as t hl
  have e:=qxn h
  subst e
  obtain ⟨b,vs,e1,e2,e3,e4,e5⟩:=hs.obj k _ hl
  have hO:Own L ι b:=⟨k,_,hl,by rw [e1];rfl⟩
  have hr:PRepL w (fun b=>Own L ι b∨B b) cs vs:=PRepL.of_get (by simpa using e3) (fun j x u hx hu=>by
   obtain ⟨u',hu',hr'⟩:=e5 j (.p x) (by rw [List.getElem?_map,hx];rfl)
   rw [hu'] at hu
   cases hu
   exact hr')
  refine ⟨b,e1,qa5 hs hO,fun hb=>hX b hb hO,PRepC.of (PRepL.mono hk _ _ hr) e4 (fun j v hv=>?_)⟩
  rw [Nat.zero_add,cell_of_row w b j _ t (0,0) e2]
  simpa using hv
 ·cases h
theorem qu4 {w:World} {B:Nat→Prop} {ι:Key→Value} (hs:Sim w B L ι) (hX:∀ b,B b→¬ Own L ι b):∀ {ks:List Key} {ps:List PV},Zj L ks=some ps→PRepL w B ps (ks.map ι):=by
 intro ks
 induction ks with
 |nil=>intro ps h;simp only [Zj,zh] at h;subst h;simp [PRepL]
 |cons k ks ih=>
  intro ps h
  simp only [Zj] at h
  split at h
  ·rename_i cs l e1 e2
   cases h
   exact ⟨_,_,rfl,qr2 hs hX e1,ih e2⟩
  ·cases h
theorem qgk {w:World} {U:Nat→Prop} {ι:Key→Value}:∀ {as:List AV} {ps:List PV} {vs:List Value},Zbi as=true→Zbg L as=some ps→ARepL w U ι as vs→PRepL w U ps vs:=by
 intro as
 induction as with
 |nil=>intro ps vs _ h hr;simp only [Zbg,zh] at h;subst h;exact hr
 |cons a as ih=>
  intro ps vs hn h hr
  simp only [Zbg] at h
  split at h
  ·rename_i y l e1 e2
   cases h
   simp only [ARepL] at hr
   obtain ⟨v,r,rfl,h1,h2⟩:=hr
   simp only [PRepL]
   cases a with
   |p x=>simp only [Zbh,zh] at e1;subst e1;exact ⟨v,r,rfl,PRep.wk h1,ih (by simpa [Zbi] using hn) e2 h2⟩
   |row k=>simp [Zbi] at hn
   |mp k=>simp [Zbi] at hn
   |adr k o=>simp [Zbi] at hn
   |fn f ks=>
    cases ks with
    |nil=>simp only [Zbh,Zj,zN,zh] at e1;subst e1;exact ⟨v,r,rfl,qBj h1,ih (by simpa [Zbi] using hn) e2 h2⟩
    |cons k ks=>simp [Zbi] at hn
   |_=>simp [Zbh] at e1
  ·cases h
theorem qsL {w:World} {B:Nat→Prop} {ι:Key→Value} (hs:Sim w B L ι) (hX:∀ b,B b→¬ Own L ι b):∀ {as:List AV} {ps:List PV} {vs:List Value},Zbg L as=some ps→ARepL w (fun b=>Own L ι b∨B b) ι as vs→PRepL w B ps vs:=by
 have hk:=quj w L ι B
 intro as
 induction as with
 |nil=>intro ps vs h hr;simp only [Zbg,zh] at h;subst h;exact hr
 |cons a as ih=>
  intro ps vs h hr
  simp only [Zbg] at h
  split at h
  ·rename_i y l e1 e2
   cases h
   simp only [ARepL] at hr
   obtain ⟨v,r,rfl,h1,h2⟩:=hr
   simp only [PRepL]
   refine ⟨v,r,rfl,?_,ih e2 h2⟩
   cases a with
   |p x=>simp only [Zbh,zh] at e1;subst e1;exact (PRep.mono hk _ _ h1).wk
   |row k=>
    simp only [Zbh] at e1
    split at e1
    ·rename_i es e' z ap hl
     cases e1
     obtain ⟨vs',hrow,e4,e5,e6⟩:=hs.obj k _ hl
     rcases hrow.2 with ⟨g1,g2⟩|⟨g,cap,cur,fz,g1,_,g3,_⟩
     ·rw [h1.1,g1]
      exact ⟨none,0,by rw [g2],by omega,fun hne=>absurd (zr g2) hne⟩
     ·rw [h1.1,g1]
      have hE:=qgS hs hl g1
      have hO:Own L ι g:=⟨k,_,hl,by rw [g1];rfl⟩
      refine ⟨_,cap,rfl,g3,fun _=>⟨g,0,rfl,qa5 hs hO,fun hx=>hX g hx hO,?_⟩⟩
      have key:∀ (es':List (List PV)) (off:Nat),PRepE w (fun b=>Own L ι b∨B b) g z off es'→PRepE w B g z off es':=by
       intro es'
       induction es' with
       |nil=>intro off _;simp [PRepE]
       |cons x r ih=>
        intro off hh
        simp only [PRepE] at hh ⊢
        refine ⟨hh.1,?_,ih _ hh.2.2⟩
        obtain ⟨us,a1,a2,a3⟩:=hh.2.1.vals
        exact PRepC.of (PRepL.mono hk _ _ a1) a2 a3
      exact key es 0 hE
    ·cases e1
   |mp k=>
    simp only [Zbh] at e1
    split at e1
    ·rename_i kv kt et hl
     cases e1
     obtain ⟨r,ents,cl,q1,q2,q3,q4⟩:=hs.obj k _ hl
     have hO:Own L ι r:=⟨k,_,hl,by rw [q1];rfl⟩
     rw [h1.1,q1]
     exact ⟨r,rfl,qa5 hs hO,fun hx=>hX r hx hO,ents,cl,q2,⟨by rw [q3.1,ya];rfl,q4⟩,PRepL.mono hk _ _ q3.2⟩
    ·cases e1
   |fn f ks=>
    simp only [Zbh,zi] at e1
    obtain ⟨ps',h3,rfl⟩:=e1
    exact ⟨ks.map ι,h1,qu4 hs hX h3⟩
   |adr k o=>
    simp only [Zbh] at e1
    split at e1
    ·rename_i ho
     subst ho
     simp only [zi] at e1
     obtain ⟨cs,h3,rfl⟩:=e1
     obtain ⟨b,e4,e5⟩:=h1
     rw [e5,← e4]
     exact qr2 hs hX h3
    ·cases e1
   |_=>simp [Zbh] at e1
  ·cases h
theorem qm5 {f:FuncId} {as:List AV} {ps:List PV} {φ:PV→Prop} (h:PCall P E f ps φ) (ha:Zbg L as=some ps) (hn:Zbi as=true∨∀ x,φ x→Zbj x=true):qkA P E f as L φ:=by
 intro w X ι vs hs hX hE hEb hA
 rcases hn with hn|hn
 ·exact h w (fun b=>Own L ι b∨X b) vs (fun b hb=>hb.elim (fun h=>qa5 hs h) (fun h=>(hX b h).1)) hE (fun b hb=>(hEb b hb).1) (qgk hn ha hA)
 ·refine (h w X vs (fun b hb=>(hX b hb).1) hE (fun b hb=>(hEb b hb).1) (qsL hs (fun b hb=>(hX b hb).2) ha hA)).mono ?_
  rintro e w' ⟨v,x,rfl,hx,hr,hG⟩
  exact ⟨v,x,rfl,hx,hr.flat (hn x hx),hG⟩
theorem use {f:FuncId} {as:List AV} {ps:List PV} {φ:PV→Prop} {d:Option Nat} {is:List IOper} (h:PCall P E f ps φ) (ha:Zbg L as=some ps) (hn:Zbi as=true∨∀ x,φ x→Zbj x=true) (hk:∀ x,φ x→qaa P E X is (Zf fr d (.p x)) L K):qbF P E f as L d fr (qef P E X is K):=
 .inl ⟨φ,qm5 h ha hn,hk⟩
theorem use1 {f:FuncId} {as:List AV} {ps:List PV} {r:PV} {d:Option Nat} {is:List IOper} (h:PCall P E f ps (·=r)) (ha:Zbg L as=some ps) (hn:Zbi as=true∨Zbj r=true) (hk:qaa P E X is (Zf fr d (.p r)) L K):qbF P E f as L d fr (qef P E X is K):=
 .inl ⟨(·=r),qm5 h ha (hn.imp id (fun h x e=>by rw [e];exact h)),fun x e=>by rw [e];exact hk⟩
theorem useG {c0:Bool} {f:FuncId} {as:List AV} {ps:List PV} {r:PV} {d:Option Nat} {is:List IOper} (h:c0=true→PCall P E f ps (·=r)) (ha:Zbg L as=some ps) (hn:Zbi as=true∨Zbj r=true) (hk:qaa P E X is (Zf fr d (.g c0 (.p r))) L K):qq0 c0 P E f as L d fr (qef P E X is K):=
 .inl ⟨r,fun hc=>qm5 (h hc) ha (hn.imp id fun h x e=>by rw [e];exact h),hk⟩
theorem qpZ {c0:Bool} {f:FuncId} {as:List AV} {d:Option Nat} {is:List IOper} (h:c0=true→qbF P E f as L d fr (qef P E X is K)) (hk:c0=false→qaa P E X is (Zf fr d (.g c0 .any)) L K):qq0 c0 P E f as L d fr (qef P E X is K):=.inr ⟨h,hk⟩
theorem usep {f:FuncId} {as:List AV} {ps:List PV} {r:PV} (h:PCall P E f ps (·=r)) (ha:Zbg L as=some ps) (hn:Zbi as=true∨Zbj r=true):PcK P E f as L r:=
 qm5 h ha (hn.imp id (fun h x e=>by rw [e];exact h))
end
def GCall (P:Program) (E:Envt) (f:FuncId) (bx:Option OS) (args:List PV) (post:RV→OS→Prop):Prop:=
 ∀ (w:World) (U:Nat→Prop) (vs:List Value) (v0:Value),(∀ c,U c→c < w.heap.size)→E.ok w→(∀ c,E.bl c→c < w.heap.size∧(bx.isSome=true→blk v0≠some c))→PRepL w U args vs→
  (match bx with|none=>True|some os=>(∀ c,blk v0=some c→U c)∧ObjAt w U v0 os)→
  Calls P f ((match bx with|none=>vs|some _=>v0 :: vs)).toArray w fun e w'=>∃ v r os',e=.returned v∧post r os'∧RVok w' U w.heap.size r v∧
   (match bx with
    |none=>Grow w w' (fun _=>False)
    |some _=>Grow w w' (fun c=>blk v0=some c)∧ObjAt w' (fun c=>U c∨r.own v c) v0 os')
def noOS:OS:=.box 0 []
def finP (bx:Option OS) (post:RV→OS→Prop) (x:PV) (L:Objs):Prop:=
 match bx with
 |none=>post (.p x) noOS
 |some _=>∃ os',Zar L (.b 0)=some os'.ao∧post (.p x) os'
def finF (bx:Option OS) (post:RV→OS→Prop) (i:Nat) (fr:List AV) (L:Objs):Prop:=
 (∃ j es e z,fr.getD i .any=.row (.l j)∧Zar L (.l j)=some (.row es e z true)∧
  match bx with
  |none=>post (.fr es e z) noOS
  |some _=>∃ os',Zar L (.b 0)=some os'.ao∧post (.fr es e z) os')∨
 ∃ e z z0,fr.getD i .any=.p (.nl z0)∧
  match bx with
  |none=>post (.fr [] e z) noOS
  |some _=>∃ os',Zar L (.b 0)=some os'.ao∧post (.fr [] e z) os'
def retF (i:Nat) (bx:Option OS) (post:RV→OS→Prop):AQ
 |.normal,fr,L=>finF bx post i fr L
 |.ret,fr,L=>finF bx post i fr L
 |_,_,_=>False
def qqK (fr:List AV):List Nat→Option (List PV)
 |[]=>some []
 |i :: r=>match fr.getD i .any with
  |.p x=>(qqK fr r).map (x :: ·)
  |_=>none
def finT (bx:Option OS) (post:RV→OS→Prop) (i:Nat) (is:List Nat) (fr:List AV) (L:Objs):Prop:=
 (∃ j es e z ps,fr.getD i .any=.row (.l j)∧Zar L (.l j)=some (.row es e z true)∧qqK fr is=some ps∧
  match bx with
  |none=>post (.ft es e z ps) noOS
  |some _=>∃ os',Zar L (.b 0)=some os'.ao∧post (.ft es e z ps) os')∨
 ∃ e z z0 ps,fr.getD i .any=.p (.nl z0)∧qqK fr is=some ps∧
  match bx with
  |none=>post (.ft [] e z ps) noOS
  |some _=>∃ os',Zar L (.b 0)=some os'.ao∧post (.ft [] e z ps) os'
def retT (i:Nat) (is:List Nat) (bx:Option OS) (post:RV→OS→Prop):AQ
 |.normal,fr,L=>finT bx post i is fr L
 |.ret,fr,L=>finT bx post i is fr L
 |_,_,_=>False
theorem qAz {i:Nat} {is:List Nat} {bx:Option OS} {post:RV→OS→Prop} {fr:List AV} {L:Objs}:retT i is bx post .ret fr L=finT bx post i is fr L:=rfl
theorem qAA {i:Nat} {is:List Nat} {bx:Option OS} {post:RV→OS→Prop} {fr:List AV} {L:Objs}:retT i is bx post .normal fr L=finT bx post i is fr L:=rfl
theorem qAD {i:Nat} {bx:Option OS} {post:RV→OS→Prop} {fr:List AV} {L:Objs}:retF i bx post .ret fr L=finF bx post i fr L:=rfl
theorem qAE {i:Nat} {bx:Option OS} {post:RV→OS→Prop} {fr:List AV} {L:Objs}:retF i bx post .normal fr L=finF bx post i fr L:=rfl
def l0 (bx:Option OS):Objs:=
 match bx with
 |none=>[]
 |some os=>[(.b 0,os.ao)]
def a0 (bx:Option OS) (args:List PV):List AV:=
 match bx with
 |none=>args.map .p
 |some (.box _ _)=>.adr (.b 0) 0 :: args.map .p
 |some (.row _ _ _)=>.row (.b 0) :: args.map .p
def GCallP (P:Program) (E:Envt) (f:FuncId) (pre:List PV) (bx:Option OS) (args:List PV) (post:RV→OS→Prop):Prop:=
 ∀ (w:World) (U:Nat→Prop) (us vs:List Value) (v0:Value),(∀ c,U c→c < w.heap.size)→E.ok w→(∀ c,E.bl c→c < w.heap.size∧(bx.isSome=true→blk v0≠some c))→PRepL w U pre us→PRepL w U args vs→
  (match bx with|none=>True|some os=>(∀ c,blk v0=some c→U c)∧ObjAt w U v0 os)→
  Calls P f (us++(match bx with|none=>vs|some _=>v0 :: vs)).toArray w fun e w'=>∃ v r os',e=.returned v∧post r os'∧RVok w' U w.heap.size r v∧
   (match bx with
    |none=>Grow w w' (fun _=>False)
    |some _=>Grow w w' (fun c=>blk v0=some c)∧ObjAt w' (fun c=>U c∨r.own v c) v0 os')
def a0P (pre:List PV) (bx:Option OS) (args:List PV):List AV:=pre.map .p++a0 bx args
section
variable {P:Program} {E:Envt}
theorem GCallP.nil {f:FuncId} {bx:Option OS} {args:List PV} {post:RV→OS→Prop} (h:GCallP P E f [] bx args post):GCall P E f bx args post:=fun w U vs v0 hU hE hEb hA hB=>h w U [] vs v0 hU hE hEb (by simp [PRepL]) hA hB
theorem qja (hm:P.follows .mixedOrders=true) {f:FuncId} {fn:Func} {c:Code} {ic:IC} {pre:List PV} {bx:Option OS} {args:List PV} {post:RV→OS→Prop} {Q:AQ} (hf:P.funcs[f]?=some fn) (hb:fn.body=some c) (hchk:chkC P qoL ic c=true)
  (h:awp P E ic (a0P pre bx args++zM (fn.ntmps - (a0P pre bx args).length) .any) (l0 bx) Q)
  (hQ:∀ (B:Base) (w':World) (L:Objs) (ι:Key→Value) (fr:List AV) (a:Act) (e:Exit),Q e fr L→StF E B w' L ι fr a→B.L0=l0 bx→(e=.normal∨e=.ret)∧∃ v r os',(results fn a.tmps).run P w'=.ok v w'∧post r os'∧RVok w' (ZB L ι B.X) B.w0.heap.size r v∧(bx.isSome=true→Zar L (.b 0)=some os'.ao)∧(∀ b,r.own v b→Own L ι b)):GCallP P E f pre bx args post:=by
 intro w U us vs v0 hU hE hEb hPre hA hB
 refine calls_of_wp hf hb ?_
 let ι:Key→Value:=fun _=>v0
 let B:Base:={ w0:=w,X:=fun c=>U c∧(bx.isSome=true→blk v0≠some c),L0:=l0 bx,i0:=ι }
 have hlk:∀ k q,Zar (l0 bx) k=some q→k=.b 0∧∃ os,bx=some os∧q=os.ao:=by
  intro k q hq
  cases hbx:bx with
  |none=>rw [hbx] at hq;simp [l0,Zar] at hq
  |some os=>
   rw [hbx] at hq
   simp only [l0,Zar] at hq
   split at hq
   ·rename_i e;cases hq;exact ⟨e.symm,os,rfl,rfl⟩
   ·cases hq
 have hO:∀ c,Own (l0 bx) ι c→blk v0=some c∧bx.isSome=true:=by
  rintro c ⟨k,q,h1,h2⟩
  obtain ⟨_,os,e,_⟩:=hlk k q h1
  exact ⟨h2,by rw [e];rfl⟩
 have hUb:∀ c,(Own (l0 bx) ι c∨B.X c)→U c:=by
  rintro c (h'|h')
  ·obtain ⟨h1,hs⟩:=hO c h'
   cases hbx:bx with
   |none=>rw [hbx] at hs;cases hs
   |some p=>rw [hbx] at hB;exact hB.1 c h1
  ·exact h'.1
 have hkeep:Keeps w w U (fun c=>Own (l0 bx) ι c∨B.X c):=fun c _ hu=>⟨rfl,fun h=>hu (hUb c h)⟩
 have hsim:Sim w B.X (l0 bx) ι:=by
  constructor
  ·intro k q hq
   obtain ⟨rfl,os,e,rfl⟩:=hlk k q hq
   rw [e] at hB
   exact ObjAt.ok (hB.2.mono hkeep (fun _ _=>rfl))
  ·intro k k' q q' c h1 h2 _ _
   rw [(hlk k q h1).1,(hlk k' q' h2).1]
 have hst:St E B w (l0 bx) ι:=⟨Grow.refl _ _,hsim,fun c hc=>.inl hc,fun c hc=>hU c hc.1,fun k _ _=>rfl,hE,fun c hc=>⟨(hEb c hc).1,fun ho=>by obtain ⟨e1,e2⟩:=hO c ho;exact (hEb c hc).2 e2 e1⟩,(fun i=>by
  show Zar (l0 bx) (.l i)=none
  cases hq:Zar (l0 bx) (.l i) with
  |none=>rfl
  |some q=>have:=(hlk _ _ hq).1;cases this),(fun c hc ho=>by obtain ⟨e1,e2⟩:=hO c ho;exact hc.2 e2 e1)⟩
 have hlen:=hA.length
 have hfr:∀ as:List Value,ARepL w (fun c=>Own (l0 bx) ι c∨B.X c) ι (a0P pre bx args) as→StF E B w (l0 bx) ι (a0P pre bx args++zM (fn.ntmps - (a0P pre bx args).length) .any) { tmps:=as.toArray++Array.replicate (fn.ntmps - as.toArray.size) undef,defers:=[] }:=by
  intro as has
  have hl:∀ (xs:List AV) (ys:List Value),ARepL w (fun c=>Own (l0 bx) ι c∨B.X c) ι xs ys→ys.length=xs.length∧∀ (i:Nat) (x:AV),xs[i]?=some x→∃ v,ys[i]?=some v∧ARep w (fun c=>Own (l0 bx) ι c∨B.X c) ι x v:=by
   intro xs
   induction xs with
   |nil=>intro ys h;simp only [ARepL] at h;subst h;simp
   |cons x xs ih=>
    intro ys h
    simp only [ARepL] at h
    obtain ⟨v,r,rfl,h1,h2⟩:=h
    obtain ⟨g1,g2⟩:=ih r h2
    refine ⟨by simp [g1],fun i y hy=>?_⟩
    cases i with
    |zero=>simp at hy;subst hy;exact ⟨v,rfl,h1⟩
    |succ i=>simp at hy;simpa using g2 i y hy
  obtain ⟨g1,g2⟩:=hl _ _ has
  refine ⟨hst,⟨by simp [g1],fun i x hx=>?_⟩,rfl⟩
  rw [List.getElem?_append] at hx
  split at hx
  ·rename_i hi
   obtain ⟨v,hv,hrep⟩:=g2 i x hx
   refine ⟨v,?_,hrep⟩
   rw [Array.getElem?_append_left (by simp;omega)]
   simpa using hv
  ·rename_i hi
   rw [List.getElem?_replicate] at hx
   split at hx
   ·rename_i hlt
    cases hx
    refine ⟨undef,?_,trivial⟩
    rw [Array.getElem?_append_right (by simp;omega)]
    simp only [List.size_toArray]
    rw [Array.getElem?_replicate,if_pos (by rw [g1];omega)]
   ·cases hx
 have hargs:ARepL w (fun c=>Own (l0 bx) ι c∨B.X c) ι (a0P pre bx args) (us++(match bx with|none=>vs|some _=>v0 :: vs)):=by
  have hp:∀ (xs:List PV) (ys:List Value),PRepL w U xs ys→ARepL w (fun c=>Own (l0 bx) ι c∨B.X c) ι (xs.map .p) ys:=by
   intro xs
   induction xs with
   |nil=>intro ys h;simp only [PRepL] at h;subst h;simp [ARepL]
   |cons x xs ih=>
    intro ys h
    simp only [PRepL] at h
    obtain ⟨v,r,rfl,h1,h2⟩:=h
    simp only [zx,ARepL]
    exact ⟨v,r,rfl,PRep.mono hkeep _ _ h1,ih r h2⟩
  refine ARepL.append (hp pre us hPre) ?_
  have hpv:=hp args vs hA
  cases hbx:bx with
  |none=>rw [hbx] at hpv;exact hpv
  |some os=>
   rw [hbx] at hpv hB
   cases os with
   |box t cs=>
    obtain ⟨b,vs',e1,_⟩:=hB.2
    simp only [a0,ARepL]
    exact ⟨_,_,rfl,⟨b,e1,e1⟩,hpv⟩
   |row e z es=>
    obtain ⟨vs',h1,_⟩:=hB.2
    simp only [a0,ARepL]
    refine ⟨_,_,rfl,⟨rfl,?_⟩,hpv⟩
    rcases h1.2 with ⟨q1,_⟩|⟨g,cap,cur,fz,q1,_⟩
    ·exact ⟨none,0,0,q1⟩
    ·exact ⟨_,_,_,q1⟩
 refine wp_mono (qpy (qxZ hm) ic c _ _ _ hchk h B w ι _ (hfr _ hargs)) ?_
 rintro e a' w' ⟨fr',L',ι',q,hs'⟩
 obtain ⟨he,v,r,os',hv,hp,hr,hbox,hown⟩:=hQ B w' L' ι' fr' a' e q hs' rfl
 have hkey:bx.isSome=true→ι' (.b 0)=v0:=by
  intro e
  refine hs'.1.keep (.b 0) ?_ (by rw [hbox e];rfl)
  show (Zar (l0 bx) (.b 0)).isSome=true
  obtain ⟨os,e⟩:=Option.isSome_iff_exists.1 e
  rw [e];simp [l0,Zar]
 have hZ:∀ c,U c→ZB L' ι' B.X c:=by
  intro c hc
  by_cases hcb:bx.isSome=true∧blk v0=some c
  ·exact .inr ⟨0,_,hbox hcb.1,by rw [hkey hcb.1];exact hcb.2⟩
  ·exact .inl ⟨hc,fun h1 h2=>hcb ⟨h1,h2⟩⟩
 have hkz:Keeps w' w' (ZB L' ι' B.X) U:=fun c _ hz=>⟨rfl,fun hu=>hz (hZ c hu)⟩
 have hres:RVok w' U w.heap.size r v:=by
  cases r with
  |p x=>exact PRep.mono hkz _ _ hr
  |fr es e z=>
   obtain ⟨vs',r1,r2,r3,r4,r5⟩:=hr
   exact ⟨vs',r1,r2,PRepL.mono (fun c _ hz=>⟨rfl,fun hu=>hz (hu.imp (hZ c) id)⟩) _ _ r3,r4,r5⟩
  |ft es e z ps=>
   obtain ⟨u,us,hv,⟨vs',r1,r2,r3,r4,r5⟩,rp⟩:=hr
   exact ⟨u,us,hv,⟨vs',r1,r2,PRepL.mono (fun c _ hz=>⟨rfl,fun hu=>hz (hu.imp (hZ c) id)⟩) _ _ r3,r4,r5⟩,PRepL.mono (fun c _ hz=>⟨rfl,fun hu=>hz (hu.imp (hZ c) id)⟩) _ _ rp⟩
 have hg:=hs'.1.grow
 have fin:∃ v_1 r os',Ending.returned v=.returned v_1∧post r os'∧RVok w' U w.heap.size r v_1∧(match bx with|none=>Grow w w' (fun _=>False)|some _=>Grow w w' (fun c=>blk v0=some c)∧ObjAt w' (fun c=>U c∨r.own v_1 c) v0 os'):=by
  refine ⟨v,r,os',rfl,hp,hres,?_⟩
  cases hbx:bx with
  |none=>exact ⟨hg.os,hg.tape,hg.output,hg.size,fun c hc _=>hg.block c hc (fun ho=>by have:=(hO c ho).2;rw [hbx] at this;cases this)⟩
  |some os=>
   have hbs:bx.isSome=true:=by rw [hbx];rfl
   refine ⟨⟨hg.os,hg.tape,hg.output,hg.size,fun c hc hn=>hg.block c hc (fun ho=>hn (hO c ho).1)⟩,?_⟩
   have hat:=ObjAt.of (hs'.1.sim.obj (.b 0) _ (hbox hbs))
   rw [hkey hbs] at hat
   refine hat.mono (fun c _ hz=>⟨rfl,fun hu=>hz ?_⟩) (fun _ _=>rfl)
   rcases hu with hu|hu
   ·rcases hZ c hu with h1|⟨i,q,h1,h2⟩
    ·exact .inr h1
    ·exact .inl ⟨_,q,h1,h2⟩
   ·exact .inl (hown c hu)
 rcases he with rfl|rfl
 ·exact ⟨hs'.2.2,v,hv,fin⟩
 ·exact ⟨hs'.2.2,v,hv,fin⟩
theorem qkb (hm:P.follows .mixedOrders=true) {f:FuncId} {fn:Func} {c:Code} {ic:IC} {bx:Option OS} {args:List PV} {post:RV→OS→Prop} {Q:AQ} (hf:P.funcs[f]?=some fn) (hb:fn.body=some c) (hchk:chkC P qoL ic c=true)
  (h:awp P E ic (a0 bx args++zM (fn.ntmps - (a0 bx args).length) .any) (l0 bx) Q)
  (hQ:∀ (B:Base) (w':World) (L:Objs) (ι:Key→Value) (fr:List AV) (a:Act) (e:Exit),Q e fr L→StF E B w' L ι fr a→B.L0=l0 bx→(e=.normal∨e=.ret)∧∃ v r os',(results fn a.tmps).run P w'=.ok v w'∧post r os'∧RVok w' (ZB L ι B.X) B.w0.heap.size r v∧(bx.isSome=true→Zar L (.b 0)=some os'.ao)∧(∀ b,r.own v b→Own L ι b)):GCall P E f bx args post:=
 GCallP.nil (qja (pre:=[]) hm hf hb hchk h hQ)
theorem quz (hm:P.follows .mixedOrders=true) {f:FuncId} {fn:Func} {ic:IC} {rs:List IRes} {n:Nat} {pre:List PV} {bx:Option OS} {args:List PV} {post:RV→OS→Prop} (hf:P.funcs[f]?=some fn) (hc:chkF P fn ic rs n=true)
  (h:awp P E ic (a0P pre bx args++zM (n - (a0P pre bx args).length) .any) (l0 bx) (retQ rs (finP bx post))):GCallP P E f pre bx args post:=by
 unfold chkF at hc
 split at hc
 ·rename_i c hb
  simp only [zj,beq_iff_eq] at hc
  obtain ⟨⟨h1,h2⟩,rfl⟩:=hc
  refine qja hm hf hb h1 h ?_
  intro B w' L ι fr a e q hs hb0
  have key:RetK (Zbc fr L rs) (finP bx post) L→∃ v r os',(results fn a.tmps).run P w'=.ok v w'∧post r os'∧RVok w' (ZB L ι B.X) B.w0.heap.size r v∧(bx.isSome=true→Zar L (.b 0)=some os'.ao)∧(∀ b,r.own v b→Own L ι b):=by
   intro q
   obtain ⟨l,e1,e2⟩:=qqS q
   obtain ⟨v,hv,hr⟩:=qma hs h2 e1
   cases hbx:bx with
   |none=>rw [hbx] at e2;exact ⟨v,.p (qkn l),noOS,hv,e2,hr,(fun h=>by cases h),fun _ h=>h.elim⟩
   |some p=>
    rw [hbx] at e2
    obtain ⟨cs',g1,g2⟩:=e2
    exact ⟨v,.p (qkn l),cs',hv,g2,hr,(fun _=>g1),fun _ h=>h.elim⟩
  cases e with
  |normal=>exact ⟨.inl rfl,key q⟩
  |ret=>exact ⟨.inr rfl,key q⟩
  |_=>exact q.elim
 ·cases hc
theorem qep (hm:P.follows .mixedOrders=true) {f:FuncId} {fn:Func} {ic:IC} {rs:List IRes} {n:Nat} {bx:Option OS} {args:List PV} {post:RV→OS→Prop} (hf:P.funcs[f]?=some fn) (hc:chkF P fn ic rs n=true)
  (h:awp P E ic (a0 bx args++zM (n - (a0 bx args).length) .any) (l0 bx) (retQ rs (finP bx post))):GCall P E f bx args post:=GCallP.nil (quz (pre:=[]) hm hf hc h)
theorem qfF (hm:P.follows .mixedOrders=true) {f:FuncId} {fn:Func} {ic:IC} {i n:Nat} {bx:Option OS} {args:List PV} {post:RV→OS→Prop} (hf:P.funcs[f]?=some fn) (hc:chkF P fn ic [.t i] n=true)
  (h:awp P E ic (a0 bx args++zM (n - (a0 bx args).length) .any) (l0 bx) (retF i bx post)):GCall P E f bx args post:=by
 unfold chkF at hc
 split at hc
 ·rename_i c hb
  simp only [zj,beq_iff_eq] at hc
  obtain ⟨⟨h1,h2⟩,rfl⟩:=hc
  refine qkb hm hf hb h1 h ?_
  intro B w' L ι fr a e q hs hb0
  have key:finF bx post i fr L→∃ v r os',(results fn a.tmps).run P w'=.ok v w'∧post r os'∧RVok w' (ZB L ι B.X) B.w0.heap.size r v∧(bx.isSome=true→Zar L (.b 0)=some os'.ao)∧(∀ b,r.own v b→Own L ι b):=by
   intro hfin
   have hres:(results fn a.tmps).run P w'=.ok (a.tmps.getD i undef) w':=by
    have hq:fn.results=#[.tmp i]:=by
     have:∀ (l:List ResultVar),qek P l [.t i]=true→l=[.tmp i]:=by
      intro l hl
      cases l with
      |nil=>simp [qek] at hl
      |cons x l=>
       cases l with
       |nil=>cases x<;>simp [qek,qng] at hl;subst hl;rfl
       |cons y l=>cases x<;>simp [qek] at hl
     apply Array.ext'
     exact this _ h2
    exact results_tmp hq _ P w'
   rcases hfin with ⟨j,es,et,z,e1,e2,e3⟩|⟨et,z,z0,e1,e3⟩
   rotate_left
   ·have hsl:=hs.2.1.getD i
    rw [e1] at hsl
    have hv:a.tmps.getD i undef=.slice none 0 0:=hsl
    have hrv:RVok w' (ZB L ι B.X) B.w0.heap.size (.fr [] et z) (a.tmps.getD i undef):=by
     rw [hv]
     exact ⟨[],⟨by simp,.inl ⟨rfl,rfl⟩⟩,by simp,by simp [PRepL],by simp,fun b hb=>by simp [blk] at hb⟩
    have hno:∀ b,RV.own (.fr [] et z) (a.tmps.getD i undef) b→Own L ι b:=fun b hb=>by rw [hv] at hb;simp [RV.own,blk] at hb
    cases hbx:bx with
    |none=>rw [hbx] at e3;exact ⟨_,.fr [] et z,noOS,hres,e3,hrv,(fun h=>by cases h),hno⟩
    |some p=>
     rw [hbx] at e3
     obtain ⟨cs',g1,g2⟩:=e3
     exact ⟨_,.fr [] et z,cs',hres,g2,hrv,(fun _=>g1),hno⟩
   have hsl:=hs.2.1.getD i
   rw [e1] at hsl
   obtain ⟨hv,A,m,cp,hvs⟩:=hsl
   obtain ⟨vs,hrow,g2,g3,g4⟩:=hs.1.sim.obj _ _ e2
   have hblkO:∀ b,blk (a.tmps.getD i undef)=some b→Own L ι b:=fun b hb'=>⟨_,_,e2,by rw [← hv];exact hb'⟩
   have hrow':RowOk w' et z true (a.tmps.getD i undef) es.length vs:=by rw [hv];exact hrow
   have hZ0:bx.isSome=true→∃ q,Zar L (.b 0)=some q:=by
    intro hbs
    cases hbx:bx with
    |none=>rw [hbx] at hbs;cases hbs
    |some p=>rw [hbx] at e3;obtain ⟨cs',g1,_⟩:=e3;exact ⟨_,g1⟩
   have hrv:RVok w' (ZB L ι B.X) B.w0.heap.size (.fr es et z) (a.tmps.getD i undef):=by
    refine ⟨vs,hrow',g2,PRepL.mono (fun c _ hu=>⟨rfl,?_⟩) _ _ g3,g4,fun b hb'=>?_⟩
    ·rintro ((hx|⟨i',q',h1,h2⟩)|hx)
     ·exact hu (.inr hx)
     ·exact hu (.inl ⟨_,q',h1,h2⟩)
     ·exact hu (.inl (hblkO c hx))
    ·rcases hs.1.own b (hblkO b hb') with h'|h'
     ·obtain ⟨k0,q0,h5,h6⟩:=h'
      rw [hb0] at h5
      cases hbx:bx with
      |none=>rw [hbx] at h5;simp [l0,Zar] at h5
      |some p=>
       obtain ⟨q1,hq1⟩:=hZ0 (by rw [hbx];rfl)
       rw [hbx] at h5
       simp only [l0,Zar] at h5
       split at h5
       ·rename_i ek
        subst ek
        have hk0:ι (.b 0)=B.i0 (.b 0):=hs.1.keep (.b 0) (by rw [hb0,hbx];simp [l0,Zar]) (by rw [hq1];rfl)
        have:=hs.1.sim.inj (.b 0) (.l j) q1 _ b hq1 e2 (by rw [hk0];exact h6) (by rw [← hv];exact hb')
        cases this
       ·cases h5
     ·exact h'
   cases hbx:bx with
   |none=>rw [hbx] at e3;exact ⟨_,.fr es et z,noOS,hres,e3,hrv,(fun h=>by cases h),hblkO⟩
   |some p=>
    rw [hbx] at e3
    obtain ⟨cs',g1,g2⟩:=e3
    exact ⟨_,.fr es et z,cs',hres,g2,hrv,(fun _=>g1),hblkO⟩
  cases e with
  |normal=>exact ⟨.inl rfl,key q⟩
  |ret=>exact ⟨.inr rfl,key q⟩
  |_=>exact q.elim
 ·cases hc
theorem qn3 {B:Base} {w:World} {L:Objs} {ι:Key→Value} {fr:List AV} {a:Act} (hs:StF E B w L ι fr a):∀ {is:List Nat} {ps:List PV},qqK fr is=some ps→PRepL w (fun b=>Own L ι b∨B.X b) ps (is.map fun i=>a.tmps.getD i undef)
 |[],ps,h=>by simp only [qqK,zh] at h;subst h;simp [PRepL]
 |i :: r,ps,h=>by
  simp only [qqK] at h
  split at h
  ·rename_i x e
   obtain ⟨l,hl,rfl⟩:=zi.1 h
   have hr:=hs.2.1.getD i
   rw [e] at hr
   simp only [zx,PRepL]
   exact ⟨_,_,rfl,hr,qn3 hs hl⟩
  ·cases h
theorem qlf {P:Program}:∀ {l:List ResultVar} {is:List Nat},qek P l (is.map .t)=true→l=is.map .tmp
 |[],[],_=>rfl
 |[],_ :: _,h=>by simp [qek] at h
 |_ :: _,[],h=>by simp [qek] at h
 |x :: l,i :: is,h=>by
  simp only [zx,qek,zj] at h
  cases x with
  |tmp t=>simp only [qng,beq_iff_eq] at h;rw [h.1,qlf h.2];rfl
  |cell t ty=>simp [qng] at h
theorem qxX (hm:P.follows .mixedOrders=true) {f:FuncId} {fn:Func} {ic:IC} {i i2 n:Nat} {is:List Nat} {bx:Option OS} {args:List PV} {post:RV→OS→Prop} (hf:P.funcs[f]?=some fn) (hc:chkF P fn ic ((i :: i2 :: is).map .t) n=true)
  (h:awp P E ic (a0 bx args++zM (n - (a0 bx args).length) .any) (l0 bx) (retT i (i2 :: is) bx post)):GCall P E f bx args post:=by
 unfold chkF at hc
 split at hc
 ·rename_i c hb
  simp only [zj,beq_iff_eq] at hc
  obtain ⟨⟨h1,h2⟩,rfl⟩:=hc
  refine qkb hm hf hb h1 h ?_
  intro B w' L ι fr a e q hs hb0
  have key:finT bx post i (i2 :: is) fr L→∃ v r os',(results fn a.tmps).run P w'=.ok v w'∧post r os'∧RVok w' (ZB L ι B.X) B.w0.heap.size r v∧(bx.isSome=true→Zar L (.b 0)=some os'.ao)∧(∀ b,r.own v b→Own L ι b):=by
   intro hfin
   have hres:(results fn a.tmps).run P w'=.ok (.tuple ((i :: i2 :: is).map fun j=>a.tmps.getD j undef).toArray) w':=by
    have hq:fn.results=((i :: i2 :: is).map ResultVar.tmp).toArray:=by
     apply Array.ext'
     rw [qlf h2]
    have hm1:∀ js:List Nat,((js.map ResultVar.tmp).mapM (res1 a.tmps)).run P w'=.ok (js.map fun j=>a.tmps.getD j undef) w':=by
     intro js
     induction js with
     |nil=>rfl
     |cons j js ih=>
      have h1:(res1 a.tmps (.tmp j)).run P w'=.ok (a.tmps.getD j undef) w':=rfl
      simp only [zx,List.mapM_cons,Sem.run_bind,h1,Result.andThen_ok,ih]
      rfl
    have e0:results fn a.tmps=(do let vs ← fn.results.mapM (res1 a.tmps);pure (if h:vs.size=1 then vs[0] else .tuple vs)):=by
     unfold results
     congr 1
    rw [e0,hq,Array.mapM_eq_mapM_toList]
    simp only [← bind_pure_comp,Sem.run_bind,bind_assoc]
    rw [hm1]
    simp
   rcases hfin with ⟨j,es,et,z,ps,e1,e2,e4,e3⟩|⟨et,z,z0,ps,e1,e4,e3⟩
   rotate_left
   ·have hsl:=hs.2.1.getD i
    rw [e1] at hsl
    have hv:a.tmps.getD i undef=.slice none 0 0:=hsl
    have hps:=qn3 hs e4
    have hrv:RVok w' (ZB L ι B.X) B.w0.heap.size (.ft [] et z ps) (.tuple ((i :: i2 :: is).map fun j=>a.tmps.getD j undef).toArray):=by
     refine ⟨_,_,rfl,?_,PRepL.mono (fun c _ hu=>⟨rfl,?_⟩) _ _ hps⟩
     ·show FrOk w' (ZB L ι B.X) B.w0.heap.size [] et z (a.tmps.getD i undef)
      rw [hv]
      exact ⟨[],⟨by simp,.inl ⟨rfl,rfl⟩⟩,by simp,by simp [PRepL],by simp,fun b hb=>by simp [blk] at hb⟩
     ·rintro ((hx|⟨i',q',h1,h2⟩)|hx)
      ·exact hu (.inr hx)
      ·exact hu (.inl ⟨_,q',h1,h2⟩)
      ·have hx:blk (a.tmps.getD i undef)=some c:=hx
       rw [hv] at hx;simp [blk] at hx
    have hno:∀ b,RV.own (.ft [] et z ps) (.tuple ((i :: i2 :: is).map fun j=>a.tmps.getD j undef).toArray) b→Own L ι b:=fun b hb=>by
     have hb:blk (a.tmps.getD i undef)=some b:=hb
     rw [hv] at hb;simp [blk] at hb
    cases hbx:bx with
    |none=>rw [hbx] at e3;exact ⟨_,.ft [] et z ps,noOS,hres,e3,hrv,(fun h=>by cases h),hno⟩
    |some p=>
     rw [hbx] at e3
     obtain ⟨cs',g1,g2⟩:=e3
     exact ⟨_,.ft [] et z ps,cs',hres,g2,hrv,(fun _=>g1),hno⟩
   have hsl:=hs.2.1.getD i
   rw [e1] at hsl
   obtain ⟨hv,A,m,cp,hvs⟩:=hsl
   obtain ⟨vs,hrow,g2,g3,g4⟩:=hs.1.sim.obj _ _ e2
   have hblkO:∀ b,blk (a.tmps.getD i undef)=some b→Own L ι b:=fun b hb'=>⟨_,_,e2,by rw [← hv];exact hb'⟩
   have hrow':RowOk w' et z true (a.tmps.getD i undef) es.length vs:=by rw [hv];exact hrow
   have hZ0:bx.isSome=true→∃ q,Zar L (.b 0)=some q:=by
    intro hbs
    cases hbx:bx with
    |none=>rw [hbx] at hbs;cases hbs
    |some p=>rw [hbx] at e3;obtain ⟨cs',g1,_⟩:=e3;exact ⟨_,g1⟩
   have hkz:Keeps w' w' (fun b=>Own L ι b∨B.X b) (fun b=>ZB L ι B.X b∨blk (a.tmps.getD i undef)=some b):=by
    refine fun c _ hu=>⟨rfl,?_⟩
    rintro ((hx|⟨i',q',h1,h2⟩)|hx)
    ·exact hu (.inr hx)
    ·exact hu (.inl ⟨_,q',h1,h2⟩)
    ·exact hu (.inl (hblkO c hx))
   have hrv:RVok w' (ZB L ι B.X) B.w0.heap.size (.ft es et z ps) (.tuple ((i :: i2 :: is).map fun j=>a.tmps.getD j undef).toArray):=by
    refine ⟨_,_,rfl,⟨vs,hrow',g2,PRepL.mono hkz _ _ g3,g4,fun b hb'=>?_⟩,PRepL.mono hkz _ _ (qn3 hs e4)⟩
    rcases hs.1.own b (hblkO b hb') with h'|h'
    ·obtain ⟨k0,q0,h5,h6⟩:=h'
     rw [hb0] at h5
     cases hbx:bx with
     |none=>rw [hbx] at h5;simp [l0,Zar] at h5
     |some p=>
      obtain ⟨q1,hq1⟩:=hZ0 (by rw [hbx];rfl)
      rw [hbx] at h5
      simp only [l0,Zar] at h5
      split at h5
      ·rename_i ek
       subst ek
       have hk0:ι (.b 0)=B.i0 (.b 0):=hs.1.keep (.b 0) (by rw [hb0,hbx];simp [l0,Zar]) (by rw [hq1];rfl)
       have:=hs.1.sim.inj (.b 0) (.l j) q1 _ b hq1 e2 (by rw [hk0];exact h6) (by rw [← hv];exact hb')
       cases this
      ·cases h5
    ·exact h'
   have hown2:∀ b,RV.own (.ft es et z ps) (.tuple ((i :: i2 :: is).map fun j=>a.tmps.getD j undef).toArray) b→Own L ι b:=fun b hb=>hblkO b hb
   cases hbx:bx with
   |none=>rw [hbx] at e3;exact ⟨_,.ft es et z ps,noOS,hres,e3,hrv,(fun h=>by cases h),hown2⟩
   |some p=>
    rw [hbx] at e3
    obtain ⟨cs',g1,g2⟩:=e3
    exact ⟨_,.ft es et z ps,cs',hres,g2,hrv,(fun _=>g1),hown2⟩
  cases e with
  |normal=>exact ⟨.inl rfl,key q⟩
  |ret=>exact ⟨.inr rfl,key q⟩
  |_=>exact q.elim
 ·cases hc
def qeV (P:Program) (E:Envt) (f:FuncId) (t:TypeId) (cs args:List PV) (ψ:PV→List PV→Prop):Prop:=GCall P E f (some (.box t cs)) args fun r os=>∃ x cs',r=.p x∧os=.box t cs'∧ψ x cs'
def qpK (P:Program) (E:Envt) (f:FuncId) (t:TypeId) (cs args:List PV) (e z:Nat) (ψ:List (List PV)→List PV→Prop):Prop:=GCall P E f (some (.box t cs)) args fun r os=>∃ es cs',r=.fr es e z∧os=.box t cs'∧ψ es cs'
def FCall (P:Program) (E:Envt) (f:FuncId) (args:List PV) (e z:Nat) (φ:List (List PV)→Prop):Prop:=GCall P E f none args fun r _=>∃ es,r=.fr es e z∧φ es
def RCall (P:Program) (E:Envt) (f:FuncId) (e z:Nat) (es:List (List PV)) (args:List PV) (ψ:PV→List (List PV)→Prop):Prop:=GCall P E f (some (.row e z es)) args fun r os=>∃ x es',r=.p x∧os=.row e z es'∧ψ x es'
def qvl (P:Program) (E:Envt) (f:FuncId) (pre:List PV) (e z:Nat) (es:List (List PV)) (args:List PV) (ψ:PV→List (List PV)→Prop):Prop:=GCallP P E f pre (some (.row e z es)) args fun r os=>∃ x es',r=.p x∧os=.row e z es'∧ψ x es'
def STup (P:Program) (E:Envt) (f:FuncId) (t:TypeId) (cs args:List PV) (e z:Nat) (ψ:List (List PV)→List PV→List PV→Prop):Prop:=GCall P E f (some (.box t cs)) args fun r os=>∃ es ps cs',r=.ft es e z ps∧os=.box t cs'∧ψ es ps cs'
theorem qlR {f:FuncId} {args:List PV} {e z:Nat} {φ:List (List PV)→Prop} (h:FCall P E f args e z φ):PCall P E f args (fun x=>∃ es,x=.sl z es∧φ es):=by
 intro w U vs hU hE hEb hA
 refine (h w U vs undef hU hE (fun c hc=>⟨hEb c hc,fun h=>by cases h⟩) hA trivial).mono ?_
 rintro en w' ⟨v,r,cs',rfl,⟨es,rfl,hφ⟩,⟨vs',r1,r2,r3,r4,r5⟩,hG⟩
 refine ⟨v,.sl z es,rfl,⟨es,rfl,hφ⟩,?_,hG⟩
 rcases r1.2 with ⟨g1,g2⟩|⟨g,cap,cur,fz,g1,g2,g3,_⟩
 ·exact ⟨none,0,by rw [g1,g2],by omega,fun hne=>absurd (zr g2) hne⟩
 ·have hgl:g < w'.heap.size:=(Array.getElem?_eq_some_iff.1 g2).1
  refine ⟨_,cap,g1,g3,fun _=>⟨g,0,rfl,hgl,fun hu=>?_,?_⟩⟩
  ·have:=hU g hu
   have:=r5 g (by rw [g1];rfl)
   omega
  ·have hc:=r1.cells g1
   have key:∀ (es:List (List PV)) (vs:List Value) (off:Nat),(∀ x∈es,x.length=z)→PRepL w' (fun b=>U b∨blk v=some b) es.flatten vs→(∀ v∈vs,v.oneCell'=true)→(∀ j u,vs[j]?=some u→w'.cell? ⟨g,off+j,none⟩=some u)→PRepE w' U g z off es:=by
    intro es
    induction es with
    |nil=>intros;simp [PRepE]
    |cons x r ih=>
     intro vs off hz hv h1 hc
     simp only [PRepE]
     have hx:=hz x (by simp)
     simp only [List.flatten_cons] at hv
     have ha:=hv.take x.length
     have hb:=hv.drop x.length
     rw [List.take_left] at ha
     rw [List.drop_left] at hb
     refine ⟨hx,PRepC.of (PRepL.mono (fun c _ hu=>⟨rfl,fun h=>hu (.inl h)⟩) _ _ ha) (fun v hv=>h1 v (List.mem_of_mem_take hv)) (fun j u hu=>hc j u (by rw [List.getElem?_take] at hu;split at hu;exact hu;cases hu)),ih _ (off+z) (fun y hy=>hz y (by simp [hy])) hb (fun v hv=>h1 v (List.mem_of_mem_drop hv)) (fun j u hu=>?_)⟩
     rw [List.getElem?_drop] at hu
     have:=hc _ u hu
     rwa [hx,← Nat.add_assoc] at this
   exact key es vs' 0 r4 r3 r2 (fun j u hu=>by rw [Nat.zero_add];exact hc j u hu)
variable {L:Objs} {fr:List AV} {X:List PV} {K:List AV→Objs→Prop}
theorem qzr {f:FuncId} {as:List AV} {ps:List PV} {post:RV→OS→Prop} (h:GCall P E f none ps post) (ha:Zbg L as=some ps) (hn:Zbi as=true):GC P E f as L none post:=by
 intro w X ι vs hs hX hE hEb hA
 exact h w (fun b=>Own L ι b∨X b) vs undef (fun b hb=>hb.elim (fun h=>qa5 hs h) (fun h=>(hX b h).1)) hE (fun b hb=>⟨(hEb b hb).1,fun h=>by cases h⟩) (qgk hn ha hA) trivial
def AV.key1 (k:Key):OS→AV
 |.box _ _=>.adr k 0
 |.row _ _ _=>.row k
theorem qo6 {f:FuncId} {as:List AV} {ps:List PV} {os:OS} {k:Key} {post:RV→OS→Prop} (h:GCall P E f (some os) ps post) (hl:Zar L k=some os.ao) (ha:Zbg L as=some ps) (hn:Zbi as=true):GC P E f (AV.key1 k os :: as) L (some (k,os)) post:=by
 intro w X ι vs hs hX hE hEb hA
 simp only [ARepL] at hA
 obtain ⟨v0,vr,rfl,hv0,hA⟩:=hA
 have hv0:v0=ι k:=by
  cases os with
  |box t cs=>obtain ⟨b,e1,e2⟩:=hv0;rw [e1,e2]
  |row e z es=>exact hv0.1
 subst hv0
 have hOb:∀ c,blk (ι k)=some c→Own L ι c:=fun c hc=>⟨k,_,hl,hc⟩
 refine (h w (fun b=>Own L ι b∨X b) vr (ι k) (fun b hb=>hb.elim (fun h=>qa5 hs h) (fun h=>(hX b h).1)) hE (fun c hc=>⟨(hEb c hc).1,fun _ e=>(hEb c hc).2 (hOb c e)⟩) (qgk hn ha hA) ⟨fun c hc=>.inl (hOb c hc),ObjAt.of (hs.obj k _ hl)⟩).mono ?_
 rintro e w' ⟨v,r,os',rfl,hp,hr,hG,hB⟩
 exact ⟨v,r,os',rfl,hp,hr,⟨hG.os,hG.tape,hG.output,hG.size,fun c hc hn=>hG.block c hc (fun ec=>hn ⟨_,hl,ec⟩)⟩,hB⟩
theorem qlD {w:World} {U:Nat→Prop} {ι:Key→Value}:∀ {as:List AV} {ps:List PV} {vs:List Value},qeU as=some ps→ARepL w U ι as vs→PRepL w U ps vs:=by
 intro as
 induction as with
 |nil=>intro ps vs h hr;simp only [qeU,zh] at h;subst h;exact hr
 |cons a as ih=>
  intro ps vs h hr
  cases a with
  |p x=>
   simp only [qeU,zi] at h
   obtain ⟨l,e2,rfl⟩:=h
   simp only [ARepL] at hr
   obtain ⟨v,r,rfl,h1,h2⟩:=hr
   simp only [PRepL]
   exact ⟨v,r,rfl,h1,ih e2 h2⟩
  |_=>simp [qeU] at h
theorem ARepL.split {w:World} {U:Nat→Prop} {ι:Key→Value}:∀ {as bs:List AV} {vs:List Value},ARepL w U ι (as++bs) vs→∃ us ws,vs=us++ws∧ARepL w U ι as us∧ARepL w U ι bs ws
 |[],bs,vs,h=>⟨[],vs,rfl,by simp [ARepL],h⟩
 |a :: as,bs,vs,h=>by
  simp only [List.cons_append,ARepL] at h
  obtain ⟨v,r,rfl,h1,h2⟩:=h
  obtain ⟨us,ws,rfl,h3,h4⟩:=ARepL.split h2
  exact ⟨v :: us,ws,rfl,by simp only [ARepL];exact ⟨v,us,rfl,h1,h3⟩,h4⟩
theorem qzq {f:FuncId} {as0 as:List AV} {pre ps:List PV} {os:OS} {k:Key} {post:RV→OS→Prop} (h:GCallP P E f pre (some os) ps post) (hl:Zar L k=some os.ao) (ha0:qeU as0=some pre) (ha:Zbg L as=some ps) (hn:Zbi as=true):GC P E f (as0++AV.key1 k os :: as) L (some (k,os)) post:=by
 intro w X ι vs hs hX hE hEb hA
 obtain ⟨us,ws,hvs,hA0,hA1⟩:=ARepL.split hA
 clear hA
 subst hvs
 simp only [ARepL] at hA1
 obtain ⟨v0,vr,hws,hv0,hA2⟩:=hA1
 subst hws
 have hv0:v0=ι k:=by
  cases os with
  |box t cs=>obtain ⟨b,e1,e2⟩:=hv0;rw [e1,e2]
  |row e z es=>exact hv0.1
 subst hv0
 have hOb:∀ c,blk (ι k)=some c→Own L ι c:=fun c hc=>⟨k,_,hl,hc⟩
 refine (h w (fun b=>Own L ι b∨X b) us vr (ι k) (fun b hb=>hb.elim (fun h=>qa5 hs h) (fun h=>(hX b h).1)) hE (fun c hc=>⟨(hEb c hc).1,fun _ e=>(hEb c hc).2 (hOb c e)⟩) (qlD ha0 hA0) (qgk hn ha hA2) ⟨fun c hc=>.inl (hOb c hc),ObjAt.of (hs.obj k _ hl)⟩).mono ?_
 rintro e w' ⟨v,r,os',rfl,hp,hr,hG,hB⟩
 exact ⟨v,r,os',rfl,hp,hr,⟨hG.os,hG.tape,hG.output,hG.size,fun c hc hn=>hG.block c hc (fun ec=>hn ⟨_,hl,ec⟩)⟩,hB⟩
theorem useS {f:FuncId} {as:List AV} {ps cs:List PV} {t:TypeId} {k:Key} {ψ:PV→List PV→Prop} {d:Option Nat} {is:List IOper} (h:qeV P E f t cs ps ψ) (hl:Zar L k=some (.box (cs.map .p) t)) (ha:Zbg L as=some ps) (hn:Zbi as=true) (hs:Zbk d (some (k,.box t cs)))
  (hk:∀ x cs',ψ x cs'→qaa P E X is (Zf fr d (.p x)) (Zas L k (.box (cs'.map .p) t)) K):qbF P E f (.adr k 0 :: as) L d fr (qef P E X is K):=
 .inr (.inl ⟨some (k,.box t cs),_,qo6 h hl ha hn,hl,hs,fun r os' hp=>by obtain ⟨x,cs',rfl,rfl,hx⟩:=hp;exact hk x cs' hx⟩)
theorem qjt {L L':Objs}:∀ {as:List AV},Zbi as=true→Zbg L as=Zbg L' as
 |[],_=>rfl
 |a :: r,h=>by
  have e:Zbh L a=Zbh L' a∧Zbi r=true:=by
   cases a<;>simp only [Zbi,Bool.false_eq_true,zj,List.isEmpty_iff] at h
   case fn f ks=>obtain ⟨rfl,h⟩:=h;exact ⟨rfl,h⟩
   all_goals exact ⟨rfl,h⟩
  simp only [Zbg]
  rw [e.1,qjt (L:=L) (L':=L') e.2]
theorem useD {b:Bool} {f:FuncId} {as:List AV} {ps cs:List PV} {t:TypeId} {k:Key} {ψ:PV→List PV→Prop} {d:Option Nat} {is:List IOper} (h:qeV P E f t cs ps ψ) (hne:∃ x cs',ψ x cs') (hl:Zar L k=some (.box (cs.map .p) t)) (ha:Zbg L as=some ps) (hn:Zbi as=true) (hs:Zbk d (some (k,.box t cs))) (hb:b=true→∃ j,k=.b j)
  (hk:∀ x cs',ψ x cs'→qaa P E X is (Zf fr d (.p x)) (Zas L k (.box (cs'.map .p) t)) K):DCallOp b P E f (.adr k 0 :: as) L d fr (qef P E X is K):=
 ⟨k,t,cs,ψ,fun L' hl'=>qo6 h hl' ((qjt hn).symm.trans ha) hn,hl,(fun e he=>by subst he;exact hs),hb,hne,hk⟩
theorem qAl {f:FuncId} {as:List AV} {ps cs:List PV} {t:TypeId} {k:Key} {e z:Nat} {ψ:List (List PV)→List PV→Prop} {d:Nat} {is:List IOper} (h:qpK P E f t cs ps e z ψ) (hl:Zar L k=some (.box (cs.map .p) t)) (ha:Zbg L as=some ps) (hn:Zbi as=true) (hs:Zbk (some d) (some (k,.box t cs)))
  (hk:∀ es cs',ψ es cs'→qaa P E X is ((fr.map (·.kill (.l d))).set d (.row (.l d))) (Zau (Zas L k (.box (cs'.map .p) t)) (.l d) (.row es e z true)) K):qbF P E f (.adr k 0 :: as) L (some d) fr (qef P E X is K):=
 .inr (.inl ⟨some (k,.box t cs),_,qo6 h hl ha hn,hl,hs,fun r os' hp=>by obtain ⟨es,cs',rfl,rfl,hx⟩:=hp;exact hk es cs' hx⟩)
theorem qAk {f:FuncId} {as:List AV} {ps cs:List PV} {t:TypeId} {k:Key} {e z:Nat} {ψ:List (List PV)→List PV→List PV→Prop} {d:Nat} {is:List IOper} (h:STup P E f t cs ps e z ψ) (hl:Zar L k=some (.box (cs.map .p) t)) (ha:Zbg L as=some ps) (hn:Zbi as=true) (hs:Zbk (some d) (some (k,.box t cs)))
  (hk:∀ es xs cs',ψ es xs cs'→qaa P E X is ((fr.map (·.kill (.l d))).set d (.tr (.l d) xs)) (Zau (Zas L k (.box (cs'.map .p) t)) (.l d) (.row es e z true)) K):qbF P E f (.adr k 0 :: as) L (some d) fr (qef P E X is K):=
 .inr (.inl ⟨some (k,.box t cs),_,qo6 h hl ha hn,hl,hs,fun r os' hp=>by obtain ⟨es,xs,cs',rfl,rfl,hx⟩:=hp;exact hk es xs cs' hx⟩)
theorem useF {f:FuncId} {as:List AV} {ps:List PV} {e z:Nat} {φ:List (List PV)→Prop} {d:Nat} {is:List IOper} (h:FCall P E f ps e z φ) (ha:Zbg L as=some ps) (hn:Zbi as=true)
  (hk:∀ es,φ es→qaa P E X is ((fr.map (·.kill (.l d))).set d (.row (.l d))) (Zau L (.l d) (.row es e z true)) K):qbF P E f as L (some d) fr (qef P E X is K):=
 .inr (.inl ⟨none,_,qzr h ha hn,trivial,trivial,fun r cs' hp=>by obtain ⟨es,rfl,hx⟩:=hp;exact hk es hx⟩)
theorem qpD:∀ ps:List PV,qeU (ps.map .p)=some ps
 |[]=>rfl
 |x :: r=>by simp only [zx,qeU,qpD r,zN]
theorem qBH {f:FuncId} {as:List AV} {ps:List PV} {e z:Nat} {φ:List (List PV)→Prop} {d:Nat} {is:List IOper} (h:FCall P E f ps e z φ) (ha:qeU as=some ps)
  (hk:∀ es,φ es→qaa P E X is ((fr.map (·.kill (.l d))).set d (.row (.l d))) (Zau L (.l d) (.row es e z true)) K):qbF P E f as L (some d) fr (qef P E X is K):=
 .inr (.inl ⟨none,_,(fun w X ι vs hs hX hE hEb hA=>h w (fun b=>Own L ι b∨X b) vs undef (fun b hb=>hb.elim (fun h=>qa5 hs h) (fun h=>(hX b h).1)) hE (fun b hb=>⟨(hEb b hb).1,fun h=>by cases h⟩) (qlD ha hA) trivial),trivial,trivial,fun r cs' hp=>by obtain ⟨es,rfl,hx⟩:=hp;exact hk es hx⟩)
theorem qBG {f:FuncId} {ps:List PV} {e z:Nat} {es:List (List PV)} (h:FCall P E f ps e z (·=es)):FrC P E f ps e z es:=fun L w X ι vs hs hX hE hEb hA=>
 (h w (fun b=>Own L ι b∨X b) vs undef (fun b hb=>hb.elim (fun h=>qa5 hs h) (fun h=>(hX b h).1)) hE (fun b hb=>⟨(hEb b hb).1,fun h=>by cases h⟩) (qlD (qpD ps) hA) trivial).mono (by
  rintro en w' ⟨v,r,cs',rfl,⟨es',rfl,rfl⟩,h2⟩
  exact ⟨v,_,cs',rfl,rfl,h2⟩)
theorem useR {f:FuncId} {as:List AV} {ps:List PV} {e z:Nat} {es:List (List PV)} {k:Key} {ψ:PV→List (List PV)→Prop} {d:Option Nat} {is:List IOper} (h:RCall P E f e z es ps ψ) (hl:Zar L k=some (.row es e z true)) (ha:Zbg L as=some ps) (hn:Zbi as=true) (hs:Zbk d (some (k,.row e z es)))
  (hk:∀ x es',ψ x es'→qaa P E X is (Zf fr d (.p x)) (Zas L k (.row es' e z true)) K):qbF P E f (.row k :: as) L d fr (qef P E X is K):=
 .inr (.inl ⟨some (k,.row e z es),_,qo6 h hl ha hn,hl,hs,fun r os' hp=>by obtain ⟨x,es',rfl,rfl,hx⟩:=hp;exact hk x es' hx⟩)
theorem qBF {f:FuncId} {as as0 as1:List AV} {pre ps:List PV} {e z:Nat} {es:List (List PV)} {k:Key} {ψ:PV→List (List PV)→Prop} {d:Option Nat} {is:List IOper} (h:qvl P E f pre e z es ps ψ) (he:as=as0++.row k :: as1) (hl:Zar L k=some (.row es e z true)) (ha0:qeU as0=some pre) (ha:Zbg L as1=some ps) (hn:Zbi as1=true) (hs:Zbk d (some (k,.row e z es)))
  (hk:∀ x es',ψ x es'→qaa P E X is (Zf fr d (.p x)) (Zas L k (.row es' e z true)) K):qbF P E f as L d fr (qef P E X is K):=by
 subst he
 exact .inr (.inl ⟨some (k,.row e z es),_,qzq h hl ha0 ha hn,hl,hs,fun r os' hp=>by obtain ⟨x,es',rfl,rfl,hx⟩:=hp;exact hk x es' hx⟩)
theorem GCall.mono {f:FuncId} {bx:Option OS} {args:List PV} {post post':RV→OS→Prop} (h:GCall P E f bx args post) (hp:∀ r os,post r os→post' r os):GCall P E f bx args post':=by
 intro w U vs v0 hU hE hEb hA hB
 refine (h w U vs v0 hU hE hEb hA hB).mono ?_
 rintro e w' ⟨v,r,os',h1,h2,h3⟩
 exact ⟨v,r,os',h1,hp r os' h2,h3⟩
theorem RCall.mono {f:FuncId} {e z:Nat} {es:List (List PV)} {args:List PV} {ψ ψ':PV→List (List PV)→Prop} (h:RCall P E f e z es args ψ) (hp:∀ x es,ψ x es→ψ' x es):RCall P E f e z es args ψ':=
 GCall.mono h fun r os ⟨x,es',h1,h2,h3⟩=>⟨x,es',h1,h2,hp x es' h3⟩
theorem FCall.mono {f:FuncId} {e z:Nat} {args:List PV} {φ φ':List (List PV)→Prop} (h:FCall P E f args e z φ) (hp:∀ es,φ es→φ' es):FCall P E f args e z φ':=
 GCall.mono h fun r os ⟨es,h1,h2⟩=>⟨es,h1,hp es h2⟩
theorem PCall.mono {f:FuncId} {args:List PV} {φ φ':PV→Prop} (h:PCall P E f args φ) (hp:∀ x,φ x→φ' x):PCall P E f args φ':=by
 intro w U vs hU hE hEb hA
 refine (h w U vs hU hE hEb hA).mono ?_
 rintro e w' ⟨v,x,h1,h2,h3⟩
 exact ⟨v,x,h1,hp x h2,h3⟩
theorem qdH {t:TypeId} {cs:List PV} {ψ:PV→List PV→Prop} {x:PV} (cs':List PV) (h1:Zar L (.b 0)=some (.box (cs'.map .p) t)) (h2:ψ x cs'):finP (some (.box t cs)) (fun r os=>∃ x cs',r=.p x∧os=.box t cs'∧ψ x cs') x L:=⟨.box t cs',h1,x,cs',rfl,rfl,h2⟩
theorem qjR {e z:Nat} {es:List (List PV)} {ψ:PV→List (List PV)→Prop} {x:PV} (es':List (List PV)) (h1:Zar L (.b 0)=some (.row es' e z true)) (h2:ψ x es'):finP (some (.row e z es)) (fun r os=>∃ x es',r=.p x∧os=.row e z es'∧ψ x es') x L:=⟨.row e z es',h1,x,es',rfl,rfl,h2⟩
theorem qjd {i e z:Nat} {φ:List (List PV)→Prop} (j:Nat) (es:List (List PV)) (h0:fr.getD i .any=.row (.l j)) (h1:Zar L (.l j)=some (.row es e z true)) (h2:φ es):finF none (fun r _=>∃ es,r=.fr es e z∧φ es) i fr L:=.inl ⟨j,es,e,z,h0,h1,es,rfl,h2⟩
theorem qBk {i e z z0:Nat} {φ:List (List PV)→Prop} (h0:fr.getD i .any=.p (.nl z0)) (h2:φ []):finF none (fun r _=>∃ es,r=.fr es e z∧φ es) i fr L:=.inr ⟨e,z,z0,h0,[],rfl,h2⟩
theorem quN {i e z:Nat} {t:TypeId} {cs:List PV} {ψ:List (List PV)→List PV→Prop} (j:Nat) (es:List (List PV)) (cs':List PV) (h0:fr.getD i .any=.row (.l j)) (h1:Zar L (.l j)=some (.row es e z true)) (h3:Zar L (.b 0)=some (.box (cs'.map .p) t)) (h2:ψ es cs'):finF (some (.box t cs)) (fun r os=>∃ es cs',r=.fr es e z∧os=.box t cs'∧ψ es cs') i fr L:=.inl ⟨j,es,e,z,h0,h1,.box t cs',h3,es,cs',rfl,rfl,h2⟩
theorem quM {i e z:Nat} {is:List Nat} {t:TypeId} {cs:List PV} {ψ:List (List PV)→List PV→List PV→Prop} (j:Nat) (es:List (List PV)) (ps cs':List PV) (h0:fr.getD i .any=.row (.l j)) (h1:Zar L (.l j)=some (.row es e z true)) (h4:qqK fr is=some ps) (h3:Zar L (.b 0)=some (.box (cs'.map .p) t)) (h2:ψ es ps cs'):finT (some (.box t cs)) (fun r os=>∃ es ps cs',r=.ft es e z ps∧os=.box t cs'∧ψ es ps cs') i is fr L:=.inl ⟨j,es,e,z,ps,h0,h1,h4,.box t cs',h3,es,ps,cs',rfl,rfl,h2⟩
end
end Go.Proofs.YtmpdnpljdcincaaGreatDoor
namespace Go.Proofs.YtmpdnpljdcincaaGreatDoor
open Go.RowKit
def qlU:PV→Bool
 |.int ..|.bool _|.str _=>true
 |_=>false
def valD:PV→Value
 |.int k n=>.int k n
 |.bool b=>.bool b
 |.str s=>.string ⟨s.toArray⟩
 |_=>undef
theorem PRep.valD {w:World} {U:Nat→Prop} {x:PV} {v:Value} (hf:qlU x=true):PRep w U x v↔v=valD x:=by
 cases x<;>simp_all [qlU,PRep,Go.Proofs.YtmpdnpljdcincaaGreatDoor.valD]
theorem PRepL.valD {w:World} {U:Nat→Prop}:∀ {xs:List PV} {vs:List Value},(xs.all qlU)=true→(PRepL w U xs vs↔vs=xs.map Go.Proofs.YtmpdnpljdcincaaGreatDoor.valD):=by
 intro xs
 induction xs with
 |nil=>intro vs _;simp [PRepL]
 |cons x r ih=>
  intro vs h
  simp only [List.all_cons,Bool.and_eq_true] at h
  simp only [PRepL,List.map_cons]
  constructor
  ·rintro ⟨v,s,rfl,h1,h2⟩
   rw [PRep.valD h.1] at h1
   rw [ih h.2] at h2
   rw [h1,h2]
  ·rintro rfl
   exact ⟨_,_,rfl,(PRep.valD h.1).2 rfl,(ih h.2).2 rfl⟩
theorem qq6 {x:PV} (hf:qlU x=true):(valD x).oneCell'=true:=by
 cases x<;>first|rfl|cases hf
section
variable {P:Program} {E:Envt}
theorem qfE {w w':World} {O:Nat→Prop} (h:Below w.heap.size w w'):Grow w w' O:=⟨h.os,h.tape,h.output,h.size,fun b hb _=>h.block b hb⟩
def qwN:PV→Bool
 |.tup cs=>cs.all qlU
 |x=>qlU x
def valX:PV→Value
 |.tup cs=>.tuple (cs.map valD).toArray
 |x=>valD x
theorem PRep.valX {w:World} {U:Nat→Prop} {x:PV} (hf:qwN x=true):PRep w U x (valX x):=by
 cases x with
 |tup cs=>exact ⟨_,rfl,(PRepL.valD (by simpa [qwN] using hf)).2 rfl⟩
 |int k n=>rfl
 |bool b=>rfl
 |str s=>rfl
 |_=>simp [qwN,qlU] at hf
theorem qbm {f:FuncId} {args:List PV} {r:PV} (ha:args.all qlU=true) (hr:qwN r=true) (h:∀ w,E.ok w→Calls P f (args.map valD).toArray w fun e w'=>e=.returned (valX r)∧Grow w w' (fun _=>False)):PCall P E f args (·=r):=by
 intro w U vs hU hE hEb hA
 rw [PRepL.valD ha] at hA
 subst hA
 refine (h w hE).mono ?_
 rintro e w' ⟨rfl,hg⟩
 exact ⟨_,r,rfl,rfl,PRep.valX hr,hg⟩
end
end Go.Proofs.YtmpdnpljdcincaaGreatDoor
namespace Go.Proofs.YtmpdnpljdcincaaGreatDoor
open Option.some renaming injEq→zh
open Nat renaming le_trans→yl
open List renaming append_assoc→yh,flatten_cons→zI,getElem?_eq_some_iff→zk,getElem?_map→zt,getElem?_set_ne→yp,length_append→zp,length_map→zw,map_cons→zx,mem_map→zG
open Option renaming isSome_iff_exists→zT,map_eq_some_iff→zi
theorem qp6 {P:Program} (w:World) (base:Nat) (t u ty e:TypeId) (i:TypeInfo) (ht:P.underlying t=some (.slice e)) (hu:P.underlying u=some .string) (hi:P.info? e=some i) (hz:i.zero=some (.int .u8 0))
  (hsize:i.size=1) (hby:i.bytes=1) (v:Value) (n:Nat) (xs:List Value) (hown:w.ownsRow base e 1 v n xs) (s:ByteArray)
  (h63:n+s.size≤maxLen) (hbytes:n+s.size≤140737488355328) (hbase:base≤w.heap.size) :
  ∃ v' w',(Builtin.append_ #[t,u] ty #[v,.string s]).run P w=.ok v' w'∧w'.ownsRow base e 1 v' (n+s.size) (xs++Lib.strCells s)∧w.grownBy w' v.ownBlock∧
   ∀ x,v'.ownBlock=some x→v.ownBlock=some x∨w.heap.size≤x:=by
 have hxl:xs.length=n:=by simpa using hown.1
 have hlen:(xs++Lib.strCells s).length=(n+s.size) * 1:=by rw [zp,hxl,Lib.strCells_length,Nat.mul_one]
 rcases hown.2 with ⟨rfl,rfl⟩|⟨g,cap,cur,rfl,hbg,hg,hnc,hcm,hcs,htake⟩
 ·have h0:w.ownsRow w.heap.size e 1 (.slice none 0 0) 0 xs:=⟨hown.1,.inl ⟨rfl,rfl⟩⟩
  obtain ⟨v',w',h1,h2,h3,h4⟩:=Lib.run_append_own_string (P:=P) w w.heap.size t u ty e i ht hu hi hz hsize hby _ 0 xs h0 s h63 hbytes (Nat.le_refl _)
  refine ⟨v',w',h1,⟨h2.1,?_⟩,h3,fun x hx=>?_⟩
  ·rcases h2.2 with g1|⟨g,cap,cur,g1,g2,g3⟩
   ·exact .inl g1
   ·exact .inr ⟨g,cap,cur,g1,yl hbase g2,g3⟩
  ·rcases h2.2 with ⟨g1,_⟩|⟨g,cap,cur,g1,g2,g3⟩
   ·rw [g1] at hx;cases hx
   ·rw [g1] at hx;cases hx;exact .inr g2
 ·have hsmall:n+s.size≤9223372036854775807:=by simp only [maxLen] at h63;omega
  by_cases hroom:n+s.size≤cap
  ·have hcs':cur.size=cap:=by simpa using hcs
   have hr:=Lib.run_append_room_string (P:=P) w t u ty e i ht hu hi hsize g n cap cur hg s hroom (by omega)
   refine ⟨_,_,hr,⟨hlen,.inr ⟨g,cap,_,rfl,hbg,setRow_heap w g cur _ e _ hg,hroom,hcm,?_,?_⟩⟩,⟨rfl,rfl,rfl,by simp,fun k _ hk=>setRow_other w g k _ (fun e=>hk (by simp [Value.ownBlock,e]))⟩,fun x hx=>.inl hx⟩
   ·simp only [List.size_toArray,zp,List.length_take,List.length_drop,Array.length_toList,Lib.strCells_length]
    omega
   ·have ht':cur.toList.take n=xs:=by simpa using htake
    rw [ht',← hlen]
    exact List.take_left
  ·have holds:∀ j u,xs[j]?=some u→w.cell? ((⟨g,0,none⟩:Addr).add j)=some u:=hown.cells (g:=g) rfl
   have hr:=Lib.run_append_grow_string (P:=P) w t u ty e i (.int .u8 0) ht hu hi hz ⟨g,0,none⟩ n cap xs (by rw [hsize];simpa using hxl) holds s (by omega) (by omega) (by rw [hby];exact growslice_fits (by omega) (by omega))
   have hge:=grownCap_ge w (n+s.size) cap e
   have hcm2:grownCap w (n+s.size) cap e≤maxLen:=grownCap_le_maxLen w (n+s.size) cap e h63
   refine ⟨_,_,hr,⟨hlen,.inr ⟨w.heap.size,_,_,rfl,hbase,heap_alloc_new w.drew _,hge,hcm2,?_,?_⟩⟩,⟨rfl,rfl,rfl,by simp,fun k hk _=>Lib.alloc_old w.drew _ k hk⟩,fun x hx=>?_⟩
   ·have hz1:(Value.int IntKind.u8 0).cells.size=1:=rfl
    simp only [Array.size_append,List.size_toArray,size_zeroCells,hz1,hxl,Lib.strCells_length]
    omega
   ·simp only [Array.toList_append,yh]
    rw [← yh,← hlen]
    exact List.take_left
   ·simp [Value.ownBlock] at hx
    omega
theorem qlL {P:Program} {w:World} {ops:Array Oper} {rest:List Oper} {o:Oper} {a:Act} {Q:Exit→Act→World→Prop} (hgd:o.guard=none) (sl x:Operand) (t u:TypeId)
  (ho:o.op=.call { callee:=.builtin .append,args:=#[sl,x],argTypes:=#[t,u] })
  (base:Nat) (e:TypeId) (i:TypeInfo) (ht:P.underlying t=some (.slice e)) (hu:P.underlying u=some .string) (hi:P.info? e=some i) (hz:i.zero=some (.int .u8 0))
  (hsize:i.size=1) (hby:i.bytes=1)
  (v:Value) (n:Nat) (xs:List Value) (hs:a.eval sl=v) (hown:w.ownsRow base e 1 v n xs) (s:ByteArray) (hx:a.eval x=.string s)
  (h63:n+s.size≤maxLen) (hbytes:n+s.size≤140737488355328) (hbase:base≤w.heap.size)
  (h:∀ v' w',w'.ownsRow base e 1 v' (n+s.size) (xs++Lib.strCells s)→w.grownBy w' v.ownBlock→(∀ x,v'.ownBlock=some x→v.ownBlock=some x∨w.heap.size≤x)→wpList P ops Q rest (a.put o.dst v') w'):wpList P ops Q (o :: rest) a w:=by
 refine wpList_plain hgd fun K hK=>?_
 obtain ⟨v',w',hr,h2,h3,h4⟩:=qp6 (P:=P) w base t u o.type e i ht hu hi hz hsize hby v n xs hown s h63 hbytes hbase
 unfold Oper.wp execOp
 simp only [ho,resolve,invoke,builtin,Sem.run_bind,Sem.run_pure,Result.andThen_ok,List.map_toArray,zx,List.map_nil,hs,hx,hr]
 exact hK _ _ (h v' w' h2 h3 h4)
def nilP:PV:=.raw (.pointer none)
def bytC (s:List UInt8):List (List PV):=s.map fun c=>[.int .u8 c.toNat]
def qfm (w:World) (T:TypeId) (b x:Nat):Prop:=∃ p u,w.heap[b]?=some (.cells #[p,u] T (0,0))∧u.ownBlock=some x
def SbPost (T e:TypeId) (b:Nat) (bs:List UInt8) (w w':World):Prop:=
 (∃ v,w'.heap[b]?=some (.cells #[.pointer (some ⟨b,0,none⟩),v] T (0,0))∧w'.ownsRow 0 e 1 v bs.length (Lib.byteCells bs)∧v.ownBlock≠some b∧∀ x,v.ownBlock=some x→qfm w T b x∨w.heap.size≤x)∧Grow w w' (fun x=>x=b∨qfm w T b x)
def SbAt (L:Objs) (k:Key) (i:Nat) (T e:TypeId) (s:List UInt8):Prop:=
 (Zar L k=some (.box [.p nilP,.p (.nl 1)] T)∧s=[])∨(Zar L k=some (.box [.adr k 0,.row (.l i)] T)∧Zar L (.l i)=some (.row (bytC s) e 1 true))
def qjC (L:Objs) (k:Key) (i:Nat) (T e:TypeId) (s:List UInt8):Objs:=Zas (Zau L (.l i) (.row (bytC s) e 1 true)) k (.box [.adr k 0,.row (.l i)] T)
section
variable {w w1 w2:World} {T e:TypeId} {b:Nat} {v v':Value} {bs:List UInt8} {p:Value}
theorem qmk {o:Obj} (h:w.heap[b]?=some o):b < w.heap.size:=by
 rcases Nat.lt_or_ge b w.heap.size with h'|h'
 ·exact h'
 ·simp [Array.getElem?_eq_none h'] at h
theorem qjq (h:w.heap[b]?=some (.cells #[p,v] T (0,0))) {x:Nat}:qfm w T b x↔v.ownBlock=some x:=by
 constructor
 ·rintro ⟨q,u,h1,h2⟩
  rw [h] at h1
  simp at h1
  rw [h1.2];exact h2
 ·intro h2;exact ⟨_,_,h,h2⟩
theorem quv (h:w.heap[b]?=some (.cells #[p,v] T (0,0))):(w.setCell ⟨b,1,none⟩ v').heap[b]?=some (.cells #[p,v'] T (0,0)):=by
 simp [World.setCell,Array.getElem?_modify,h]
theorem qi9 {q:Value} (h:w.heap[b]?=some (.cells #[p,v] T (0,0))):(w.setCell ⟨b,0,none⟩ q).heap[b]?=some (.cells #[q,v] T (0,0)):=by
 simp [World.setCell,Array.getElem?_modify,h]
theorem qhe {O:Nat→Prop} (off:Nat) (q:Value) (hO:O b):Grow w (w.setCell ⟨b,off,none⟩ q) O:=
 ⟨rfl,rfl,rfl,by simp [World.setCell],fun c _ hn=>heap_setCell_other _ _ _ _ (fun e=>hn (by subst e;exact hO))⟩
theorem qor (hTe:T≠e) (h1:Grow w w1 (·=b)) (hb1:∀ x,qfm w1 T b x→qfm w T b x) (hk1:w1.heap[b]?=some (.cells #[.pointer (some ⟨b,0,none⟩),v] T (0,0))) (hg:w1.grownBy w2 v.ownBlock) (hne:v.ownBlock≠some b)
  (hloc:∀ x,v'.ownBlock=some x→v.ownBlock=some x∨w1.heap.size≤x) (hown:w2.ownsRow 0 e 1 v' bs.length (Lib.byteCells bs)):SbPost T e b bs w (w2.setCell ⟨b,1,none⟩ v'):=by
 have hk2:w2.heap[b]?=some (.cells #[.pointer (some ⟨b,0,none⟩),v] T (0,0)):=by rw [hg.block b (qmk hk1) (fun e=>hne e.symm)];exact hk1
 have hne':=Lib.ownBlock_ne hown hk2 hTe
 refine ⟨⟨v',quv hk2,?_,hne',fun x hx=>?_⟩,?_⟩
 ·exact hown.kept (row:=some b) ⟨rfl,rfl,rfl,by simp [World.setCell],fun k _ hk=>heap_setCell_other _ _ _ _ (fun e=>hk (by simp [e]))⟩ (Or.inr hne')
 ·rcases hloc x hx with h|h
  ·exact .inl (hb1 x ((qjq hk1).2 h))
  ·exact .inr (yl h1.size h)
 ·refine ⟨hg.os.trans h1.os,hg.tape.trans h1.tape,hg.output.trans h1.output,yl h1.size (yl hg.size (by simp [World.setCell])),fun c hc hn=>?_⟩
  have e1:=h1.block c hc (fun e=>hn (.inl e))
  have e2:=hg.block c (Nat.lt_of_lt_of_le hc h1.size) (fun e=>hn (.inr (hb1 c ((qjq hk1).2 e.symm))))
  rw [heap_setCell_other _ _ _ _ (fun e=>hn (.inl (by simpa using e))),e2,e1]
def qvA (T e:TypeId) (b:Nat) (bs:List Value) (w w1:World):Prop:=
 ∃ v,w1.heap[b]?=some (.cells #[.pointer (some ⟨b,0,none⟩),v] T (0,0))∧w1.ownsRow 0 e 1 v bs.length bs∧v.ownBlock≠some b∧Grow w w1 (·=b)∧∀ x,qfm w1 T b x→qfm w T b x
theorem qqG {bs:List Value} (h:Lib.BuilderAt T e 0 b (.pointer (some ⟨b,0,none⟩)) bs w):qvA T e b bs w w:=by
 obtain ⟨_,v,h1,h2,h3⟩:=h
 exact ⟨v,h1,h2,h3,Grow.refl _ _,fun _ h=>h⟩
theorem qpq {bs:List Value} (h:Lib.BuilderAt T e 0 b (.pointer none) bs w):qvA T e b bs w (w.setCell ⟨b,0,none⟩ (.pointer (some ⟨b,0,none⟩))):=by
 obtain ⟨_,v,h1,h2,h3⟩:=h
 refine ⟨v,qi9 h1,?_,h3,qhe 0 _ rfl,fun x hx=>?_⟩
 ·exact h2.kept (row:=some b) ⟨rfl,rfl,rfl,by simp [World.setCell],fun k _ hk=>heap_setCell_other _ _ _ _ (fun e=>hk (by simp [e]))⟩ (Or.inr h3)
 ·exact (qjq h1).2 ((qjq (qi9 h1)).1 hx)
theorem qqs {g n:Nat} {O:Nat→Prop} (hg:O g):Grow w (w.drew.freeze ⟨g,0,none⟩ n) O:=by
 unfold World.freeze
 split
 ·exact (Grow.refl w O).drew
 ·exact ⟨rfl,rfl,rfl,by simp,fun k hk hn=>by
   simp only [Array.getElem?_modify]
   rw [if_neg (fun e=>hn (by subst e;exact hg))]
   rfl⟩
theorem qqt {o:Obj} {O:Nat→Prop}:Grow w (w.drew.alloc o) O:=⟨rfl,rfl,rfl,by simp,fun k hk _=>Lib.alloc_old w.drew _ k hk⟩
theorem SbPost.of_grown (hTe:T≠e) {cs:Array Value} (hbk:w.heap[b]?=some (.cells #[.pointer (some ⟨b,0,none⟩),.slice none 0 0] T (0,0))) (hm:cs.size≤maxLen) :
  SbPost T e b [] w ((w.alloc (.cells cs e)).setCell ⟨b,1,none⟩ (.slice (some ⟨w.heap.size,0,none⟩) 0 cs.size)).drew.drew.drew:=by
 have h:SbPost T e b [] w ((w.alloc (.cells cs e)).setCell ⟨b,1,none⟩ (.slice (some ⟨w.heap.size,0,none⟩) 0 cs.size)):=by
  refine qor (w1:=w) hTe (Grow.refl _ _) (fun _ h=>h) hbk (w2:=w.alloc (.cells cs e)) ⟨rfl,rfl,rfl,by simp,fun k hk _=>Lib.alloc_old w _ k hk⟩ (by simp [Value.ownBlock]) (fun x hx=>?_) ?_
  ·simp [Value.ownBlock] at hx;omega
  ·exact ⟨rfl,.inr ⟨w.heap.size,cs.size,cs,rfl,Nat.zero_le _,heap_alloc_new w _,Nat.zero_le _,hm,by simp,by simp [Lib.byteCells]⟩⟩
 obtain ⟨⟨u,h1,h2,h3,h4⟩,hG⟩:=h
 exact ⟨⟨u,h1,h2,h3,h4⟩,hG.drew.drew.drew⟩
theorem SbPost.behind {q:Value} (hbk:w.heap[b]?=some (.cells #[q,.slice none 0 0] T (0,0))) (h:SbPost T e b bs (w.setCell ⟨b,0,none⟩ (.pointer (some ⟨b,0,none⟩))).drew w2):SbPost T e b bs w w2:=by
 obtain ⟨⟨u,h1,h2,h3,h4⟩,hG⟩:=h
 have hk:=qi9 (q:=.pointer (some ⟨b,0,none⟩)) hbk
 have hno:∀ x,¬ qfm (w.setCell ⟨b,0,none⟩ (.pointer (some ⟨b,0,none⟩))).drew T b x:=fun x hx=>by
  have:=(qjq (w:=(w.setCell ⟨b,0,none⟩ (.pointer (some ⟨b,0,none⟩))).drew) hk).1 hx
  simp [Value.ownBlock] at this
 refine ⟨⟨u,h1,h2,h3,fun x hx=>?_⟩,?_⟩
 ·rcases h4 x hx with h|h
  ·exact (hno x h).elim
  ·exact .inr (by simpa [World.setCell] using h)
 ·refine (qhe (w:=w) 0 (.pointer (some ⟨b,0,none⟩)) (O:=fun x=>x=b∨qfm w T b x) (.inl rfl)).drew.trans hG (fun c hc=>?_)
  rcases hc with h|h
  ·exact .inl (.inl h)
  ·exact (hno c h).elim
theorem SbPost.of_used {q:Value} (hbk:w.heap[b]?=some (.cells #[q,.slice none 0 0] T (0,0))):SbPost T e b [] w (w.setCell ⟨b,0,none⟩ (.pointer (some ⟨b,0,none⟩))).drew:=by
 refine ⟨⟨.slice none 0 0,qi9 hbk,World.ownsRow_nil _ _ _ _,by simp [Value.ownBlock],fun x hx=>by simp [Value.ownBlock] at hx⟩,?_⟩
 exact (qhe (w:=w) 0 (.pointer (some ⟨b,0,none⟩)) (O:=fun x=>x=b∨qfm w T b x) (.inl rfl)).drew
end
section
variable {P:Program} {E:Envt} {w w':World} {X:Nat→Prop} {U:Nat→Prop} {L:Objs} {ι:Key→Value} {k:Key} {i:Nat} {T e:TypeId} {s s':List UInt8}
theorem qr0:(bytC s).length=s.length:=by simp [bytC]
theorem bytC_rep:∀ {s:List UInt8} {vs:List Value},PRepL w U (bytC s).flatten vs↔vs=Lib.byteCells s
 |[],vs=>by simp [bytC,PRepL,Lib.byteCells]
 |c :: r,vs=>by
  have ih:∀ vs,PRepL w U (bytC r).flatten vs↔vs=Lib.byteCells r:=fun vs=>bytC_rep
  simp only [bytC,zx,zI,List.cons_append,List.nil_append,PRepL,PRep,Lib.byteCells] at ih ⊢
  constructor
  ·rintro ⟨v,r',rfl,rfl,h⟩
   rw [(ih r').1 h]
  ·rintro rfl
   exact ⟨_,_,rfl,rfl,(ih _).2 rfl⟩
theorem qme (hs:Sim w X L ι) {k j:Key} {a q:AO} (h1:Zar L k=some a) (h2:Zar L j=some q) (hne:k≠j) {b:Nat} (hb:blk (ι k)=some b):blk (ι j)≠some b:=fun h=>hne (hs.inj k j a q b h1 h2 hb h)
theorem qrn (hs:Sim w X L ι) (hki:k≠.l i) (h:SbAt L k i T e s):∃ b,ι k=.pointer (some ⟨b,0,none⟩)∧(∃ a,Zar L k=some a)∧Lib.IsBuilder T e 0 b (Lib.byteCells s) w∧(∀ x,qfm w T b x→Old L ι (.l i) x)∧(Zar L k=some (.box [.p nilP,.p (.nl 1)] T)→w.heap[b]?=some (.cells #[.pointer none,.slice none 0 0] T (0,0))):=by
 rcases h with ⟨h1,rfl⟩|⟨h1,h2⟩
 ·obtain ⟨b,vs,e1,e2,e3,e4,e5⟩:=hs.obj k _ h1
  obtain ⟨v0,f0,r0⟩:=e5 0 _ rfl
  obtain ⟨v1,f1,r1⟩:=e5 1 _ rfl
  simp only [ARep,PRep,nilP] at r0 r1
  have hvs:vs=[.pointer none,.slice none 0 0]:=by
   match vs,e3,f0,f1 with
   |[x,y],_,f0,f1=>
    simp at f0 f1
    rw [f0,f1,r0.1,r1]
  subst hvs
  refine ⟨b,e1,⟨_,h1⟩,.inl ⟨Nat.zero_le _,.slice none 0 0,e2,World.ownsRow_nil _ _ _ _,by simp [Value.ownBlock]⟩,?_,fun _=>e2⟩
  rintro x ⟨p,u,g1,g2⟩
  rw [g1] at e2
  simp at e2
  rw [e2.2] at g2
  simp [Value.ownBlock] at g2
 ·obtain ⟨b,vs,e1,e2,e3,e4,e5⟩:=hs.obj k _ h1
  obtain ⟨v0,f0,r0⟩:=e5 0 _ rfl
  obtain ⟨v1,f1,r1⟩:=e5 1 _ rfl
  obtain ⟨b',q1,q2⟩:=r0
  obtain ⟨q3,q4⟩:=r1
  have hbb:b'=b:=by rw [e1] at q1;cases q1;rfl
  subst hbb
  have hvs:vs=[.pointer (some ⟨b',0,none⟩),ι (.l i)]:=by
   match vs,e3,f0,f1 with
   |[x,y],_,f0,f1=>
    simp at f0 f1
    rw [f0,f1,q2,q3]
  subst hvs
  obtain ⟨us,u1,u2,u3,u4⟩:=hs.obj (.l i) _ h2
  rw [bytC_rep] at u3
  subst u3
  have hsl:∃ A n c,ι (.l i)=.slice A n c:=by rw [← q3];exact q4
  have hbk:blk (ι (.l i))=(ι (.l i)).ownBlock:=qcK (b:=0) hsl
  refine ⟨b',e1,⟨_,h1⟩,.inr ⟨Nat.zero_le _,ι (.l i),e2,?_,?_⟩,?_,fun hf=>by rw [h1] at hf;cases hf⟩
  ·have:=u1.owns
   rw [qr0] at this
   simpa [Lib.byteCells] using this
  ·rw [← hbk]
   exact qme hs h1 h2 hki (by rw [e1];rfl)
  ·rintro x ⟨p,u,g1,g2⟩
   rw [g1] at e2
   simp at e2
   rw [e2.2,← hbk] at g2
   exact ⟨_,h2,g2⟩
theorem qhB (j:Key):Zar (qjC L k i T e s) j=if j=k then some (.box [.adr k 0,.row (.l i)] T) else if j=.l i then some (.row (bytC s) e 1 true) else (Zar L j).map (AO.kill (.l i)):=by
 unfold qjC
 rw [qad,qap]
theorem qyM {f:FuncId} {as:List AV} {vr:List Value} {x:PV} {v:Value} (hki:k≠.l i) (hat:SbAt L k i T e s) (ha:∀ w U ι vs,ARepL w U ι as vs→vs=vr) (hx:∀ w U,PRep w U x v)
  (hc:∀ b w,Lib.IsBuilder T e 0 b (Lib.byteCells s) w→(Zar L k=some (.box [.p nilP,.p (.nl 1)] T)→w.heap[b]?=some (.cells #[.pointer none,.slice none 0 0] T (0,0)))→Calls P f (.pointer (some ⟨b,0,none⟩) :: vr).toArray w fun ev w'=>ev=.returned v∧SbPost T e b s' w w')
  {K:AV→Objs→Prop} (hK:K (.p x) (qjC L k i T e s')):Call P E f (.adr k 0 :: as) L i K:=by
 intro w X ι vs hs hX hE hEb hA
 simp only [ARepL] at hA
 obtain ⟨v0,vr',rfl,⟨b0,hv1,hv2⟩,hA⟩:=hA
 have:=ha _ _ _ _ hA
 subst this
 obtain ⟨b,hb1,⟨ak,hak⟩,hib,hbuf,hfr⟩:=qrn hs hki hat
 have hbb:b0=b:=by rw [hb1] at hv1;cases hv1;rfl
 subst hbb
 subst hv2
 refine (hc b0 w hib hfr).mono ?_
 rintro ev w' ⟨rfl,⟨u,p1,p2,p3,p4⟩,hG⟩
 have hOk:Own L ι b0:=⟨k,ak,hak,by rw [hb1];rfl⟩
 have hGo:∀ c,(c=b0∨qfm w T b0 c)→Own L ι c:=by
  rintro c (rfl|h)
  ·exact hOk
  ·obtain ⟨q,h1,h2⟩:=hbuf c h;exact ⟨_,q,h1,h2⟩
 have husl:=qaD p2
 have hubk:blk u=u.ownBlock:=qcK (b:=0) husl
 have hik:updI ι (.l i) u k=ι k:=by simp [updI,hki]
 have hii:updI ι (.l i) u (.l i)=u:=by simp [updI]
 have hown:∀ c,Own (qjC L k i T e s') (updI ι (.l i) u) c→Own L ι c∨w.heap.size≤c:=by
  rintro c ⟨j,q,h1,h2⟩
  by_cases e1:j=k
  ·subst e1;rw [hik] at h2;exact .inl ⟨j,ak,hak,h2⟩
  ·by_cases e2:j=.l i
   ·subst e2
    rw [hii,hubk] at h2
    rcases p4 c h2 with h|h
    ·exact .inl (hGo c (.inr h))
    ·exact .inr h
   ·rw [qhB,if_neg e1,if_neg e2] at h1
    obtain ⟨q',h3,_⟩:=zi.1 h1
    refine .inl ⟨j,q',h3,?_⟩
    simpa [updI,e2] using h2
 have hgrow:Grow w w' (Own L ι):=⟨hG.os,hG.tape,hG.output,hG.size,fun c hc hn=>hG.block c hc (fun h=>hn (hGo c h))⟩
 have hk:Keeps w w' (fun c=>Own L ι c∨X c) (fun c=>Own (qjC L k i T e s') (updI ι (.l i) u) c∨X c):=by
  intro c hlt hu
  refine ⟨hgrow.block c hlt (fun h=>hu (.inl h)),?_⟩
  rintro (h|h)
  ·rcases hown c h with h'|h'
   ·exact hu (.inl h')
   ·omega
  ·exact hu (.inr h)
 refine ⟨v,.p x,_,updI ι (.l i) u,rfl,hK,hx _ _,⟨⟨?_,?_⟩,hgrow,hown,fun j hj=>by simp [updI,hj],?_⟩⟩
 ·intro j q hj
  rw [qhB] at hj
  by_cases e1:j=k
  ·subst e1
   rw [if_pos rfl] at hj
   cases hj
   refine ⟨b0,[.pointer (some ⟨b0,0,none⟩),u],by rw [hik];exact hb1,p1,rfl,?_,?_⟩
   ·intro y hy
    simp only [List.mem_cons,List.not_mem_nil,or_false] at hy
    rcases hy with rfl|rfl
    ·rfl
    ·obtain ⟨A,n,c,rfl⟩:=husl;rfl
   ·intro m a hm
    match m,hm with
    |0,hm=>simp at hm;subst hm;exact ⟨_,rfl,b0,by rw [hik];exact hb1,rfl⟩
    |1,hm=>simp at hm;subst hm;exact ⟨_,rfl,by rw [hii],husl⟩
  ·rw [if_neg e1] at hj
   by_cases e2:j=.l i
   ·subst e2
    rw [if_pos rfl] at hj
    cases hj
    refine ⟨Lib.byteCells s',?_,?_,bytC_rep.2 rfl,?_⟩
    ·rw [hii,qr0];exact RowOk.of_owns p2
    ·intro y hy
     simp only [Lib.byteCells,zG] at hy
     obtain ⟨c,_,rfl⟩:=hy
     rfl
    ·intro y hy
     simp only [bytC,zG] at hy
     obtain ⟨c,_,rfl⟩:=hy
     rfl
   ·rw [if_neg e2] at hj
    obtain ⟨q',h1,rfl⟩:=zi.1 hj
    have ho:=hs.obj j q' h1
    refine ObjOk.other e2 hk (fun c hcj=>hG.block c (ho.blk_lt hcj) ?_) ho
    rintro (rfl|h)
    ·exact qme hs hak h1 (fun e=>e1 e.symm) (by rw [hb1];rfl) hcj
    ·obtain ⟨q2,h2,h3⟩:=hbuf c h
     exact qme hs h2 h1 (fun e=>e2 e.symm) h3 hcj
 ·have hin:∀ j q c,Zar (qjC L k i T e s') j=some q→blk (updI ι (.l i) u j)=some c→(j=.l i∧u.ownBlock=some c)∨(j≠.l i∧∃ q',Zar L j=some q'∧blk (ι j)=some c):=by
   intro j q c hj hc
   by_cases e2:j=.l i
   ·subst e2;rw [hii,hubk] at hc;exact .inl ⟨rfl,hc⟩
   ·refine .inr ⟨e2,?_⟩
    rw [qhB] at hj
    have hc':blk (ι j)=some c:=by simpa [updI,e2] using hc
    by_cases e1:j=k
    ·subst e1;exact ⟨ak,hak,hc'⟩
    ·rw [if_neg e1,if_neg e2] at hj
     obtain ⟨q',h1,_⟩:=zi.1 hj
     exact ⟨q',h1,hc'⟩
  have hclash:∀ j c,u.ownBlock=some c→j≠.l i→(∃ q',Zar L j=some q'∧blk (ι j)=some c)→False:=by
   rintro j c h1 h2 ⟨q',h3,h4⟩
   rcases p4 c h1 with h|h
   ·obtain ⟨q2,h5,h6⟩:=hbuf c h
    exact qme hs h5 h3 (fun e=>h2 e.symm) h6 h4
   ·have:=(hs.obj j q' h3).blk_lt h4
    omega
  intro j j' q q' c hj hj' hc hc'
  rcases hin j q c hj hc with ⟨rfl,h1⟩|⟨h1,h2⟩<;>rcases hin j' q' c hj' hc' with ⟨rfl,h3⟩|⟨h3,h4⟩
  ·rfl
  ·exact (hclash _ c h1 h3 h4).elim
  ·exact (hclash _ c h3 h1 h2).elim
  ·obtain ⟨q1,g1,g2⟩:=h2
   obtain ⟨q2,g3,g4⟩:=h4
   exact hs.inj j j' q1 q2 c g1 g3 g2 g4
 ·intro j hj
  rw [qhB] at hj
  by_cases e1:j=k
  ·subst e1;exact .inl (by rw [hak];rfl)
  ·by_cases e2:j=.l i
   ·exact .inr e2
   ·rw [if_neg e1,if_neg e2] at hj
    exact .inl (by simpa using hj)
def qpi (L:Objs) (k:Key) (i:Nat):Objs:=delO (delO L k) (.l i)
theorem qsw (j:Key):Zar (qpi L k i) j=if j=.l i∨j=k then none else Zar L j:=by
 unfold qpi
 rw [qoV,qoV]
 by_cases h1:j=.l i<;>by_cases h2:j=k<;>simp [h1,h2]
theorem qtw {f:FuncId} (hki:k≠.l i) (hat:SbAt L k i T e s)
  (hc:∀ b w,Lib.IsBuilder T e 0 b (Lib.byteCells s) w→Calls P f #[.pointer (some ⟨b,0,none⟩)] w fun ev w'=>ev=.returned (.string ⟨s.toArray⟩)∧Grow w w' (fun x=>x=b∨qfm w T b x))
  {K:AV→Objs→Prop} (hK:K (.p (.str s)) (qpi L k i)):Call P E f [.adr k 0] L i K:=by
 intro w X ι vs hs hX hE hEb hA
 simp only [ARepL] at hA
 obtain ⟨v0,vr',rfl,⟨b0,hv1,hv2⟩,hA⟩:=hA
 subst hA
 obtain ⟨b,hb1,⟨ak,hak⟩,hib,hbuf,hfr⟩:=qrn hs hki hat
 have hbb:b0=b:=by rw [hb1] at hv1;cases hv1;rfl
 subst hbb
 subst hv2
 refine (hc b0 w hib).mono ?_
 rintro ev w' ⟨rfl,hG⟩
 have hGo:∀ c,(c=b0∨qfm w T b0 c)→Own L ι c:=by
  rintro c (rfl|h)
  ·exact ⟨k,ak,hak,by rw [hb1];rfl⟩
  ·obtain ⟨q,h1,h2⟩:=hbuf c h;exact ⟨_,q,h1,h2⟩
 have hsub:∀ j q,Zar (qpi L k i) j=some q→j≠.l i∧j≠k∧Zar L j=some q:=by
  intro j q hj
  rw [qsw] at hj
  by_cases h:j=.l i∨j=k
  ·rw [if_pos h] at hj;cases hj
  ·rw [if_neg h] at hj;exact ⟨fun e=>h (.inl e),fun e=>h (.inr e),hj⟩
 have hown:∀ c,Own (qpi L k i) ι c→Own L ι c:=by
  rintro c ⟨j,q,h1,h2⟩
  exact ⟨j,q,(hsub j q h1).2.2,h2⟩
 have hgrow:Grow w w' (Own L ι):=⟨hG.os,hG.tape,hG.output,hG.size,fun c hc hn=>hG.block c hc (fun h=>hn (hGo c h))⟩
 have hk:Keeps w w' (fun c=>Own L ι c∨X c) (fun c=>Own (qpi L k i) ι c∨X c):=fun c hlt hu=>⟨hgrow.block c hlt (fun h=>hu (.inl h)),fun h=>hu (h.imp (hown c) id)⟩
 refine ⟨_,.p (.str s),_,ι,rfl,hK,rfl,⟨⟨fun j q hj=>?_,fun j j' q q' c hj hj' h1 h2=>hs.inj j j' q q' c (hsub j q hj).2.2 (hsub j' q' hj').2.2 h1 h2⟩,hgrow,fun c h=>.inl (hown c h),fun j hj=>rfl,fun j hj=>?_⟩⟩
 ·obtain ⟨e2,e1,h1⟩:=hsub j q hj
  have ho:=hs.obj j q h1
  have hne:∀ c,blk (ι j)=some c→w'.heap[c]?=w.heap[c]?:=by
   intro c hcj
   refine hG.block c (ho.blk_lt hcj) ?_
   rintro (rfl|h)
   ·exact qme hs hak h1 (fun e=>e1 e.symm) (by rw [hb1];rfl) hcj
   ·obtain ⟨q2,h2,h3⟩:=hbuf c h
    exact qme hs h2 h1 (fun e=>e2 e.symm) h3 hcj
  exact ObjOk.mono hk hne ho
 ·obtain ⟨q,hq⟩:=zT.1 hj
  exact .inl (by rw [(hsub j q hq).2.2];rfl)
variable {fr:List AV} {d:Option Nat} {is:List IOper} {Y:List PV} {K:List AV→Objs→Prop}
theorem useW {f:FuncId} {as:List AV} {vr:List Value} {x:PV} {v:Value} (i:Nat) (T e:TypeId) (s s':List UInt8) (hat:SbAt L k i T e s) (hki:k≠.l i) (ha:∀ w U ι vs,ARepL w U ι as vs→vs=vr) (hx:∀ w U,PRep w U x v)
  (hc:∀ b w,Lib.IsBuilder T e 0 b (Lib.byteCells s) w→(Zar L k=some (.box [.p nilP,.p (.nl 1)] T)→w.heap[b]?=some (.cells #[.pointer none,.slice none 0 0] T (0,0)))→Calls P f (.pointer (some ⟨b,0,none⟩) :: vr).toArray w fun ev w'=>ev=.returned v∧SbPost T e b s' w w')
  (hk:qaa P E Y is (Zf (fr.map (·.kill (.l i))) d (.p x)) (qjC L k i T e s') K):qbF P E f (.adr k 0 :: as) L d fr (qef P E Y is K):=
 .inr (.inr ⟨i,qyM hki hat ha hx hc hk⟩)
theorem qBE {f:FuncId} (i:Nat) (T e:TypeId) (s:List UInt8) (hat:SbAt L k i T e s) (hki:k≠.l i)
  (hc:∀ b w,Lib.IsBuilder T e 0 b (Lib.byteCells s) w→Calls P f #[.pointer (some ⟨b,0,none⟩)] w fun ev w'=>ev=.returned (.string ⟨s.toArray⟩)∧Grow w w' (fun x=>x=b∨qfm w T b x))
  (hk:qaa P E Y is (Zf (fr.map (·.kill (.l i))) d (.p (.str s))) (qpi L k i) K):qbF P E f [.adr k 0] L d fr (qef P E Y is K):=
 .inr (.inr ⟨i,qtw hki hat hc hk⟩)
end
def qtA (f:Key→Option Key):List Key→Option (List Key)
 |[]=>some []
 |k :: r=>match f k with
  |some k'=>(qtA f r).map (k' :: ·)
  |none=>none
def qmV (f:Key→Option Key):List CV→Option (List CV)
 |[]=>some []
 |.p p :: r=>(qmV f r).map (.p p :: ·)
 |.row k :: r=>match f k with
  |some k'=>(qmV f r).map (.row k' :: ·)
  |none=>none
 |.mp k :: r=>match f k with
  |some k'=>(qmV f r).map (.mp k' :: ·)
  |none=>none
def AV.ren (f:Key→Option Key):AV→AV
 |.p x=>.p x
 |.row k=>match f k with|some k'=>.row k'|none=>.any
 |.adr k o=>match f k with|some k'=>.adr k' o|none=>.any
 |.rad k z i o=>match f k with|some k'=>.rad k' z i o|none=>.any
 |.ipt z es i o=>.ipt z es i o
 |.mp k=>match f k with|some k'=>.mp k'|none=>.any
 |.fn fi ks=>match qtA f ks with|some ks'=>.fn fi ks'|none=>.any
 |.g c a=>.g c (a.ren f)
 |.ag cs=>match qmV f cs with|some cs'=>.ag cs'|none=>.any
 |.tr k ps=>match f k with|some k'=>.tr k' ps|none=>.any
 |.any=>.any
def AO.ren (f:Key→Option Key):AO→AO
 |.box cs t=>.box (cs.map (·.ren f)) t
 |.row es e z ap=>.row es e z ap
 |.map kv a b=>.map kv a b
 |.rowv es e z=>.rowv (es.map (·.map (·.ren f))) e z
 |.mapv kv a b=>.mapv (kv.map fun p=>(p.1,p.2.ren f)) a b
def mapO (f:Key→Option Key):Objs→Objs
 |[]=>[]
 |(k,a) :: r=>match f k with
  |some k'=>(k',a.ren f) :: mapO f r
  |none=>mapO f r
section
variable {w w':World} {U:Nat→Prop} {ι ι':Key→Value} {f:Key→Option Key}
theorem qox (hf:∀ k k',f k=some k'→ι' k'=ι k):∀ {ks ks':List Key},qtA f ks=some ks'→ks'.map ι'=ks.map ι
 |[],ks',h=>by simp only [qtA,zh] at h;subst h;rfl
 |k :: r,ks',h=>by
  simp only [qtA] at h
  split at h
  ·rename_i k' e
   obtain ⟨r',h1,rfl⟩:=zi.1 h
   simp only [zx,qox hf h1,hf k k' e]
  ·cases h
theorem qiR (hf:∀ k k',f k=some k'→ι' k'=ι k):∀ {cs cs':List CV},qmV f cs=some cs'→cs'.length=cs.length∧∀ (j:Nat) (x':CV),cs'[j]?=some x'→∃ x,cs[j]?=some x∧∀ w U v,CRep w U ι x v→CRep w U ι' x' v
 |[],cs',h=>by simp only [qmV,zh] at h;subst h;simp
 |.p p :: r,cs',h=>by
  simp only [qmV] at h
  obtain ⟨r',h1,rfl⟩:=zi.1 h
  obtain ⟨g1,g2⟩:=qiR hf h1
  refine ⟨by simp [g1],fun j x' hx=>?_⟩
  cases j with
  |zero=>simp at hx;subst hx;exact ⟨_,rfl,fun w U v h=>h⟩
  |succ j=>simp at hx;simpa using g2 j x' hx
 |.row k :: r,cs',h=>by
  simp only [qmV] at h
  split at h
  ·rename_i k' e
   obtain ⟨r',h1,rfl⟩:=zi.1 h
   obtain ⟨g1,g2⟩:=qiR hf h1
   refine ⟨by simp [g1],fun j x' hx=>?_⟩
   cases j with
   |zero=>simp at hx;subst hx;exact ⟨_,rfl,fun w U v h=>by simp only [CRep] at h ⊢;rw [hf k k' e];exact h⟩
   |succ j=>simp at hx;simpa using g2 j x' hx
  ·cases h
 |.mp k :: r,cs',h=>by
  simp only [qmV] at h
  split at h
  ·rename_i k' e
   obtain ⟨r',h1,rfl⟩:=zi.1 h
   obtain ⟨g1,g2⟩:=qiR hf h1
   refine ⟨by simp [g1],fun j x' hx=>?_⟩
   cases j with
   |zero=>simp at hx;subst hx;exact ⟨_,rfl,fun w U v h=>by simp only [CRep] at h ⊢;rw [hf k k' e];exact h⟩
   |succ j=>simp at hx;simpa using g2 j x' hx
  ·cases h
theorem ARep.ren (hf:∀ k k',f k=some k'→ι' k'=ι k):∀ {a:AV} {u:Value},ARep w U ι a u→ARep w U ι' (a.ren f) u
 |.p x,u,h=>h
 |.row k,u,h=>by
  simp only [AV.ren];split
  ·rename_i k' e;simpa [ARep,hf k k' e] using h
  ·trivial
 |.adr k o,u,h=>by
  simp only [AV.ren];split
  ·rename_i k' e;simpa [ARep,hf k k' e] using h
  ·trivial
 |.rad k z i o,u,h=>by
  simp only [AV.ren];split
  ·rename_i k' e;simpa [ARep,hf k k' e] using h
  ·trivial
 |.ipt z es i o,u,h=>h
 |.mp k,u,h=>by
  simp only [AV.ren];split
  ·rename_i k' e;simpa [ARep,hf k k' e] using h
  ·trivial
 |.fn fi ks,u,h=>by
  simp only [AV.ren];split
  ·rename_i ks' e
   simp only [ARep] at h ⊢
   rw [h,qox hf e]
  ·trivial
 |.g c a,u,h=>⟨fun hc=>ARep.ren hf (a:=a) (h.1 hc),h.2⟩
 |.ag cs,u,h=>by
  simp only [AV.ren];split
  ·rename_i cs' e
   obtain ⟨vs,e0,hl,hr⟩:=h
   obtain ⟨g1,g2⟩:=qiR hf e
   refine ⟨vs,e0,by rw [hl,g1],fun j x' hx=>?_⟩
   obtain ⟨x,hx1,hx2⟩:=g2 j x' hx
   obtain ⟨v,h1,h2,h3⟩:=hr j x hx1
   exact ⟨v,h1,h2,hx2 _ _ _ h3⟩
  ·trivial
 |.tr k ps,u,h=>by
  simp only [AV.ren];split
  ·rename_i k' e
   obtain ⟨vs,e0,hs,hr⟩:=h
   exact ⟨vs,by rw [hf k k' e];exact e0,by rw [hf k k' e];exact hs,hr⟩
  ·trivial
 |.any,u,h=>trivial
theorem AO.ren_mapA (a:AO):a.ren f=a.mapA (AV.ren f):=by cases a<;>rfl
theorem ObjOk.ren (hf:∀ k k',f k=some k'→ι' k'=ι k) {k k':Key} (hk:ι' k'=ι k) {a:AO} (h:ObjOk w U ι k a):ObjOk w U ι' k' (a.ren f):=by
 rw [AO.ren_mapA]
 exact h.conv _ hk (fun _ _=>rfl) (fun b _ hu=>⟨rfl,hu⟩) (fun hr=>hr.ren hf)
theorem ObjOk.keeps {U':Nat→Prop} (hk:Keeps w w U U') {k:Key} {a:AO} (h:ObjOk w U ι k a):ObjOk w U' ι k a:=h.mono hk (fun _ _=>rfl)
theorem qlg (hi:∀ k1 k2 k,f k1=some k→f k2=some k→k1=k2) {k:Key} {a:AO}:∀ {L:Objs},Zar (mapO f L) k=some a→∃ k' a',Zar L k'=some a'∧f k'=some k∧a=a'.ren f
 |[],h=>by simp [mapO,Zar] at h
 |(k1,a1) :: r,h=>by
  simp only [mapO] at h
  split at h
  ·rename_i q e
   simp only [Zar] at h
   split at h
   ·rename_i hq
    cases h
    exact ⟨k1,a1,by simp [Zar],by rw [e,hq],rfl⟩
   ·rename_i hq
    obtain ⟨k',a',h1,h2,h3⟩:=qlg hi h
    refine ⟨k',a',?_,h2,h3⟩
    simp only [Zar]
    rw [if_neg (fun ek=>hq (by rw [ek] at e;rw [h2] at e;cases e;rfl))]
    exact h1
  ·rename_i e
   obtain ⟨k',a',h1,h2,h3⟩:=qlg hi h
   refine ⟨k',a',?_,h2,h3⟩
   simp only [Zar]
   rw [if_neg (fun ek=>by rw [ek,h2] at e;cases e)]
   exact h1
end
section
variable {P:Program} {E:Envt}
variable {L:Objs} {fr:List AV} {d:Option Nat} {is:List IOper} {Y:List PV} {K:List AV→Objs→Prop}
end
def r1 (d q:Nat) (k:Key):Option Key:=if k=.l d then some (.l q) else if k=.l q then none else some k
theorem qAK {d q:Nat}:∀ k1 k2 k,r1 d q k1=some k→r1 d q k2=some k→k1=k2:=by
 intro k1 k2 k h1 h2
 unfold r1 at h1 h2
 split at h1
 ·cases h1
  split at h2
  ·rename_i e1 e2;rw [e1,e2]
  ·split at h2
   ·cases h2
   ·cases h2;rename_i e1 e2 e3;exact absurd rfl e3
 ·split at h1
  ·cases h1
  ·cases h1
   split at h2
   ·cases h2;exact absurd rfl ‹¬ Key.l q=Key.l q›
   ·split at h2
    ·cases h2
    ·cases h2;rfl
section
variable {E:Envt} {B:Base} {w:World} {L:Objs} {ι:Key→Value} {fr:List AV} {a:Act}
theorem qbW (d q:Nat):∀ {L:Objs} (k:Key),Zar (mapO (r1 d q) L) k=if k=.l q then (Zar L (.l d)).map (AO.ren (r1 d q)) else if k=.l d then none else (Zar L k).map (AO.ren (r1 d q))
 |[],k=>by simp [mapO,Zar]
 |(k1,a1) :: r,k=>by
  have ih:=qbW d q (L:=r) k
  by_cases hdq:d=q
  ·subst hdq
   simp only [mapO,r1]
   by_cases h1:k1=.l d
   ·subst h1
    simp only [if_true,Zar]
    by_cases h2:k=.l d
    ·subst h2;simp
    ·rw [if_neg (Ne.symm h2),ih,if_neg h2,if_neg h2,if_neg h2,if_neg h2,if_neg (Ne.symm h2)]
   ·simp only [if_neg h1,Zar]
    by_cases h2:k1=k
    ·subst h2;simp [h1]
    ·rw [if_neg h2,ih,if_neg h2]
  have hne:¬ Key.l d=Key.l q:=fun e=>hdq (by cases e;rfl)
  simp only [mapO,r1]
  by_cases h1:k1=.l d
  ·subst h1
   simp only [if_true,Zar]
   by_cases h2:k=.l q
   ·subst h2;simp
   ·rw [if_neg (Ne.symm h2),ih,if_neg h2,if_neg h2]
    by_cases h3:k=.l d
    ·simp [h3]
    ·rw [if_neg h3,if_neg h3,if_neg (Ne.symm h3)]
  ·by_cases h2:k1=.l q
   ·subst h2
    simp only [if_neg h1,if_true]
    rw [ih]
    simp only [Zar]
    by_cases h3:k=.l q
    ·subst h3;simp [Ne.symm hne]
    ·rw [if_neg h3,if_neg h3,if_neg (Ne.symm h3)]
   ·simp only [if_neg h1,if_neg h2,Zar]
    by_cases h3:k1=k
    ·subst h3;simp [h1,h2]
    ·rw [if_neg h3,ih,if_neg h3]
theorem StF.ren1 (hs:StF E B w L ι fr a) (d q:Nat):∃ ι',StF E B w (mapO (r1 d q) L) ι' (fr.map (·.ren (r1 d q))) a:=by
 obtain ⟨h,hf,hd⟩:=hs
 let ι':Key→Value:=fun k=>if k=.l q then ι (.l d) else ι k
 have hi:∀ k k',r1 d q k=some k'→ι' k'=ι k:=by
  intro k k' hk
  unfold r1 at hk
  split at hk
  ·rename_i e;cases hk;subst e;simp [ι']
  ·split at hk
   ·cases hk
   ·rename_i e1 e2;cases hk;simp [ι',e2]
 have hlk:∀ {k:Key} {ao:AO},Zar (mapO (r1 d q) L) k=some ao→∃ k' ao',Zar L k'=some ao'∧r1 d q k'=some k∧ao=ao'.ren (r1 d q):=fun hl=>qlg qAK hl
 have hO:∀ b,Own (mapO (r1 d q) L) ι' b→Own L ι b:=by
  rintro b ⟨k,ao,h1,h2⟩
  obtain ⟨k',ao',g1,g2,_⟩:=hlk h1
  exact ⟨k',ao',g1,by rw [← hi k' k g2];exact h2⟩
 have hk:Keeps w w (fun b=>Own L ι b∨B.X b) (fun b=>Own (mapO (r1 d q) L) ι' b∨B.X b):=fun b _ hu=>⟨rfl,fun h=>hu (h.imp (hO b) id)⟩
 refine ⟨ι',⟨h.grow,⟨fun k ao hl=>?_,fun k k' ao ao' b h1 h2 h3 h4=>?_⟩,fun b hb=>h.own b (hO b hb),h.xlt,fun k h0 h1=>?_,h.env,h.envb,h.loc,h.xdis⟩,⟨by simpa using hf.1,fun i x hx=>?_⟩,hd⟩
 ·obtain ⟨k',ao',g1,g2,rfl⟩:=hlk hl
  exact ((h.sim.obj k' ao' g1).ren hi (hi k' k g2)).keeps hk
 ·obtain ⟨j,_,g1,g2,_⟩:=hlk h1
  obtain ⟨j',_,g3,g4,_⟩:=hlk h2
  have:=h.sim.inj j j' _ _ b g1 g3 (by rw [← hi j k g2];exact h3) (by rw [← hi j' k' g4];exact h4)
  subst this
  rw [g2] at g4
  cases g4
  rfl
 ·obtain ⟨ao,hao⟩:=zT.1 h1
  obtain ⟨k',ao',g1,g2,_⟩:=hlk hao
  have:k'=k:=by
   unfold r1 at g2
   split at g2
   ·cases g2;rw [h.loc q] at h0;cases h0
   ·split at g2
    ·cases g2
    ·cases g2;rfl
  subst this
  rw [hi k' k' g2]
  exact h.keep k' h0 (by rw [g1];rfl)
 ·rw [zt,zi] at hx
  obtain ⟨y,hy,rfl⟩:=hx
  obtain ⟨u,hu,hr⟩:=hf.2 i y hy
  exact ⟨u,hu,(hr.ren hi).mono hk⟩
theorem qlb {fr':List AV} (h:Za fr fr'):ReOk E fr L fr' L:=fun B w ι a hs=>by
 obtain ⟨g1,g2⟩:=h.get
 refine ⟨ι,hs.1,⟨by rw [hs.2.1.1,g1],fun i y hy=>?_⟩,hs.2.2⟩
 obtain ⟨x,hx,hxy⟩:=g2 i y hy
 obtain ⟨v,hv,hr⟩:=hs.2.1.2 i x hx
 exact ⟨v,hv,hxy.rep hr⟩
theorem qrq (d q:Nat):ReOk E fr L (fr.map (·.ren (r1 d q))) (mapO (r1 d q) L):=fun B w ι a hs=>hs.ren1 d q
theorem qh8 {k:Key} {es:List (List PV)} {e z:Nat} (hl:Zar L k=some (.row es e z true)):ReOk E fr L fr (Zas L k (.rowv (es.map (·.map .p)) e z)):=fun B w ι a hs=>⟨ι,hs.retell k _ _ hl fun U h=>by
 obtain ⟨vs,h1,h2,h3,h4⟩:=h
 refine ⟨vs,by simpa using h1,h2,fun x hx=>?_,fun j x hx=>?_⟩
 ·obtain ⟨y,hy,rfl⟩:=zG.1 hx
  simpa using h4 y hy
 ·rw [← List.map_flatten,zt,zi] at hx
  obtain ⟨y,hy,rfl⟩:=hx
  exact h3.get hy⟩
theorem qdN {k:Key} {es:List (List AV)} {es':List (List PV)} {e z:Nat} (hl:Zar L k=some (.rowv es e z)) (hp:Zba es=some es'):ReOk E fr L fr (Zas L k (.row es' e z true)):=fun B w ι a hs=>⟨ι,hs.retell k _ _ hl fun U h=>h.plain hp⟩
theorem qaN {k:Key} {es:List (List PV)} {e z:Nat} {ap:Bool} (hl:Zar L k=some (.row es e z ap)):ReOk E fr L (fr.map (·.thaw k (.sl z es))) (Zav k (.sl z es) L):=fun B w ι a hs=>⟨ι,hs.thaw hl⟩
theorem qhZ {k:Key} {cs:List PV} {t:TypeId} (hl:Zar L k=some (.box (cs.map .p) t)):ReOk E fr L (fr.map (·.thaw k (.ptr cs))) (Zav k (.ptr cs) L):=fun B w ι a hs=>⟨ι,hs.thawB hl⟩
theorem qtD {k:Key} {cs:List AV} {t:TypeId} (o d e z z0:Nat) (hk:k≠.l d) (hl:Zar L k=some (.box cs t)) (ho:cs[o]?=some (.p (.nl z0))) :
  ReOk E fr L (fr.map (·.kill (.l d))) (Zas (Zau L (.l d) (.row [] e z true)) k (.box ((cs.map (·.kill (.l d))).set o (.row (.l d))) t)):=fun B w ι a hs=>by
 have h1:StF E B w (Zau L (.l d) (.row [] e z true)) (updI ι (.l d) (.slice none 0 0)) (fr.map (·.kill (.l d))) a:=
  hs.upd d (.slice none 0 0) (.row [] e z true) (Grow.refl _ _) (fun b hb=>by simp [blk] at hb) ⟨[],by simp only [updI,if_true];exact ⟨by simp,.inl ⟨rfl,rfl⟩⟩,by simp,by simp [PRepL],by simp⟩
 refine ⟨_,h1.retell k (.box (cs.map (·.kill (.l d))) t) _ (by rw [qap,if_neg hk,hl];rfl) fun U h=>?_⟩
 obtain ⟨b,vs,e1,e2,e3,e4,e5⟩:=h
 refine ⟨b,vs,e1,e2,by simpa using e3,e4,fun j x hx=>?_⟩
 by_cases hj:o=j
 ·subst hj
  have hlt:o < (cs.map (·.kill (.l d))).length:=by
   rw [zw]
   exact (zk.1 ho).1
  rw [List.getElem?_set_self hlt] at hx
  cases hx
  obtain ⟨u,hu,hr⟩:=e5 o (.p (.nl z0)) (by rw [zt,ho];rfl)
  have hr:u=.slice none 0 0:=hr
  subst hr
  exact ⟨_,hu,by simp [updI],none,0,0,rfl⟩
 ·rw [yp hj] at hx
  exact e5 j x hx
theorem qAG {k:Key} {kv:List (List UInt8×PV)} {kt et:Nat} (hl:Zar L k=some (.map kv kt et)):ReOk E fr L (fr.map (·.thaw k (.mpv (kv.map (·.1)) (kv.map (·.2))))) (Zav k (.mpv (kv.map (·.1)) (kv.map (·.2))) L):=fun B w ι a hs=>⟨ι,hs.thawM hl⟩
end
theorem qph {P:Program} {E:Envt} {ops:List IOper} {fr:List AV} {L:Objs} {y:IC} {Q:AQ} (fr':List AV) (L':Objs) (h:∀ K:List AV→Objs→Prop,(∀ fr1 L1,ReOk E fr1 L1 fr' L'→K fr1 L1)→DrgC P E ops fr L K) (hK:awp P E y fr' L' Q):DrgC P E ops fr L (qp1 P E (.cut y) Q .normal):=
 h _ fun fr1 L1 hr=>⟨fr',L',hr,hK⟩
theorem qoF {P:Program} {E:Envt} {f:FuncId} {args:List PV} {e z:Nat} {es:List (List PV)} (h:FCall P E f args e z (·=es)):PCall P E f args (·=.sl z es):=by
 intro w U vs hU hE hEb hA
 refine (qlR h w U vs hU hE hEb hA).mono ?_
 rintro e' w' ⟨v,x,h1,⟨es',rfl,rfl⟩,h2⟩
 exact ⟨v,_,h1,rfl,h2⟩
section
variable {α:Type} [DecidableEq α]
def ixO (a:α):List α→Nat
 |[]=>0
 |b :: r=>if a=b then 0 else ixO a r+1
def lc:List α→List α→Nat
 |[],_=>0
 |_ :: _,[]=>0
 |a :: az,b :: bs=>if a=b then lc az bs+1 else max (lc az (b :: bs)) (lc (a :: az) bs)
termination_by x y=>x.length+y.length
def kp (i j:Nat):List α→List α→List (Nat×Nat)
 |[],_=>[]
 |a :: az,bs=>
  if lc (a :: az) bs=0 then [] else
  if ixO a bs < bs.length∧lc az (bs.drop (ixO a bs+1))+1=lc (a :: az) bs then (i,j+ixO a bs) :: kp (i+1) (j+ixO a bs+1) az (bs.drop (ixO a bs+1))
  else kp (i+1) j az bs
def fk (a:α) (az bs:List α) (m:Nat):List α→Nat→Option Nat
 |[],_=>none
 |b :: r,k=>if a=b∧lc az (bs.drop (k+1))+1=m then some k else fk a az bs m r (k+1)
end
theorem qwO {α:Type}:∀ {es:List (List α)},(∀ x∈es,x.length=1)→∀ j:Nat,es.flatten[j]?=(es[j]?).bind fun x=>x[0]?
 |[],_,j=>by simp
 |x :: r,h,j=>by
  obtain ⟨a,rfl⟩:∃ a,x=[a]:=by
   have h1:=h x (by simp)
   match x,h1 with
   |[a],_=>exact ⟨a,rfl⟩
  cases j with
  |zero=>rfl
  |succ j=>
   rw [zI,List.getElem?_append_right (by simp)]
   simpa using qwO (fun y hy=>h y (by simp [hy])) j
section
variable {E:Envt} {fr:List AV} {L:Objs}
theorem qcN {k:Key} {es:List (List AV)} {e0:Nat} (i d e z zn:Nat) (hk:k≠.l d) (hl:Zar L k=some (.rowv es e0 1)) (ho:es[i]?=some [.p (.nl zn)]) :
  ReOk E fr L (fr.map (·.kill (.l d))) (Zas (Zau L (.l d) (.row [] e z true)) k (.rowv ((es.map (·.map (·.kill (.l d)))).set i [.row (.l d)]) e0 1)):=fun B w ι a hs=>by
 have h1:StF E B w (Zau L (.l d) (.row [] e z true)) (updI ι (.l d) (.slice none 0 0)) (fr.map (·.kill (.l d))) a:=
  hs.upd d (.slice none 0 0) (.row [] e z true) (Grow.refl _ _) (fun b hb=>by simp [blk] at hb) ⟨[],by simp only [updI,if_true];exact ⟨by simp,.inl ⟨rfl,rfl⟩⟩,by simp,by simp [PRepL],by simp⟩
 refine ⟨_,h1.retell k (.rowv (es.map (·.map (·.kill (.l d)))) e0 1) _ (by rw [qap,if_neg hk,hl];rfl) fun U h=>?_⟩
 obtain ⟨vs,e1,e2,e3,e4⟩:=h
 have hilt:i < (es.map (·.map (·.kill (.l d)))).length:=by
  rw [zw]
  exact (zk.1 ho).1
 have e3':∀ x∈(es.map (·.map (·.kill (.l d)))).set i [AV.row (.l d)],x.length=1:=fun x hx=>by
  rcases List.mem_or_eq_of_mem_set hx with hx|rfl
  ·exact e3 x hx
  ·rfl
 refine ⟨vs,by simpa using e1,e2,e3',fun j x hx=>?_⟩
 rw [qwO e3'] at hx
 by_cases hj:i=j
 ·subst hj
  rw [List.getElem?_set_self hilt] at hx
  have hx:AV.row (.l d)=x:=by simpa using hx
  subst hx
  obtain ⟨u,hu,hr⟩:=e4 i (.p (.nl zn)) (by rw [qwO e3,zt,ho];rfl)
  have hr:u=.slice none 0 0:=hr
  subst hr
  exact ⟨_,hu,by simp [updI],none,0,0,rfl⟩
 ·rw [yp hj,← qwO e3] at hx
  exact e4 j x hx
end
end Go.Proofs.YtmpdnpljdcincaaGreatDoor
