import Derived.Test.YtjgdjinhkgjpeabGreatDoorZ2
import Derived.Lib.SliceRun
import Derived.Orders
set_option linter.unusedVariables false
set_option linter.unusedSimpArgs false
set_option linter.defProp false
namespace Go.Proofs.YtjgdjinhkgjpeabGreatDoor
open Option.some renaming injEq→zg
open Prod.mk renaming injEq→zj
open List renaming cons_append→zT,eq_nil_of_length_eq_zero→zq,getD→zC,getElem?_drop→yb,getElem?_eq_getElem→zk,getElem?_map→zy,getElem?_take→yk,length_map→zN,map_cons→zx,mem_append→zp,mem_cons→zG,mem_map→zE,mem_of_getElem?→zn,mem_or_eq_of_mem_set→z8,mem_singleton→zu,range→zB,replicate→zD
open Bool renaming and_eq_true→zi,false_eq_true→zK,not_eq_true'→zQ,or_eq_true→yh
open Option renaming isSome_iff_exists→zM,isSome_none→zZ,isSome_some→zY,map_eq_some_iff→zh,map_some→zA
section
variable {P:Program} {E:Envt} {B:Base} {w w':World} {L:Objs} {ι:Key→Value} {fr:List AV} {a:Act} {X:Nat→Prop} {o:Oper} {U:Nat→Prop}
theorem qcu {t:TypeId} (h:strT P t=true):P.underlying t=some .string:=by
 unfold strT at h;split at h
 ·assumption
 ·cases h
theorem qt6 {t:TypeId} (h:qwN P t=true):P.underlying t=some .bool:=by
 unfold qwN at h;split at h
 ·assumption
 ·cases h
theorem qbA {t e:TypeId} (h:slT P t=some e):P.underlying t=some (.slice e):=by
 unfold slT at h;split at h
 ·cases h;assumption
 ·cases h
theorem qix {t:TypeId} {k:IntKind} (h:intT P t=some k):P.underlying t=some (.int k):=by
 unfold intT at h;split at h
 ·cases h;assumption
 ·cases h
theorem qaw {α:Type} {a:Array α} {l:List α} (h:a.toList=l):a=l.toArray:=by rw [← h]
set_option maxHeartbeats 2000000 in
theorem qkr {i:IOp} (hchk:qaB P o.op i=true) {c:Prop} {r:AV} (h:Zf fr L i=some (c,r)):Val1 P o fr L c r:=by
 unfold qaB at hchk
 split at hchk
 ·rename_i x y ho;simp only [Zf,zg,zj] at h;obtain ⟨rfl,rfl⟩:=h;exact qq1 (.inl ho) hchk
 ·rename_i x y ho;simp only [Zf,zg,zj] at h;obtain ⟨rfl,rfl⟩:=h;exact qq1 (.inr ho) hchk
 ·simp [Zf] at h
 ·simp [Zf] at h
 ·rename_i x1 x2 x3 y1 y2 y3 ho
  simp only [zi] at hchk
  simp only [Zf] at h
  split at h
  ·simp only [zg,zj] at h;obtain ⟨rfl,rfl⟩:=h
   exact qsN ho hchk.1.1 hchk.1.2 hchk.2 ‹_› ‹_› ‹_›
  ·simp only [zg,zj] at h;obtain ⟨rfl,rfl⟩:=h
   exact qq0 ho hchk.1.1 hchk.1.2 ‹_› ‹_›
  ·simp only [zg,zj] at h;obtain ⟨rfl,rfl⟩:=h
   exact qqZ ho hchk.1.1 hchk.2 ‹_› ‹_›
  ·cases h
 ·rename_i op t x y t' op' x' y' ho
  simp only [zi,beq_iff_eq] at hchk
  obtain ⟨⟨rfl,h1⟩,h2⟩:=hchk
  exact qvE ho h1 h2 h
 ·rename_i op t x y t' op' x' y' ho
  simp only [zi,beq_iff_eq] at hchk
  obtain ⟨⟨⟨rfl,h1⟩,h2⟩,h3⟩:=hchk
  exact qvC ho (qt6 h3) h1 h2 h
 ·rename_i op t x y t' neg ks x' y' ho
  simp only [zi,beq_iff_eq] at hchk
  obtain ⟨⟨⟨h0,h1⟩,h2⟩,h3⟩:=hchk
  subst h0
  exact qvx ho h3 h1 h2 h
 ·rename_i t x x' ho;exact qvg ho hchk h
 ·rename_i t x x' ho;exact qvi ho hchk h
 ·rename_i args ts x' ho
  split at hchk
  ·rename_i x t e1 e2
   simp only [zi] at hchk
   obtain ⟨e,he⟩:=zM.1 hchk.2
   rw [qaw e1,qaw e2] at ho
   exact qvo ho (qbA he) hchk.1 h
  ·cases hchk
 ·rename_i args ts x' ho
  split at hchk
  ·rename_i x t e1 e2
   simp only [zi] at hchk
   rw [qaw e1,qaw e2] at ho
   exact qvf ho (qcu hchk.2) hchk.1 h
  ·cases hchk
 ·rename_i args ts x' y' ho
  split at hchk
  ·rename_i x y e1
   simp only [zi] at hchk
   rw [qaw e1] at ho
   exact qxg ho hchk.1 hchk.2 h
  ·cases hchk
 ·rename_i args ts x' y' ho
  split at hchk
  ·rename_i x y e1
   simp only [zi] at hchk
   rw [qaw e1] at ho
   exact qxh ho hchk.1 hchk.2 h
  ·cases hchk
 ·rename_i t x i x' i' ho
  simp only [zi] at hchk
  exact qvs ho (qcu hchk.2) hchk.1.1 hchk.1.2 h
 ·rename_i t x lo hi x' lo' hi' ho
  simp only [zi] at hchk
  exact qve ho (qcu hchk.2) hchk.1.1.1 hchk.1.1.2 hchk.1.2 h
 ·rename_i t x lo hi z x' lo' hi' ho
  simp only [zi] at hchk
  obtain ⟨⟨⟨h1,h2⟩,h3⟩,h4⟩:=hchk
  split at h4
  ·rename_i e he;exact qvd ho (qbA he) h4 h1 h2 h3 h
  ·cases h4
 ·rename_i t x i z x' i' ho
  simp only [zi] at hchk
  obtain ⟨⟨h1,h2⟩,h4⟩:=hchk
  split at h4
  ·rename_i e he;exact qvr ho (qbA he) h4 h1 h2 h
  ·cases h4
 ·rename_i s x f off x' ho
  simp only [zi] at hchk
  obtain ⟨h1,h4⟩:=hchk
  split at h4
  ·rename_i fs hfs
   split at h4
   ·rename_i fd hfd
    simp only [zi,beq_iff_eq,decide_eq_true_eq] at h4
    have hsz:∃ n,qa7 P fd.type (n+1)=true:=by
     have:=h4.2
     unfold Program.cellsOf at this
     cases hi:P.info? fd.type with
     |none=>rw [hi] at this;simp at this
     |some i=>rw [hi] at this;simp at this;exact ⟨i.size - 1,by simp [qa7,hi];omega⟩
    obtain ⟨n,hn⟩:=hsz
    exact qvv (sz:=n) ho (by unfold qrU;rw [hfs];simp only [hfd,h4.1,hn];simp) h1 h
   ·cases h4
  ·cases h4
 ·rename_i s x f off sz ag x' ho
  simp only [zi] at hchk
  obtain ⟨h1,h4⟩:=hchk
  split at h4
  ·rename_i fs hfs
   split at h4
   ·rename_i fd hfd
    simp only [zi,beq_iff_eq,yh] at h4
    obtain ⟨⟨⟨k1,k2⟩,k3⟩,k4⟩:=h4
    exact qvu ho fs fd hfs hfd k1 k2 k3 (fun e=>by rcases k4 with k4|k4;rw [e] at k4;cases k4;exact k4) h1 h
   ·cases h4
  ·cases h4
 ·rename_i t x sz ag x' ho
  simp only [zi,yh,beq_iff_eq] at hchk
  obtain ⟨⟨⟨k1,k2⟩,k3⟩,k4⟩:=hchk
  exact qxi ho k2 k3 (fun e=>by rcases k4 with k4|k4;rw [e] at k4;cases k4;exact k4) k1 h
 ·rename_i x i i' x' ho
  simp only [zi,beq_iff_eq] at hchk
  obtain ⟨h1,rfl⟩:=hchk
  exact qvw ho h1 h
 ·rename_i t parts zero parts' ho
  simp only [zi] at hchk
  obtain ⟨h1,h2⟩:=hchk
  split at h2
  ·rename_i m e ha
   simp only [zi] at h2
   exact qsR ho ha h1 h2.1 h2.2 h
  ·rename_i fs hfs
   simp only [zi] at h2
   exact qvD ho hfs h1 (by simp only [qio,zi,beq_iff_eq];exact ⟨by simp,h2.2⟩) h2.1 h
  ·cases h2
 ·rename_i s d x k x' ho
  simp only [zi,beq_iff_eq] at hchk
  exact qvA ho hchk.1.2 (qix hchk.2) hchk.1.1 h
 ·rename_i s d x x' ho
  simp only [zi] at hchk
  obtain ⟨k,hk⟩:=zM.1 hchk.1.2
  exact qvz ho (qix hk) (qcu hchk.2) hchk.1.1 h
 ·rename_i s d x x' ho
  simp only [zi] at hchk
  obtain ⟨⟨h1,h2⟩,h3⟩:=hchk
  split at h3
  ·rename_i e he
   simp only [beq_iff_eq] at h3
   exact qvF ho (qbA he) (qix h3) (qcu h2) h1 h
  ·cases h3
 ·simp [Zf] at h
 ·rename_i t n parts z parts' ho
  simp only [zi,beq_iff_eq,decide_eq_true_eq] at hchk
  obtain ⟨⟨⟨h1,h2⟩,h3⟩,h4⟩:=hchk
  split at h1
  ·rename_i e he
   simp only [zi] at h1
   exact qvB ho (qbA he) h1.1 h1.2 h2 h3 h4 h
  ·cases h1
 ·simp [Zf] at h
 ·rename_i x x' ho;exact qvj ho hchk h
 ·rename_i op t x t' neg x' ho
  simp only [zi,beq_iff_eq] at hchk
  obtain ⟨⟨h0,h1⟩,h2⟩:=hchk
  subst h0
  exact qvh ho h2 h1 h
 ·rename_i t x t' x' ho
  simp only [zi,beq_iff_eq] at hchk
  obtain ⟨⟨rfl,h1⟩,h2⟩:=hchk
  exact qvm ho h2 h1 h
 ·rename_i f first caps f' caps' ho
  simp only [zi,beq_iff_eq,List.isEmpty_iff] at hchk
  obtain ⟨⟨rfl,h1⟩,h2⟩:=hchk
  rw [qaw h1] at ho
  exact qvn ho h2 h
 ·simp [Zf] at h
 ·simp [Zf] at h
 ·simp [Zf] at h
 ·simp [Zf] at h
 ·simp [Zf] at h
 ·simp [Zf] at h
 ·simp [Zf] at h
 ·simp [Zf] at h
 ·simp [Zf] at h
 ·rename_i args ts x' ho
  split at hchk
  ·rename_i x t e1 e2
   simp only [zi] at hchk
   obtain ⟨e,he⟩:=zM.1 hchk.2
   rw [qaw e1,qaw e2] at ho
   exact qsP ho (qbA he) hchk.1 h
  ·cases hchk
 ·rename_i t x hi x' hi' ho
  simp only [zi] at hchk
  obtain ⟨⟨h1,h2⟩,h3⟩:=hchk
  split at h3
  ·rename_i e he;exact qvc ho (qbA he) h3 h1 h2 h
  ·cases h3
 ·simp [Zf] at h
 ·simp [Zf] at h
 ·simp [Zf] at h
 ·simp [Zf] at h
 ·simp [Zf] at h
 ·rename_i t m k ok ok' zero m' k' ho
  simp only [zi,beq_iff_eq] at hchk
  obtain ⟨⟨⟨rfl,h1⟩,h2⟩,h3⟩:=hchk
  split at h3
  ·rename_i kt et ht
   simp only [zi] at h3
   exact qvl ho ht (qcu h3.1) h3.2 h1 h2 h
  ·cases h3
 ·rename_i args ts x' ho
  split at hchk
  ·rename_i x t e1 e2
   simp only [zi] at hchk
   obtain ⟨h1,h2⟩:=hchk
   split at h2
   ·rename_i kt et ht
    rw [qaw e1,qaw e2] at ho
    exact qvk ho ht h1 h
   ·cases h2
  ·cases hchk
 ·rename_i t parts zero parts' ho
  simp only [zi] at hchk
  obtain ⟨h1,h2⟩:=hchk
  split at h2
  ·rename_i fs hfs
   simp only [zi] at h2
   exact qsQ ho hfs h1 (by simp only [qio,zi,beq_iff_eq];exact ⟨by simp,h2.2⟩) h2.1 h
  ·cases h2
 ·rename_i t x sz x' ho
  simp only [zi] at hchk
  exact qvp ho hchk.1.2 hchk.2 hchk.1.1 h
 ·simp [Zf] at h
 ·simp [Zf] at h
 ·simp [Zf] at h
 ·simp [Zf] at h
 ·rename_i x x' ho;exact qvy ho hchk h
 ·simp [Zf] at h
 ·rename_i t x q v off x' ho
  simp only [zi] at hchk
  obtain ⟨h1,h4⟩:=hchk
  split at h4
  ·rename_i m e ha
   simp only [zi,beq_iff_eq,decide_eq_true_eq] at h4
   obtain ⟨⟨⟨g1,g2⟩,g3⟩,rfl⟩:=h4
   exact qvt ho ha g1 g2 g3 h1 h
  ·cases h4
 ·simp [Zf] at h
 ·simp [Zf] at h
 ·simp [Zf] at h
 ·simp [Zf] at h
 ·rename_i t m k ok ok' ks zero m' k' ho
  simp only [zi,beq_iff_eq] at hchk
  obtain ⟨⟨⟨rfl,h1⟩,h2⟩,h3⟩:=hchk
  split at h3
  ·rename_i kt et ht
   simp only [zi] at h3
   exact qsO ho ht h3.1 h3.2 h1 h2 h
  ·cases h3
 ·rename_i t x i z m x' i' ho
  simp only [zi] at hchk
  obtain ⟨⟨h1,h2⟩,h3⟩:=hchk
  split at h3
  ·rename_i m' e ha
   simp only [zi,beq_iff_eq] at h3
   obtain ⟨rfl,h3⟩:=h3
   exact qvq ho ha h3 h1 h2 h
  ·cases h3
 ·rename_i t x lo m x' lo' ho
  simp only [zi] at hchk
  obtain ⟨⟨h1,h2⟩,h3⟩:=hchk
  split at h3
  ·rename_i m' e ha
   simp only [zi,beq_iff_eq] at h3
   obtain ⟨rfl,h3⟩:=h3
   exact qvG ho ha h3 h1 h2 h
  ·cases h3
 ·simp [Zf] at h
 ·cases hchk
theorem qaj {i:IOp} {d:Option Nat} (hchk:qaB P o.op i=true) (hd:o.dst=d) {c:Prop} {fr':List AV} {L':Objs} (h:(Zf fr L i).map (fun q=>(q.1,Zg fr d q.2,L))=some (c,fr',L')):Eff1 P o fr L c fr' L':=by
 obtain ⟨⟨c1,r⟩,e1,e2⟩:=zh.1 h
 simp only [zj] at e2
 obtain ⟨rfl,rfl,rfl⟩:=e2
 have hv:=qkr hchk e1
 cases d with
 |none=>exact hv.eff0 hd
 |some d=>exact hv.eff hd
set_option maxHeartbeats 2000000 in
theorem qoD {i:IOp} {d:Option Nat} (hchk:qaB P o.op i=true) (hd:o.dst=d) (hst:isSt i=true→d=none) {c:Prop} {fr':List AV} {L':Objs} (h:Ze d fr L i=some (c,fr',L')):Eff1 P o fr L c fr' L':=by
 have hchk0:=hchk
 unfold qaB at hchk
 split at hchk
 ·exact qaj hchk0 hd h
 ·exact qaj hchk0 hd h
 ·rename_i x e z ho
  simp only [Ze] at h
  split at h
  ·simp only [zg,zj] at h;obtain ⟨rfl,rfl,rfl⟩:=h
   exact qpx (.inl ho) hchk hd
  ·cases h
 ·rename_i x e z ho
  simp only [Ze] at h
  split at h
  ·simp only [zg,zj] at h;obtain ⟨rfl,rfl,rfl⟩:=h
   exact qpx (.inr ho) hchk hd
  ·cases h
 ·exact qaj hchk0 hd h
 ·exact qaj hchk0 hd h
 ·exact qaj hchk0 hd h
 ·exact qaj hchk0 hd h
 ·exact qaj hchk0 hd h
 ·exact qaj hchk0 hd h
 ·exact qaj hchk0 hd h
 ·exact qaj hchk0 hd h
 ·exact qaj hchk0 hd h
 ·exact qaj hchk0 hd h
 ·exact qaj hchk0 hd h
 ·exact qaj hchk0 hd h
 ·exact qaj hchk0 hd h
 ·exact qaj hchk0 hd h
 ·exact qaj hchk0 hd h
 ·exact qaj hchk0 hd h
 ·exact qaj hchk0 hd h
 ·exact qaj hchk0 hd h
 ·exact qaj hchk0 hd h
 ·exact qaj hchk0 hd h
 ·exact qaj hchk0 hd h
 ·exact qaj hchk0 hd h
 ·rename_i s dT x e x' ho
  simp only [zi,beq_iff_eq] at hchk
  obtain ⟨⟨⟨h1,h2⟩,h3⟩,h4⟩:=hchk
  obtain ⟨u0,hu0⟩:=zM.1 h2
  simp only [Ze] at h
  split at h
  ·rename_i d' c' l ex
   simp only [zg,zj] at h;obtain ⟨rfl,rfl,rfl⟩:=h
   exact qwq ho hd hu0 (qbA h3) (qix h4) h1 ex
  ·cases h
 ·exact qaj hchk0 hd h
 ·rename_i t n parts e z parts' ho
  simp only [zi,beq_iff_eq,decide_eq_true_eq] at hchk
  obtain ⟨⟨⟨⟨⟨⟨h1,h2⟩,h3⟩,h4⟩,h5⟩,h6⟩,h7⟩:=hchk
  simp only [Ze] at h
  split at h
  ·rename_i d' c' es eb
   split at h
   ·split at h
    ·rename_i hz1
     subst hz1
     simp only [zg,zj] at h;obtain ⟨rfl,rfl,rfl⟩:=h
     exact qwz ho hd (qbA h1) h2 h3 h4 h7
    ·cases h
   ·simp only [zg,zj] at h;obtain ⟨rfl,rfl,rfl⟩:=h
    exact qwy ho hd (qbA h1) h2 h3 h4 h5 h6 h7 eb
  ·split at h
   ·split at h
    ·rename_i hk0
     split at h
     ·rename_i hc
      obtain ⟨hc1,rfl⟩:=hc
      simp only [zg,zj] at h;obtain ⟨rfl,rfl,rfl⟩:=h
      exact qwx ho hd (qbA h1) h2 h3 h4 h7 hk0 hc1
     ·cases h
    ·rename_i hk0
     split at h
     ·rename_i hpl
      split at h
      ·rename_i hll
       simp only [zg,zj] at h;obtain ⟨rfl,rfl,rfl⟩:=h
       exact qwA ho hd (qbA h1) h2 h3 h4 h5 h7 hk0 hpl hll
      ·cases h
     ·cases h
    ·cases h
   ·cases h
  ·cases h
 ·exact qaj hchk0 hd h
 ·exact qaj hchk0 hd h
 ·exact qaj hchk0 hd h
 ·exact qaj hchk0 hd h
 ·rename_i t t' zero ho
  simp only [zi,beq_iff_eq] at hchk
  obtain ⟨rfl,h1⟩:=hchk
  simp only [Ze] at h
  split at h
  ·simp only [zg,zj] at h;obtain ⟨rfl,rfl,rfl⟩:=h
   exact qwE ho h1 hd
  ·cases h
 ·rename_i t x t' x' ho
  simp only [zi,beq_iff_eq] at hchk
  obtain ⟨rfl,h1⟩:=hchk
  simp only [Ze] at h
  split at h
  ·rename_i d' c' v ex
   split at h
   ·rename_i hfl
    simp only [zg,zj] at h;obtain ⟨rfl,rfl,rfl⟩:=h
    exact qtV ho h1 hd ex hfl
   ·cases h
  ·rename_i d' c' k ex
   simp only [zg,zj] at h;obtain ⟨rfl,rfl,rfl⟩:=h
   exact qtU ho h1 hd ex
  ·cases h
 ·rename_i t p x sz p' x' ho
  simp only [zi] at hchk
  obtain ⟨⟨h1,h2⟩,h3⟩:=hchk
  have hdn:=hst rfl
  rw [hdn] at hd
  simp only [Ze] at h
  split at h
  ·rename_i cp k of cx v ep ex
   split at h
   ·rename_i cs bt hl
    split at h
    ·rename_i hc
     simp only [zg,zj] at h;obtain ⟨rfl,rfl,rfl⟩:=h
     intro E B w ι a hs ⟨k1,k2⟩
     have hp:=rdP hs.2.1 h1 ep k1
     have hv:PRep w _ v (a.eval x):=rdP hs.2.1 h2 ex k2
     have hcl:=hv.cells (qbE hc.2.2)
     exact qjQ ho hd h3 hl hc.1 hs hp ((Zz v).map .p) (by rw [hcl.length,hc.2.1]) (by simpa using hc.2.1) (hcl.oneCells hc.2.2) (fun j y hy=>by
      rw [zy,zh] at hy
      obtain ⟨q,hq,rfl⟩:=hy
      exact hcl.get hq)
    ·cases h
   ·cases h
  ·rename_i cp k of cx k' ep ex
   split at h
   ·rename_i cs bt hl
    split at h
    ·rename_i hc
     obtain ⟨hc1,rfl⟩:=hc
     simp only [zg,zj] at h;obtain ⟨rfl,rfl,rfl⟩:=h
     intro E B w ι a hs ⟨k1,k2⟩
     have hp:=rdP hs.2.1 h1 ep k1
     have hv:=rdP hs.2.1 h2 ex k2
     obtain ⟨A,n,cc,ev⟩:=hv.2
     have hcell:(a.eval x).cells.toList=[a.eval x]:=by rw [ev];rfl
     exact qjQ ho hd h3 hl hc1 hs hp [.row k'] (by rw [hcell];rfl) rfl (by rw [hcell];simp [ev,Value.oneCell']) (fun j y hy=>by
      cases j with
      |zero=>simp at hy;subst hy;exact ⟨_,by rw [hcell];rfl,hv⟩
      |succ j=>simp at hy)
    ·cases h
   ·cases h
  ·rename_i cp k of cx k' ep ex
   split at h
   ·rename_i cs bt kv0 kt0 et0 hl hl2
    split at h
    ·rename_i hc
     obtain ⟨hc1,rfl⟩:=hc
     simp only [zg,zj] at h;obtain ⟨rfl,rfl,rfl⟩:=h
     intro E B w ι a hs ⟨k1,k2⟩
     have hp:=rdP hs.2.1 h1 ep k1
     have hv:=rdP hs.2.1 h2 ex k2
     obtain ⟨r0,ents,clock,ev0,_⟩:=hs.1.sim.obj _ _ hl2
     have ev:a.eval x=.map (some r0):=by rw [show a.eval x=ι k' from hv.1];exact ev0
     have hcell:(a.eval x).cells.toList=[a.eval x]:=by rw [ev];rfl
     exact qjQ ho hd h3 hl hc1 hs hp [.mp k'] (by rw [hcell];rfl) rfl (by rw [hcell];simp [ev,Value.oneCell']) (fun j y hy=>by
      cases j with
      |zero=>simp at hy;subst hy;exact ⟨_,by rw [hcell];rfl,hv⟩
      |succ j=>simp at hy)
    ·cases h
   ·cases h
  ·rename_i cp k of cx f ep ex
   split at h
   ·rename_i cs bt hl
    split at h
    ·rename_i hc
     obtain ⟨hc1,rfl⟩:=hc
     simp only [zg,zj] at h;obtain ⟨rfl,rfl,rfl⟩:=h
     intro E B w ι a hs ⟨k1,k2⟩
     have hp:=rdP hs.2.1 h1 ep k1
     have hv:=rdP hs.2.1 h2 ex k2
     have ev:a.eval x=.func (.func f) #[] #[]:=hv
     have hcell:(a.eval x).cells.toList=[a.eval x]:=by rw [ev];rfl
     exact qjQ ho hd h3 hl hc1 hs hp [.p (.clo f [])] (by rw [hcell];rfl) rfl (by rw [hcell];simp [ev,Value.oneCell']) (fun j y hy=>by
      cases j with
      |zero=>simp at hy;subst hy;exact ⟨_,by rw [hcell];rfl,⟨[],ev,rfl⟩⟩
      |succ j=>simp at hy)
    ·cases h
   ·cases h
  ·rename_i cp k z i of cx v ep ex
   split at h
   ·rename_i es e z' ap hl
    split at h
    ·rename_i hc
     obtain ⟨rfl,hc1,hc2,hc3⟩:=hc
     simp only [zg,zj] at h;obtain ⟨rfl,rfl,rfl⟩:=h
     intro E B w ι a hs ⟨k1,k2,k3⟩
     have hp:=rdP hs.2.1 h1 ep k1
     have hv:PRep w _ v (a.eval x):=rdP hs.2.1 h2 ex k2
     have hcl:=hv.cells (qbE hc3)
     exact qwo ho hd h3 hl hc1 k3 hs hp ((Zz v).map wk1) (by simpa using hc2) (hcl.oneCells hc3) hcl.wk1
    ·cases h
   ·rename_i es e z' hl
    split at h
    ·rename_i hc
     obtain ⟨rfl,hc1,hc2,hc3⟩:=hc
     simp only [zg,zj] at h;obtain ⟨rfl,rfl,rfl⟩:=h
     intro E B w ι a hs ⟨k1,k2,k3⟩
     have hp:=rdP hs.2.1 h1 ep k1
     have hv:PRep w _ v (a.eval x):=rdP hs.2.1 h2 ex k2
     have hcl:=hv.cells (qbE hc3)
     exact qpw ho hd h3 hl hc1 k3 hs hp ((Zz v).map .p) (by rw [hcl.length,hc2]) (by simpa using hc2) (hcl.oneCells hc3) (fun j y hy=>by
      rw [zy,zh] at hy
      obtain ⟨q,hq,rfl⟩:=hy
      exact hcl.get hq)
    ·cases h
   ·cases h
  ·rename_i cp k z i of cx k' ep ex
   split at h
   ·rename_i es e z' hl
    split at h
    ·rename_i hc
     obtain ⟨rfl,hc1,rfl⟩:=hc
     simp only [zg,zj] at h;obtain ⟨rfl,rfl,rfl⟩:=h
     intro E B w ι a hs ⟨k1,k2,k3⟩
     have hp:=rdP hs.2.1 h1 ep k1
     have hv:=rdP hs.2.1 h2 ex k2
     obtain ⟨A,n,cc,ev⟩:=hv.2
     have hcell:(a.eval x).cells.toList=[a.eval x]:=by rw [ev];rfl
     exact qpw ho hd h3 hl hc1 k3 hs hp [.row k'] (by rw [hcell];rfl) rfl (by rw [hcell];simp [ev,Value.oneCell']) (fun j y hy=>by
      cases j with
      |zero=>simp at hy;subst hy;exact ⟨_,by rw [hcell];rfl,hv⟩
      |succ j=>simp at hy)
    ·cases h
   ·cases h
  ·cases h
 ·rename_i args ts e z by_ x' y' ho
  split at hchk
  ·rename_i x y t t' e1 e2
   simp only [zi,beq_iff_eq] at hchk
   obtain ⟨⟨⟨⟨rfl,h1⟩,h2⟩,h3⟩,h4⟩:=hchk
   rw [qaw e1,qaw e2] at ho
   simp only [Ze] at h
   split at h
   ·rename_i d' cx i z2 es2 ex ey
    split at h
    ·rename_i es e' z' hl
     split at h
     ·rename_i hc
      obtain ⟨rfl,rfl,rfl⟩:=hc
      simp only [zg,zj] at h;obtain ⟨rfl,rfl,rfl⟩:=h
      exact qwD ho hd (qbA h3) h4 h1 h2 ex rfl hl ey
     ·cases h
    ·rename_i es e' z' hl
     split at h
     ·rename_i hc
      obtain ⟨rfl,rfl,rfl⟩:=hc
      simp only [zg,zj] at h;obtain ⟨rfl,rfl,rfl⟩:=h
      exact qtX ho hd (qbA h3) h4 h1 h2 ex rfl hl ey
     ·cases h
    ·cases h
   ·rename_i ex ey
    split at h
    ·rename_i hl hy
     split at h
     ·rename_i hl2
      split at h
      ·rename_i hc
       obtain ⟨rfl,rfl,rfl⟩:=hc
       simp only [zg,zj] at h;obtain ⟨rfl,rfl,rfl⟩:=h
       exact qrW ho hd (qbA h3) h4 h1 h2 ex (Prod.ext rfl hy) hl hl2
      ·cases h
     ·cases h
    ·cases h
   ·rename_i d' cx z0 z2 es2 ex ey
    split at h
    ·rename_i hc
     subst hc
     simp only [zg,zj] at h;obtain ⟨rfl,rfl,rfl⟩:=h
     exact qtY ho hd (qbA h3) h4 h1 h2 ex rfl ey
    ·cases h
   ·cases h
  ·cases hchk
 ·rename_i t x y e z by_ zero x' y' ho
  simp only [zi,beq_iff_eq] at hchk
  obtain ⟨⟨⟨⟨h1,h2⟩,h3⟩,h4⟩,h5⟩:=hchk
  simp only [Ze] at h
  split at h
  ·rename_i d' cx kx n cy ky c' ex ey
   simp only [zg,zj] at h;obtain ⟨rfl,rfl,rfl⟩:=h
   exact qwt ho hd (qbA h3) h4 h5 h1 h2 ex ey
  ·cases h
 ·exact qaj hchk0 hd h
 ·exact qaj hchk0 hd h
 ·exact qaj hchk0 hd h
 ·exact qaj hchk0 hd h
 ·exact qaj hchk0 hd h
 ·exact qaj hchk0 hd h
 ·rename_i t x hi z x' hi' ho
  simp only [zi] at hchk
  obtain ⟨⟨h1,h2⟩,h3⟩:=hchk
  split at h3
  ·rename_i e he
   simp only [Ze] at h
   split at h
   ·rename_i d' cx i ch k n ex eh
    split at h
    ·rename_i es et z' ap hl
     split at h
     ·rename_i hc
      obtain ⟨rfl,rfl⟩:=hc
      simp only [zg,zj] at h;obtain ⟨rfl,rfl,rfl⟩:=h
      exact qwn ho hd (qbA he) h3 h1 h2 ex eh hl
     ·cases h
    ·cases h
   ·cases h
  ·cases h3
 ·rename_i args ts e z by_ zero x' y' ho
  split at hchk
  ·rename_i x y t t' e1 e2
   simp only [zi,beq_iff_eq] at hchk
   obtain ⟨⟨⟨⟨⟨h1,h2⟩,h3⟩,h4⟩,h5⟩,h6⟩:=hchk
   obtain ⟨kn,hkn⟩:=zM.1 h4
   rw [qaw e1,qaw e2] at ho
   simp only [Ze] at h
   split at h
   ·rename_i d' cx z0 cy ky n ex ey
    simp only [zg,zj] at h;obtain ⟨rfl,rfl,rfl⟩:=h
    exact qwB ho hd (qbA h3) (qix hkn) h5 h6 h1 h2 ex ey
   ·rename_i d' cx i cy ky n ex ey
    split at h
    ·rename_i es e' z' hl
     split at h
     ·rename_i hc
      obtain ⟨rfl,rfl⟩:=hc
      simp only [zg,zj] at h;obtain ⟨rfl,rfl,rfl⟩:=h
      exact qtW ho hd (qbA h3) (qix hkn) h5 h6 h1 h2 ex ey hl
     ·cases h
    ·cases h
   ·cases h
  ·cases hchk
 ·rename_i t kt et ho
  simp only [Ze] at h
  split at h
  ·simp only [zg,zj] at h;obtain ⟨rfl,rfl,rfl⟩:=h
   exact qwu ho hd
  ·cases h
 ·rename_i t m k x m' k' x' ho
  simp only [zi] at hchk
  obtain ⟨⟨⟨h1,h2⟩,h3⟩,h4⟩:=hchk
  split at h4
  ·rename_i kt et ht
   simp only [Ze] at h
   split at h
   ·rename_i cm q ck s cv y em ex ev
    split at h
    ·rename_i kv kt0 et0 hl
     simp only [zg,zj] at h;obtain ⟨rfl,rfl,rfl⟩:=h
     exact qrV (.inl ho) hd ht (qcu h4) h1 h2 h3 em ex ev hl
    ·rename_i kv kt0 et0 hl
     simp only [zg,zj] at h;obtain ⟨rfl,rfl,rfl⟩:=h
     exact qjk (.inl ho) hd ht (qcu h4) h1 h2 h3 em ex ev hl
    ·cases h
   ·rename_i cm q ck s cv q' em ex ev
    split at h
    ·rename_i kv kt0 et0 hl
     simp only [zg,zj] at h;obtain ⟨rfl,rfl,rfl⟩:=h
     exact qjk (.inl ho) hd ht (qcu h4) h1 h2 h3 em ex ev hl
    ·cases h
   ·cases h
  ·cases h4
 ·rename_i t m k x m' k' x' ho
  simp only [zi] at hchk
  obtain ⟨⟨⟨h1,h2⟩,h3⟩,h4⟩:=hchk
  split at h4
  ·rename_i kt et ht
   simp only [Ze] at h
   split at h
   ·rename_i cm q ck s cv y em ex ev
    split at h
    ·rename_i kv kt0 et0 hl
     simp only [zg,zj] at h;obtain ⟨rfl,rfl,rfl⟩:=h
     exact qrV (.inr ho) hd ht (qcu h4) h1 h2 h3 em ex ev hl
    ·rename_i kv kt0 et0 hl
     simp only [zg,zj] at h;obtain ⟨rfl,rfl,rfl⟩:=h
     exact qjk (.inr ho) hd ht (qcu h4) h1 h2 h3 em ex ev hl
    ·cases h
   ·rename_i cm q ck s cv q' em ex ev
    split at h
    ·rename_i kv kt0 et0 hl
     simp only [zg,zj] at h;obtain ⟨rfl,rfl,rfl⟩:=h
     exact qjk (.inr ho) hd ht (qcu h4) h1 h2 h3 em ex ev hl
    ·cases h
   ·cases h
  ·cases h4
 ·exact qaj hchk0 hd h
 ·exact qaj hchk0 hd h
 ·exact qaj hchk0 hd h
 ·exact qaj hchk0 hd h
 ·rename_i t p x sz p' x' ho
  simp only [zi] at hchk
  obtain ⟨⟨h1,h2⟩,h3⟩:=hchk
  have hdn:=hst rfl
  rw [hdn] at hd
  simp only [Ze] at h
  split at h
  ·rename_i cp k of cx l ep ex
   split at h
   ·rename_i cs bt hl
    split at h
    ·rename_i hc
     simp only [zg,zj] at h;obtain ⟨rfl,rfl,rfl⟩:=h
     exact qwp ho hd h3 h1 h2 ep ex hl hc.1 hc.2
    ·cases h
   ·cases h
  ·cases h
 ·exact qaj hchk0 hd h
 ·rename_i t x x' ho
  simp only [zi] at hchk
  obtain ⟨h1,h2⟩:=hchk
  split at h2
  ·rename_i kt et ht
   simp only [Ze] at h
   split at h
   ·rename_i d' c' ks vs ex
    simp only [zg,zj] at h;obtain ⟨rfl,rfl,rfl⟩:=h
    exact qwr ho hd ht h1 ex
   ·cases h
  ·cases h2
 ·exact qaj hchk0 hd h
 ·exact qaj hchk0 hd h
 ·rename_i args ts m' k' ho
  split at hchk
  ·rename_i m k t ts' e1 e2
   simp only [zi] at hchk
   obtain ⟨⟨h1,h2⟩,h4⟩:=hchk
   split at h4
   ·rename_i kt et ht
    rw [qaw e1] at ho
    simp only [Ze] at h
    split at h
    ·rename_i cm q ck s em ex
     split at h
     ·rename_i kv kt0 et0 hl
      simp only [zg,zj] at h;obtain ⟨rfl,rfl,rfl⟩:=h
      exact qws ho (by rw [← Array.getElem?_toList,e2];rfl) ht (qcu h4) h1 h2 em ex hl hd
     ·cases h
    ·cases h
   ·cases h4
  ·cases hchk
 ·exact qaj hchk0 hd h
 ·rename_i args ts z x' y' ho
  split at hchk
  ·rename_i x y t ts' e1 e2
   simp only [zi] at hchk
   obtain ⟨⟨h1,h2⟩,h3⟩:=hchk
   split at h3
   ·rename_i e he
    rw [qaw e1] at ho
    simp only [Ze] at h
    split at h
    ·rename_i cx q z2 es2 ex ey
     split at h
     ·rename_i es et z' ap hl
      split at h
      ·rename_i hc
       obtain ⟨rfl,rfl⟩:=hc
       simp only [zg,zj] at h;obtain ⟨rfl,rfl,rfl⟩:=h
       exact qww ho (by rw [← Array.getElem?_toList,e2];rfl) (qbA he) h3 h1 h2 ex rfl hl ey hd
      ·cases h
     ·cases h
    ·cases h
   ·cases h3
  ·cases hchk
 ·rename_i t ks kt et ho
  simp only [Ze] at h
  split at h
  ·simp only [zg,zj] at h;obtain ⟨rfl,rfl,rfl⟩:=h
   exact qwv ho hd
  ·cases h
 ·rename_i t m k x ks m' k' x' ho
  simp only [zi] at hchk
  obtain ⟨⟨⟨h1,h2⟩,h3⟩,h4⟩:=hchk
  split at h4
  ·rename_i kt et ht
   simp only [Ze] at h
   split at h
   ·rename_i cm q ck cs cv y em ex ev
    split at h
    ·rename_i ks' kv kt0 et0 hl
     split at h
     ·rename_i hc
      obtain ⟨rfl,hc⟩:=hc
      simp only [zg,zj] at h;obtain ⟨rfl,rfl,rfl⟩:=h
      exact qpy (.inl ho) hd ht h4 h1 h2 h3 hc em ex ev hl
     ·cases h
    ·cases h
   ·cases h
  ·cases h4
 ·rename_i t m k x ks m' k' x' ho
  simp only [zi] at hchk
  obtain ⟨⟨⟨h1,h2⟩,h3⟩,h4⟩:=hchk
  split at h4
  ·rename_i kt et ht
   simp only [Ze] at h
   split at h
   ·rename_i cm q ck cs cv y em ex ev
    split at h
    ·rename_i ks' kv kt0 et0 hl
     split at h
     ·rename_i hc
      obtain ⟨rfl,hc⟩:=hc
      simp only [zg,zj] at h;obtain ⟨rfl,rfl,rfl⟩:=h
      exact qpy (.inr ho) hd ht h4 h1 h2 h3 hc em ex ev hl
     ·cases h
    ·cases h
   ·cases h
  ·cases h4
 ·exact qaj hchk0 hd h
 ·exact qaj hchk0 hd h
 ·exact qaj hchk0 hd h
 ·rename_i args ts e x' y' ho
  split at hchk
  ·rename_i x y t t' e1 e2
   simp only [zi,beq_iff_eq] at hchk
   obtain ⟨⟨⟨⟨h1,h2⟩,h3⟩,h4⟩,h5⟩:=hchk
   rw [qaw e1,qaw e2] at ho
   simp only [Ze] at h
   split at h
   ·rename_i d' cx i cy s ex ey
    split at h
    ·rename_i es e' z' hl
     split at h
     ·rename_i hc
      obtain ⟨rfl,rfl⟩:=hc
      simp only [zg,zj] at h;obtain ⟨rfl,rfl,rfl⟩:=h
      exact qwC ho hd (qbA h3) (qcu h4) h5 h1 h2 ex ey hl
     ·cases h
    ·cases h
   ·cases h
  ·cases hchk
 ·cases hchk
end
section
variable {P:Program} {E:Envt} {B:Base} {w w':World} {L L':Objs} {ι ι':Key→Value} {fr:List AV} {a:Act} {o:Oper} {X:Nat→Prop}
theorem St.x_own (h:St E B w L ι) {b:Nat} (hb:B.X b):b < w.heap.size∧¬ Own L ι b:=by
 refine ⟨h.x_lt hb,fun ho=>?_⟩
 rcases h.own b ho with h'|h'
 ·exact h.xdis b hb h'
 ·have:=h.xlt b hb;omega
theorem St.e_own (h:St E B w L ι) {b:Nat} (hb:E.bl b):b < w.heap.size∧¬ Own L ι b:=by
 refine ⟨Nat.lt_of_lt_of_le (h.envb b hb).1 h.grow.size,fun ho=>?_⟩
 rcases h.own b ho with h'|h'
 ·exact (h.envb b hb).2 h'
 ·have:=(h.envb b hb).1;omega
theorem StF.back (hs:StF E B w L ι fr a) {i:Nat} (hb:Back E w B.X L ι w' L' ι' i):StF E B w' L' ι' (fr.map (·.kill (.l i))) a:=by
 obtain ⟨h,hf,hd⟩:=hs
 have hk:Keeps w w' (fun b=>Own L ι b∨B.X b) (fun b=>Own L' ι' b∨B.X b):=by
  intro b hlt hu
  refine ⟨hb.grow.block b hlt (fun h=>hu (.inl h)),?_⟩
  rintro (h'|h')
  ·rcases hb.own b h' with h''|h''
   ·exact hu (.inl h'')
   ·omega
  ·exact hu (.inr h')
 refine ⟨⟨h.grow.trans hb.grow h.own,hb.sim,fun b hb'=>?_,h.xlt,fun k h0 h1=>?_,E.mono w w' (fun b hb'=>hb.grow.block b (h.e_own hb').1 (h.e_own hb').2) h.env,h.envb,h.loc,h.xdis⟩,⟨by simpa using hf.1,fun j x hx=>?_⟩,hd⟩
 ·rcases hb.own b hb' with h'|h'
  ·exact h.own b h'
  ·exact .inr (Nat.le_trans h.grow.size h')
 ·by_cases e:k=.l i
  ·subst e;rw [h.loc i] at h0;cases h0
  ·rcases hb.news k h1 with h2|h2
   ·rw [hb.keep k e];exact h.keep k h0 h2
   ·exact absurd h2 e
 ·rw [zy,zh] at hx
  obtain ⟨y,hy,rfl⟩:=hx
  obtain ⟨u,hu,hr⟩:=hf.2 j y hy
  have:=(hr.mono hk).kill (k:=.l i) (v:=ι' (.l i))
  rw [show (fun j=>if j=.l i then ι' (.l i) else ι j)=ι' from by
   funext j
   by_cases e:j=.l i
   ·rw [if_pos e,e]
   ·rw [if_neg e,hb.keep j e]] at this
  exact ⟨u,hu,this⟩
theorem qoL {U:Nat→Prop} (hf:FRep w U ι fr a):∀ {xs:List Operand} {ys:List Opd},qbZ xs ys=true→Zm fr ys→ARepL w U ι (Zn fr ys) (xs.map a.eval):=by
 intro xs
 induction xs with
 |nil=>intro ys h _;cases ys with
  |nil=>simp [Zn,ARepL]
  |cons y ys=>simp [qbZ] at h
 |cons x xs ih=>intro ys h hc;cases ys with
  |nil=>simp [qbZ] at h
  |cons y ys=>
   simp only [qbZ,zi] at h
   simp only [Zm] at hc
   simp only [Zn,zx,ARepL]
   exact ⟨_,_,rfl,(rdOk hf h.1).un hc.1,ih h.2 hc.2⟩
theorem ARepL.append {U:Nat→Prop} {as bs:List AV} {vs us:List Value} (h:ARepL w U ι as vs) (k:ARepL w U ι bs us):ARepL w U ι (as++bs) (vs++us):=by
 induction as generalizing vs with
 |nil=>simp only [ARepL] at h;subst h;simpa using k
 |cons a as ih=>simp only [ARepL] at h;obtain ⟨v,r,rfl,h1,h2⟩:=h;simp only [zT,ARepL];exact ⟨v,_,rfl,h1,ih h2⟩
theorem qhN {f:FuncId} (hf:fnB P f=true) (args:Array Value) (w:World):(callFunc f args).run P w=.ok (.enter f args) w:=by
 unfold fnB at hf
 split at hf
 ·rename_i fn hfn
  simp only [zi,bne_iff_ne,ne_eq] at hf
  have hb:fn.body.isNone=false:=by cases hq:fn.body<;>simp_all
  simp only [callFunc,Sem.run_bind,run_program,Result.andThen_ok,hfn]
  rw [show (fn.name == "runtime.NumGoroutine")=false from by simpa using hf.2]
  simp [hb]
 ·cases hf
set_option maxHeartbeats 2000000 in
theorem qsa {f:FuncId} {as:List AV} {vs:List Value} {d:Option Nat} {K:List AV→Objs→Prop} {R:Ending→World→Prop} (hs:StF E B w L ι fr a) (hA:ARepL w (fun b=>Own L ι b∨B.X b) ι as vs) (h:qa5 P E f as L d fr K)
  (hR:∀ v w' fr' L' ι',K fr' L'→StF E B w' L' ι' fr' (a.put d v)→R (.returned v) w'):Calls P f vs.toArray w R:=by
 rcases h with ⟨φ,hp,hk⟩|⟨bk,post,hgc,hh,hsep,hk⟩|⟨i,hg⟩
 ·refine (hp w B.X ι vs hs.1.sim (fun b hb=>hs.1.x_own hb) hs.1.env (fun b hb=>hs.1.e_own hb) hA).mono ?_
  rintro e w' ⟨v,x,rfl,hx,hr,hG⟩
  have h1:=hs.grown hG
  exact hR v w' _ _ ι (hk x hx) ⟨h1.1,h1.2.1.setD d (r:=.p x) hr,by rw [Act.put_defers'];exact h1.2.2⟩
 ·refine (hgc w B.X ι vs hs.1.sim (fun b hb=>hs.1.x_own hb) hs.1.env (fun b hb=>hs.1.e_own hb) hA).mono ?_
  rintro e w' ⟨v,r,os',rfl,hp,hr,hb⟩
  have hk:=hk r os' hp
  have h1:StF E B w' (putB L bk os') ι fr a∧(∀ b,Own (putB L bk os') ι b↔Own L ι b):=by
   cases bk with
   |none=>exact ⟨hs.grown hb,fun b=>Iff.rfl⟩
   |some q=>
    obtain ⟨k,os⟩:=q
    obtain ⟨hG,hat⟩:=hb
    have hO:∀ b,Own (Zat L k os'.ao) ι b↔Own L ι b:=by
     intro b
     constructor
     ·rintro ⟨j,q,e1,e2⟩
      rw [qag] at e1
      by_cases e:j=k
      ·exact ⟨k,_,hh,by rw [← e];exact e2⟩
      ·rw [if_neg e] at e1;exact ⟨j,q,e1,e2⟩
     ·rintro ⟨j,q,e1,e2⟩
      by_cases e:j=k
      ·exact ⟨k,_,by rw [qag,if_pos rfl],by rw [← e];exact e2⟩
      ·exact ⟨j,q,by rw [qag,if_neg e];exact e1,e2⟩
    exact ⟨hs.wr k _ os'.ao hh hG (hat.mono (fun b hlt hu=>⟨rfl,fun h=>hu (.inl (h.imp (hO b).1 id))⟩) (fun _ _=>rfl)).ok,hO⟩
  obtain ⟨h1,hO⟩:=h1
  have hkU:Keeps w' w' (fun b=>Own L ι b∨B.X b) (fun b=>Own (putB L bk os') ι b∨B.X b):=fun b _ hu=>⟨rfl,fun h=>hu (h.imp (hO b).1 id)⟩
  have hrow:∀ (es:List (List PV)) (e z d:Nat) (u:Value),(∀ b,blk u=some b↔r.own v b)→FrOk w' (fun b=>Own L ι b∨B.X b) w.heap.size es e z u→Zbl (some d) bk→
    StF E B w' (Zav (putB L bk os') (.l d) (.row es e z true)) (updI ι (.l d) u) (fr.map (·.kill (.l d))) a∧(∃ A n c,u=.slice A n c)∧Keeps w' w' (fun b=>(Own L ι b∨B.X b)∨blk u=some b) (fun b=>Own (Zav (putB L bk os') (.l d) (.row es e z true)) (updI ι (.l d) u) b∨B.X b):=by
   intro es e z d u hown hr hsep
   obtain ⟨vs',r1,r2,r3,r4,r5⟩:=hr
   have hsl:∃ A n c,u=.slice A n c:=by
    rcases r1.2 with ⟨q1,_⟩|⟨g,cap,cur,fz,q1,_⟩
    ·exact ⟨none,0,0,q1⟩
    ·exact ⟨_,_,_,q1⟩
   have hU:∀ b,Own (Zav (putB L bk os') (.l d) (.row es e z true)) (updI ι (.l d) u) b→blk u=some b∨Own L ι b:=by
    intro b hb'
    rcases qlt hb' with h''|⟨j,q,_,h2,h3⟩
    ·exact .inl h''
    ·exact .inr ((hO b).1 ⟨j,q,h2,h3⟩)
   have hkp:Keeps w' w' (fun b=>(Own L ι b∨B.X b)∨blk u=some b) (fun b=>Own (Zav (putB L bk os') (.l d) (.row es e z true)) (updI ι (.l d) u) b∨B.X b):=by
    refine fun b _ hu=>⟨rfl,?_⟩
    rintro (h'|h')
    ·rcases hU b h' with h''|h''
     ·exact hu (.inr h'')
     ·exact hu (.inl (.inl h''))
    ·exact hu (.inl (.inr h'))
   refine ⟨?_,hsl,hkp⟩
   cases bk with
   |none=>
    have hG:Grow w w' (Old L ι (.l d)):=qtO hb
    have hbv:∀ b,blk u=some b→w.heap.size≤b∨Old L ι (.l d) b:=fun b hb'=>.inl (r5 b hb')
    exact hs.upd d u (.row es e z true) hG hbv ⟨vs',by simpa [updI] using r1,r2,PRepL.mono hkp _ _ r3,r4⟩
   |some q=>
    obtain ⟨k,os⟩:=q
    obtain ⟨hG,hat⟩:=hb
    have hki:k≠.l d:=hsep
    have hik:updI ι (.l d) u k=ι k:=by simp [updI,hki]
    have hkill:os'.ao.kill (.l d)=os'.ao:=by cases os'<;>simp [OS.ao,AO.kill,AV.kill,Function.comp_def]
    refine hs.wrupd d k hki _ os'.ao (.row es e z true) hh u hG r5 ?_ ⟨vs',by simpa [updI] using r1,r2,PRepL.mono hkp _ _ r3,r4⟩
    rw [hkill]
    refine ObjAt.ok ?_
    rw [hik]
    refine hat.mono (fun b hlt hu=>⟨rfl,?_⟩) (fun _ _=>rfl)
    rintro (h'|h')
    ·rcases hU b h' with h''|h''
     ·exact hu (.inr ((hown b).1 h''))
     ·exact hu (.inl (.inl h''))
    ·exact hu (.inl (.inr h'))
  cases r with
  |p x=>exact hR v w' _ _ ι hk ⟨h1.1,h1.2.1.setD d (r:=.p x) (PRep.mono hkU _ _ hr),by rw [Act.put_defers'];exact h1.2.2⟩
  |fr es e z=>
   cases d with
   |none=>exact hR v w' _ _ ι hk h1
   |some d=>
    obtain ⟨fin,hsl,_⟩:=hrow es e z d v (fun b=>Iff.rfl) hr hsep
    exact hR v w' _ _ _ hk ⟨fin.1,fin.2.1.put d ⟨by simp [updI],hsl⟩,by rw [Act.put_defers'];exact fin.2.2⟩
  |ft es e z ps=>
   cases d with
   |none=>exact hR v w' _ _ ι hk h1
   |some d=>
    obtain ⟨u,us,rfl,hfr,hps⟩:=hr
    obtain ⟨fin,hsl,hkp⟩:=hrow es e z d u (fun b=>Iff.rfl) hfr hsep
    exact hR _ w' _ _ _ hk ⟨fin.1,fin.2.1.put d ⟨us,by simp [updI],by simpa [updI] using hsl,PRepL.mono hkp _ _ hps⟩,by rw [Act.put_defers'];exact fin.2.2⟩
 ·refine (hg w B.X ι vs hs.1.sim (fun b hb=>hs.1.x_own hb) hs.1.env (fun b hb=>hs.1.e_own hb) hA).mono ?_
  rintro e w' ⟨v,r,L',ι',rfl,hk,hr,hB⟩
  have h1:=hs.back hB
  exact hR v w' _ _ ι' hk ⟨h1.1,h1.2.1.setD d hr,by rw [Act.put_defers'];exact h1.2.2⟩
def qoZ:Option Value→Option Bool
 |some (.bool b)=>some b
 |_=>none
theorem qtN {U:Nat→Prop} {want:Bool}:∀ {x:AV} {v:Value} {c0:Bool},ARep w U ι x v→Zi want x=some c0→(qoZ (some v) == some want)=c0:=by
 intro x
 induction x with
 |p y=>
  intro v c0 hr h
  cases y<;>simp only [Zi,reduceCtorEq,zg] at h
  rename_i b
  have:=PRep.bool_eq hr
  subst this
  subst h
  cases b<;>cases want<;>rfl
 |g c a ih=>
  intro v c0 hr h
  cases c with
  |true=>
   cases hq:Zi want a with
   |some q=>
    simp only [Zi,hq,Bool.true_and,zg] at h
    rw [ih (hr.1 rfl) hq,h]
   |none=>simp [Zi,hq] at h
  |false=>
   have hc:c0=false:=by
    cases hq:Zi want a with
    |some q=>simpa [Zi,hq] using h.symm
    |none=>simpa [Zi,hq] using h.symm
   have:=hr.2 rfl
   subst this
   subst hc
   simp [qoZ]
 |_=>intro v c0 hr h;simp [Zi] at h
theorem qwe {U:Nat→Prop} (hf:FRep w U ι fr a) {ops:Array Oper} {j s:Nat} {want c0:Bool} (hj:(ops[j]?).bind (·.dst)=some s) (h:Zh fr s want=some c0):(yielded ops a.tmps j == some want)=c0:=by
 have hy:yielded ops a.tmps j=qoZ (a.tmps[s]?):=by
  unfold yielded qoZ
  rw [hj]
  simp only [Option.bind_some]
  cases a.tmps[s]? with
  |none=>rfl
  |some v=>cases v<;>rfl
 rw [hy]
 unfold Zh at h
 cases hq:fr[s]? with
 |none=>rw [zC,hq] at h;simp [Zi] at h
 |some y=>
  rw [zC,hq] at h
  obtain ⟨v,hv,hr⟩:=hf.2 s y hq
  rw [hv]
  exact qtN hr h
theorem qwh (hs:StF E B w L ι fr a) {x:Opd} {k:Key} {y:PV} (h:Zaq fr L x=some (k,y)):StF E B w (Zaw k y L) ι (fr.map (·.thaw k y)) a:=by
 unfold Zaq at h
 split at h
 ·split at h
  ·rename_i hl
   simp only [zg,zj] at h
   obtain ⟨rfl,rfl⟩:=h
   exact hs.thaw hl
  ·rename_i hl
   obtain ⟨es',e1,e2⟩:=zh.1 h
   simp only [zj] at e2
   obtain ⟨rfl,rfl⟩:=e2
   have:=(hs.retell _ _ _ hl (fun U ho=>ho.plain e1)).thaw (by rw [qag,if_pos rfl])
   rwa [qk3 (by rw [hl];rfl)] at this
  ·cases h
 ·split at h
  ·rename_i hl
   simp only [zg,zj] at h
   obtain ⟨rfl,rfl⟩:=h
   exact hs.thawM hl
  ·rename_i hl
   obtain ⟨kv',e1,e2⟩:=zh.1 h
   simp only [zj] at e2
   obtain ⟨rfl,rfl⟩:=e2
   have:=(hs.retell _ _ _ hl (fun U ho=>ho.plainM e1)).thawM (by rw [qag,if_pos rfl])
   rwa [qk3 (by rw [hl];rfl)] at this
  ·cases h
 ·cases h
theorem qup {U:Nat→Prop} {f:FuncId} {ks:List Key} (hk:∀ k∈ks,∃ b,ι k=.pointer (some ⟨b,0,none⟩)):ARepL w U ι (ks.map fun k=>.adr k 0) (ks.map ι):=by
 induction ks with
 |nil=>simp [ARepL]
 |cons k ks ih=>
  simp only [zx,ARepL]
  obtain ⟨b,hb⟩:=hk k (by simp)
  exact ⟨_,_,rfl,⟨b,hb,hb⟩,ih (fun j hj=>hk j (by simp [hj]))⟩
theorem qpD {op:Op} {f:FuncId} {args:List Opd} (h:qaB P op (.call f args)=true):∃ args0 ts,op=.call { callee:=.value (.func f),args:=args0,argTypes:=ts }∧fnB P f=true∧qbZ args0.toList args=true:=by
 cases op with
 |call c=>
  obtain ⟨callee,as,ts⟩:=c
  cases callee with
  |value x=>cases x with
   |func g=>
    simp only [qaB,zi,beq_iff_eq] at h
    obtain ⟨⟨rfl,h1⟩,h2⟩:=h
    exact ⟨as,ts,rfl,h1,h2⟩
   |_=>simp [qaB] at h
  |invoke r m=>simp [qaB] at h
  |builtin b=>cases b<;>simp [qaB] at h
 |_=>simp [qaB] at h
theorem qnr {op:Op} {n:Nat} {f:FuncId} {args:List Opd} (h:qaB P op (.pcall n f args)=true):qaB P op (.call f args)=true:=by
 cases op with
 |call c=>
  obtain ⟨callee,as,ts⟩:=c
  cases callee with
  |value x=>cases x with
   |func g=>simpa only [qaB] using h
   |_=>simp [qaB] at h
  |invoke r m=>simp [qaB] at h
  |builtin b=>cases b<;>simp [qaB] at h
 |_=>simp [qaB] at h
theorem qr4 {op:Op} {n:Nat} {g:Opd} {args:List Opd} (h:qaB P op (.pcv n g args)=true):qaB P op (.callv g args)=true:=by
 cases op with
 |call c=>
  obtain ⟨callee,as,ts⟩:=c
  cases callee with
  |value x=>cases x with
   |tmp t=>cases g with
    |t t'=>simpa only [qaB] using h
    |_=>simp [qaB] at h
   |_=>simp [qaB] at h
  |invoke r m=>simp [qaB] at h
  |builtin b=>cases b<;>simp [qaB] at h
 |_=>simp [qaB] at h
theorem qr5 {op:Op} {g:Opd} {args:List Opd} (h:qaB P op (.callv g args)=true):∃ t args0 ts,op=.call { callee:=.value (.tmp t),args:=args0,argTypes:=ts }∧g=.t t∧qbZ args0.toList args=true:=by
 cases op with
 |call c=>
  obtain ⟨callee,as,ts⟩:=c
  cases callee with
  |value x=>cases x with
   |tmp t=>
    cases g with
    |t t'=>
     simp only [qaB,zi,beq_iff_eq] at h
     obtain ⟨rfl,h2⟩:=h
     exact ⟨_,as,ts,rfl,rfl,h2⟩
    |_=>simp [qaB] at h
   |_=>simp [qaB] at h
  |invoke r m=>simp [qaB] at h
  |builtin b=>cases b<;>simp [qaB] at h
 |_=>simp [qaB] at h
theorem qx7 {op:Op} {x:Opd} (h:qaB P op (.fz x)=true):False:=by
 cases op with
 |call c=>
  obtain ⟨callee,as,ts⟩:=c
  cases callee with
  |value x=>cases x<;>simp [qaB] at h
  |invoke r m=>simp [qaB] at h
  |builtin b=>cases b<;>simp [qaB] at h
 |_=>simp [qaB] at h
theorem qt3 {op:Op} {x:Nat} (h:qaB P op (.hole x)=true):False:=by
 cases op with
 |call c=>
  obtain ⟨callee,as,ts⟩:=c
  cases callee with
  |value x=>cases x<;>simp [qaB] at h
  |invoke r m=>simp [qaB] at h
  |builtin b=>cases b<;>simp [qaB] at h
 |_=>simp [qaB] at h
theorem qx6 {op:Op} (h:qaB P op .re=true):False:=by
 cases op with
 |call c=>
  obtain ⟨callee,as,ts⟩:=c
  cases callee with
  |value x=>cases x<;>simp [qaB] at h
  |invoke r m=>simp [qaB] at h
  |builtin b=>cases b<;>simp [qaB] at h
 |_=>simp [qaB] at h
theorem qsT (hs:StF E B w L ι fr a) {x:AV} {v:Value} {q:Nat×List (List PV)} (e:Zw L x=some q) (h:ARep w (fun b=>Own L ι b∨B.X b) ι x v):∃ A n c,v=.slice A n c∧(q.2≠[]→A.isNone=false):=by
 unfold Zw at e
 split at e
 ·cases e
  obtain ⟨A,c,rfl,_,h2⟩:=h
  exact ⟨A,_,c,rfl,fun hne=>by obtain ⟨b,off,rfl,_⟩:=h2 hne;rfl⟩
 ·cases e
  exact ⟨none,0,0,h,fun hne=>absurd rfl hne⟩
 ·split at e
  ·rename_i hl
   cases e
   obtain ⟨vs,hown,_⟩:=hs.1.sim.obj _ _ hl
   rcases hown.2 with ⟨g1,g2⟩|⟨g,cap,cur,fz,g1,_⟩
   ·exact ⟨none,0,0,by rw [h.1,g1],fun hne=>absurd (zq g2) hne⟩
   ·exact ⟨_,_,cap,by rw [h.1,g1],fun _=>rfl⟩
  ·cases e
 ·cases e
theorem qwJ {op:Op} {x':Opd} (h:qaB P op (.isn x')=true):∃ t x y t',op=.binOp .eql t x y t'∧qaf x x'=true∧qaf y (.c (.nl 0))=true∧∃ e,P.underlying t=some (.slice e):=by
 cases op with
 |call c=>
  obtain ⟨callee,as,ts⟩:=c
  cases callee with
  |value x=>cases x<;>simp [qaB] at h
  |invoke r m=>simp [qaB] at h
  |builtin b=>cases b<;>simp [qaB] at h
 |binOp op t x y t'=>
  simp only [qaB,zi,beq_iff_eq] at h
  obtain ⟨⟨⟨rfl,h1⟩,h2⟩,h3⟩:=h
  obtain ⟨e,he⟩:=zM.1 h3
  exact ⟨t,x,y,t',rfl,h1,h2,e,qbA he⟩
 |_=>simp [qaB] at h
theorem qwI {op:Op} {x':Opd} (h:qaB P op (.nxt x')=true):∃ x,op=.next x false∧qaf x x'=true:=by
 cases op with
 |call c=>
  obtain ⟨callee,as,ts⟩:=c
  cases callee with
  |value x=>cases x<;>simp [qaB] at h
  |invoke r m=>simp [qaB] at h
  |builtin b=>cases b<;>simp [qaB] at h
 |next x b=>
  simp only [qaB,zi,zQ] at h
  obtain ⟨h1,rfl⟩:=h
  exact ⟨x,rfl,h1⟩
 |_=>simp [qaB] at h
theorem StF.any_at (hs:StF E B w L ι fr a) (d:Nat):StF E B w L ι (fr.set d .any) a:=by
 refine ⟨hs.1,⟨by simp [hs.2.1.1],fun i x hx=>?_⟩,hs.2.2⟩
 rw [List.getElem?_set] at hx
 by_cases hi:d=i
 ·subst hi
  rw [if_pos rfl] at hx
  split at hx
  ·rename_i hl
   cases hx
   obtain ⟨v,hv,_⟩:=hs.2.1.2 d _ (zk hl)
   exact ⟨v,hv,trivial⟩
  ·cases hx
 ·rw [if_neg hi] at hx
  exact hs.2.1.2 i x hx
theorem qov (hs:StF E B w L ι fr a) (d:Nat):StF E B w (Zav L (.l d) Zan) (updI ι (.l d) (.slice none 0 0)) ((fr.map (·.kill (.l d))).set d .any) a:=
 (hs.upd d (.slice none 0 0) Zan (Grow.refl _ _) (by simp [blk]) ⟨[],⟨by simp,.inl ⟨by simp [updI],rfl⟩⟩,by simp,by simp [PRepL],by simp⟩).any_at d
theorem qx4 {c:Prop} {fr':List AV} {L':Objs} (h:Eff1 P o fr L c fr' L') (hc:c) (hs:StF E B w L ι fr a) {next:Act→World→Prop} {Q:Exit→Act→World→Prop} (hn:∀ ι' a' w',StF E B w' L' ι' fr' a'→next a' w'):o.wp P a w next Q:=by
 obtain ⟨v,nx,w',ι',hr,hx,hs'⟩:=h E B w ι a hs hc
 unfold Oper.wp
 rw [hr]
 rcases hx with rfl|⟨rfl,rfl⟩
 ·exact hn ι' _ w' hs'
 ·exact hn ι' _ w' hs'
theorem qwM (h:Sim w X L ι) {ks:List Key} (hk:Zl L (ks.map fun k=>.adr k 0)=true):∀ k∈ks,∃ b,ι k=.pointer (some ⟨b,0,none⟩):=by
 induction ks with
 |nil=>simp
 |cons k ks ih=>
  simp only [zx,Zl,zi] at hk
  intro j hj
  simp only [zG] at hj
  rcases hj with rfl|hj
  ·have:=hk.1
   split at this
   ·rename_i cs t hl
    obtain ⟨b,vs,e1,_⟩:=h.obj j _ hl
    exact ⟨b,e1⟩
   ·cases this
  ·exact ih hk.2 j hj
theorem qwZ {w:World} {U:Nat→Prop} {ι:Key→Value} {ps:List PV} {vs:List Value} (h:PRepL w U ps vs):ARepL w U ι (ps.map .p) vs:=by
 induction ps generalizing vs with
 |nil=>exact h
 |cons x r ih=>
  simp only [PRepL] at h
  obtain ⟨v,s,rfl,h1,h2⟩:=h
  exact ⟨v,s,rfl,h1,ih h2⟩
theorem qx0 (h:Sim w X L ι) {U:Nat→Prop} {fr:List AV} {g:Opd} {f:FuncId} {as:List AV} (hf:Zar fr g=some (f,as)) (hk:Zl L as=true) {v:Value} (hv:ARep w U ι (rd fr g).un.2 v):∃ us:List Value,v=.func (.func f) #[] us.toArray∧ARepL w U ι as us:=by
 unfold Zar at hf
 split at hf
 ·rename_i c f' ks e
  simp only [zg,zj] at hf
  obtain ⟨rfl,rfl⟩:=hf
  rw [e] at hv
  exact ⟨ks.map ι,hv,qup (f:=f') (qwM h hk)⟩
 ·rename_i c f' ps e
  simp only [zg,zj] at hf
  obtain ⟨rfl,rfl⟩:=hf
  rw [e] at hv
  obtain ⟨vs,e2,h2⟩:=hv
  exact ⟨vs,e2,qwZ h2⟩
 ·cases hf
set_option maxHeartbeats 2000000 in
theorem qog {Y:List PV} {ops:Array Oper} {i:IOper} {is:List IOper} {K:List AV→Objs→Prop} (hchk:qlZ P ops o i=true) (hfz:isFz i=false) (h:qaa P E Y (i :: is) fr L K) (hs:StF E B w L ι fr a)
  {next:Act→World→Prop} {Q:Exit→Act→World→Prop} (hn:∀ fr' L' ι' a' w',qaa P E Y is fr' L' K→StF E B w' L' ι' fr' a'→next a' w') :
  if Region.wanted o (yielded ops a.tmps) then o.wp P a w next Q else next (a.put o.dst undef) w:=by
 obtain ⟨d,op,gd⟩:=i
 simp only [qlZ,zi,beq_iff_eq,yh,zQ] at hchk
 obtain ⟨⟨⟨hd,hop⟩,hst⟩,hgd⟩:=hchk
 have hst':isSt op=true→d=none:=fun e=>by rcases hst with h|h;rw [e] at h;cases h;exact h
 have callCase:∀ (f:FuncId) (args:List Opd),qaB P o.op (.call f args)=true→Zm fr args→qa5 P E f (Zn fr args) L d fr (fun fr L=>qaa P E Y is fr L K)→o.wp P a w next Q:=by
  intro f args hop hc h
  obtain ⟨args0,ts,ho,h1,h2⟩:=qpD hop
  have hrun:(execOp a.eval o).run P w=.ok (.enter f (args0.map a.eval)) w:=by
   simp only [execOp,ho,resolve,Act.eval,Deferred.ofValue,Sem.run_bind,Sem.run_pure,Result.andThen_ok,invoke,qhN h1]
   simp
  unfold Oper.wp
  rw [hrun,Oper.upon_enter]
  have hA:=qoL hs.2.1 h2 hc
  have e3:args0.map a.eval=(args0.toList.map a.eval).toArray:=by apply Array.ext';simp
  rw [e3]
  exact qsa hs hA h (fun v w' fr' L' ι' hk hs'=>hn fr' L' ι' _ w' hk (by rw [hd];exact hs'))
 have pureCase:∀ (f:FuncId) (args:List Opd) (x:PV) (r:AV),qaB P o.op (.call f args)=true→Zm fr args→qg5 P E f (Zn fr args) L (·=x)→(∀ w' v,StF E B w' L ι fr a→PRep w' (fun b=>Own L ι b∨B.X b) x v→ARep w' (fun b=>Own L ι b∨B.X b) ι r v)→qaa P E Y is (Zg fr d r) L K→o.wp P a w next Q:=by
  intro f args x r hop hc hp hrr hk
  obtain ⟨args0,ts,ho,h1,h2⟩:=qpD hop
  have hrun:(execOp a.eval o).run P w=.ok (.enter f (args0.map a.eval)) w:=by
   simp only [execOp,ho,resolve,Act.eval,Deferred.ofValue,Sem.run_bind,Sem.run_pure,Result.andThen_ok,invoke,qhN h1]
   simp
  unfold Oper.wp
  rw [hrun,Oper.upon_enter]
  have hA:=qoL hs.2.1 h2 hc
  have e3:args0.map a.eval=(args0.toList.map a.eval).toArray:=by apply Array.ext';simp
  rw [e3]
  refine (hp w B.X ι _ hs.1.sim (fun b hb=>hs.1.x_own hb) hs.1.env (fun b hb=>hs.1.e_own hb) hA).mono ?_
  rintro e w' ⟨v,y,rfl,rfl,hr,hG⟩
  have h1:=hs.grown hG
  exact hn _ _ ι _ w' hk ⟨h1.1,by rw [hd];exact h1.2.1.setD d (hrr w' v h1 hr),by rw [Act.put_defers'];exact h1.2.2⟩
 have runv:∀ (g:Opd) (args:List Opd) (f:FuncId) (ks:List AV),qaB P o.op (.callv g args)=true→Zar fr g=some (f,ks)→(rd fr g).un.1→fnB P f=true→Zl L ks=true→Zm fr args→
   ∃ vs:List Value,ARepL w (fun b=>Own L ι b∨B.X b) ι (Zn fr args++ks) vs∧(execOp a.eval o).run P w=.ok (.enter f vs.toArray) w:=by
  intro g args f ks hop hfn h0 hfb hbk hc
  obtain ⟨t,args0,ts,ho,rfl,h2⟩:=qr5 hop
  obtain ⟨us,hg',hus⟩:=qx0 hs.1.sim hfn hbk ((rdOk hs.2.1 (show qaf (.tmp t) (.t t)=true by simp [qaf])).un h0)
  have hrun:(execOp a.eval o).run P w=.ok (.enter f (args0.map a.eval++us.toArray)) w:=by
   simp only [execOp,ho,resolve,hg',Deferred.ofValue,Sem.run_bind,Sem.run_pure,Result.andThen_ok,invoke]
   simp [qhN hfb]
  have hA:=(qoL hs.2.1 h2 hc).append hus
  have e3:args0.map a.eval++us.toArray=(args0.toList.map a.eval++us).toArray:=by apply Array.ext';simp
  rw [e3] at hrun
  exact ⟨_,hA,hrun⟩
 have callvCase:∀ (g:Opd) (args:List Opd) (f:FuncId) (ks:List AV),qaB P o.op (.callv g args)=true→Zar fr g=some (f,ks)→(rd fr g).un.1→fnB P f=true→Zl L ks=true→Zm fr args→qa5 P E f (Zn fr args++ks) L d fr (fun fr L=>qaa P E Y is fr L K)→o.wp P a w next Q:=by
  intro g args f ks hop hfn h0 hfb hbk hc h
  obtain ⟨vs,hA,hrun⟩:=runv g args f ks hop hfn h0 hfb hbk hc
  unfold Oper.wp
  rw [hrun,Oper.upon_enter]
  exact qsa hs hA h (fun v w' fr' L' ι' hk hs'=>hn fr' L' ι' _ w' hk (by rw [hd];exact hs'))
 have purevCase:∀ (g:Opd) (args:List Opd) (f:FuncId) (ks:List AV) (x:PV) (r:AV),qaB P o.op (.callv g args)=true→Zar fr g=some (f,ks)→(rd fr g).un.1→fnB P f=true→Zl L ks=true→Zm fr args→qg5 P E f (Zn fr args++ks) L (·=x)→(∀ w' v,PRep w' (fun b=>Own L ι b∨B.X b) x v→ARep w' (fun b=>Own L ι b∨B.X b) ι r v)→qaa P E Y is (Zg fr d r) L K→o.wp P a w next Q:=by
  intro g args f ks x r hop hfn h0 hfb hbk hc hp hrr hk
  obtain ⟨vs,hA,hrun⟩:=runv g args f ks hop hfn h0 hfb hbk hc
  unfold Oper.wp
  rw [hrun,Oper.upon_enter]
  refine (hp w B.X ι _ hs.1.sim (fun b hb=>hs.1.x_own hb) hs.1.env (fun b hb=>hs.1.e_own hb) hA).mono ?_
  rintro e w' ⟨v,y,rfl,rfl,hr,hG⟩
  have h1:=hs.grown hG
  exact hn _ _ ι _ w' hk ⟨h1.1,by rw [hd];exact h1.2.1.setD d (hrr w' v hr),by rw [Act.put_defers'];exact h1.2.2⟩
 cases gd with
 |none=>
  have hgn:o.guard=none:=by cases hq:o.guard<;>simp_all
  have hw:Region.wanted o (yielded ops a.tmps)=true:=by simp [Region.wanted,hgn]
  rw [if_pos hw]
  cases op with
  |call f args=>
   simp only [qaa] at h
   exact callCase f args hop h.1 h.2
  |pcall n f args=>
   simp only [qaa] at h
   exact pureCase f args _ (.p _) (qnr hop) h.1.1 h.1.2 (fun w' v _ hr=>hr) h.2
  |callv g args=>
   simp only [qaa] at h
   split at h
   ·rename_i f ks hfn
    obtain ⟨h0,hfb,hbk,hc,h⟩:=h
    exact callvCase g args f ks hop hfn h0 hfb hbk hc h
   ·exact h.elim
  |pcv n g args=>
   simp only [qaa] at h
   split at h
   ·rename_i f ks hfn
    obtain ⟨⟨h0,hfb,hbk,hc,hp⟩,h⟩:=h
    exact purevCase g args f ks _ (.p _) (qr4 hop) hfn h0 hfb hbk hc hp (fun w' v hr=>hr) h
   ·exact h.elim
  |fz x=>exact (qx7 hop).elim
  |hole x=>exact (qt3 hop).elim
  |re=>exact (qx6 hop).elim
  |isn x=>
   simp only [qaa] at h
   split at h
   ·rename_i z es e
    obtain ⟨h0,h⟩:=h
    obtain ⟨t,x0,y0,t',ho,h1,h2,et,ht⟩:=qwJ hop
    obtain ⟨A,n,c,e3,e4⟩:=qsT hs e ((rdOk hs.2.1 h1).un h0)
    have hy:a.eval y0=.slice none 0 0:=rdOk hs.2.1 h2
    have hrun:(execOp a.eval o).run P w=.ok (.value (.bool A.isNone)) w:=by
     simp only [execOp,ho,e3,hy,Sem.run_bind]
     have:=Lib.run_eql_slice_nil (P:=P) w t et A n c 0 0 ht
     rw [qhL (by simp) (by simp),Result.andThen_ok,this]
     rfl
    unfold Oper.wp
    rw [hrun,Oper.upon_value]
    exact hn _ _ ι _ w (h A.isNone (fun hA=>Classical.byContradiction fun hne=>by rw [e4 hne] at hA;cases hA)) ⟨hs.1,by rw [hd];exact hs.2.1.setD d (r:=.p (.bool A.isNone)) rfl,by rw [Act.put_defers'];exact hs.2.2⟩
   ·exact h.elim
  |dcall b f args=>exact absurd hop (by unfold qaB;split<;>simp_all)
  |fcl n f args e z=>exact absurd hop (by unfold qaB;split<;>simp_all)
  |pcl n f args=>exact absurd hop (by unfold qaB;split<;>simp_all)
  |nxt x=>
   simp only [qaa] at h
   split at h
   ·rename_i k kv e
    obtain ⟨h0,h1,h2⟩:=h
    obtain ⟨x0,ho,hx⟩:=qwI hop
    rcases qxK (P:=P) (o:=o) hs ho hx e h0 with ⟨rfl,hrun⟩|⟨i,p,v,w',hp,hrun,hs',hr⟩
    ·unfold Oper.wp
     rw [hrun,Oper.upon_value]
     exact hn _ _ ι _ w (h1 rfl) ⟨hs.1,by rw [hd];exact hs.2.1.setD d (r:=.p (.tup [.bool false])) ⟨[.bool false],rfl,_,_,rfl,rfl,rfl⟩,by rw [Act.put_defers'];exact hs.2.2⟩
    ·unfold Oper.wp
     rw [hrun,Oper.upon_value]
     exact hn _ _ ι _ w' (h2 i p hp) ⟨hs'.1,by rw [hd];exact hs'.2.1.setD d (r:=.p (.tup [.bool true,.str p.1,p.2])) hr,by rw [Act.put_defers'];exact hs'.2.2⟩
   ·exact h.elim
  |_=>
   simp only [qaa] at h
   split at h
   ·rename_i c fr' L' he
    exact qx4 (qoD hop hd hst' he) h.1 hs (fun ι' a' w' hs'=>hn _ _ ι' a' w' h.2 hs')
   ·exact h.elim
 |some sw=>
  obtain ⟨s,want⟩:=sw
  obtain ⟨j,hj,hjs⟩:∃ j,o.guard=some (j,want)∧(ops[j]?).bind (·.dst)=some s:=by
   cases hq:o.guard with
   |none=>rw [hq] at hgd;simp at hgd
   |some q=>obtain ⟨j,w1⟩:=q;rw [hq] at hgd;simp only [zi,beq_iff_eq] at hgd;exact ⟨j,by rw [hgd.1],hgd.2⟩
  have hskip:∀ c0 x,c0=false→StF E B w L ι (Zg fr d (.g c0 x)) (a.put o.dst undef):=by
   intro c0 x e
   subst e
   exact ⟨hs.1,by rw [hd];exact hs.2.1.setD d ⟨(fun h=>by cases h),fun _=>rfl⟩,by rw [Act.put_defers'];exact hs.2.2⟩
  simp only [qaa] at h
  split at h
  ·rename_i c0 hc0
   have hy:=qwe hs.2.1 hjs hc0
   have hw:Region.wanted o (yielded ops a.tmps)=c0:=by simp only [Region.wanted,hj];exact hy
   rw [hw]
   cases op with
   |call f args=>
    simp only at h
    rcases h with ⟨hc,⟨x,hx,hk⟩|⟨ht,hf⟩⟩
    ·cases c0 with
     |true=>
      rw [if_pos rfl]
      exact pureCase f args x (.g true (.p x)) hop (hc rfl) (hx rfl) (fun w' v _ hr=>⟨fun _=>hr,fun h=>by cases h⟩) hk
     |false=>
      rw [if_neg (by simp)]
      exact hn _ _ ι _ w hk (hskip _ _ rfl)
    ·cases c0 with
     |true=>
      rw [if_pos rfl]
      exact callCase f args hop (hc rfl) (ht rfl)
     |false=>
      rw [if_neg (by simp)]
      exact hn _ _ ι _ w (hf rfl) (hskip _ _ rfl)
   |pcall n f args=>
    simp only at h
    cases c0 with
    |true=>
     rw [if_pos rfl]
     exact pureCase f args _ (.g true (.p _)) (qnr hop) (h.1 rfl).1 (h.1 rfl).2 (fun w' v _ hr=>⟨fun _=>hr,fun h=>by cases h⟩) h.2
    |false=>
     rw [if_neg (by simp)]
     exact hn _ _ ι _ w h.2 (hskip _ _ rfl)
   |callv g args=>
    simp only at h
    split at h
    ·rename_i f ks hfn
     obtain ⟨⟨hfb,hbk⟩,hc,⟨x,hx,hk⟩|⟨ht,hf⟩⟩:=h
     ·cases c0 with
      |true=>
       rw [if_pos rfl]
       exact purevCase g args f ks x (.g true (.p x)) hop hfn (hc rfl).1 hfb hbk (hc rfl).2 (hx rfl) (fun w' v hr=>⟨fun _=>hr,fun h=>by cases h⟩) hk
      |false=>
       rw [if_neg (by simp)]
       exact hn _ _ ι _ w hk (hskip _ _ rfl)
     ·cases c0 with
      |true=>
       rw [if_pos rfl]
       exact callvCase g args f ks hop hfn (hc rfl).1 hfb hbk (hc rfl).2 (ht rfl)
      |false=>
       rw [if_neg (by simp)]
       exact hn _ _ ι _ w (hf rfl) (hskip _ _ rfl)
    ·obtain ⟨rfl,h⟩:=h
     rw [if_neg (by simp)]
     exact hn _ _ ι _ w h (hskip _ _ rfl)
   |pcl n f args=>exact absurd hop (by unfold qaB;split<;>simp_all)
   |pcv n g args=>
    simp only at h
    split at h
    ·rename_i f ks hfn
     cases c0 with
     |true=>
      rw [if_pos rfl]
      obtain ⟨h0,hfb,hbk,hc,hp⟩:=h.1 rfl
      exact purevCase g args f ks _ (.g true (.p _)) (qr4 hop) hfn h0 hfb hbk hc hp (fun w' v hr=>⟨fun _=>hr,fun h=>by cases h⟩) h.2
     |false=>
      rw [if_neg (by simp)]
      exact hn _ _ ι _ w h.2 (hskip _ _ rfl)
    ·exact h.elim
   |_=>
    simp only at h
    split at h
    ·rename_i c r he
     cases c0 with
     |true=>
      rw [if_pos rfl]
      have hv:=qkr hop he
      obtain ⟨v,w',e,hG,hr⟩:=hv E B w ι a hs (h.1 rfl)
      have h1:=hs.grown hG
      unfold Oper.wp
      rw [e,Oper.upon_value]
      exact hn _ _ ι _ w' h.2 ⟨h1.1,by rw [hd];exact h1.2.1.setD d (r:=.g true r) ⟨fun _=>hr,fun h=>by cases h⟩,by rw [Act.put_defers'];exact h1.2.2⟩
     |false=>
      rw [if_neg (by simp)]
      exact hn _ _ ι _ w h.2 (hskip _ _ rfl)
    ·obtain ⟨_,rfl,h⟩:=h
     rw [if_neg (by simp)]
     exact hn _ _ ι _ w h (hskip _ _ rfl)
  ·exact h.elim
theorem quM {sz:Nat} {ag:Bool} {x:Opd} {q:Prop×AV} (h:Zf fr L (.ldl sz ag x)=some q):Zf fr L (.ld sz ag x)=some q:=by
 simp only [Zf] at h ⊢
 split at h
 ·rename_i e;rw [e];exact h
 ·rename_i e;rw [e]
  split at h
  ·rename_i hl;simp only [hl];exact h
  ·rename_i hl;simp only [hl];exact h
  ·cases h
 ·rename_i e;rw [e];exact h
 ·cases h
theorem quL {n sz:Nat} {ag:Bool} {x:Opd} {q:Prop×AV} (h:Zf fr L (.ldn n sz ag x)=some q):Zf fr L (.ld sz ag x)=some q:=by
 simp only [Zf] at h ⊢
 split at h
 ·rename_i e;try rw [e]
  exact h
 ·rename_i e;try rw [e]
  split at h
  ·cases h
  ·exact h
 ·rename_i e;try rw [e]
  split at h
  ·cases h
  ·exact h
 ·cases h
theorem qxe {d:Option Nat} {n sz:Nat} {p x:Opd} {q:Prop×List AV×Objs} (h:Ze d fr L (.stk n sz p x)=some q):Ze d fr L (.st sz p x)=some q:=by
 simp only [Ze] at h ⊢
 split at h
 ·rename_i e1 e2
  try rw [e1,e2]
  split at h
  ·rename_i hk
   subst hk
   exact h
  ·cases h
 ·rename_i e1 e2
  try rw [e1,e2]
  split at h
  ·rename_i hk
   subst hk
   exact h
  ·cases h
 ·cases h
theorem qv4 {d:Option Nat} {n:Nat} {m k v:Opd} {q:Prop×List AV×Objs} (h:Ze d fr L (.mpk n m k v)=some q):Ze d fr L (.mpu m k v)=some q:=by
 simp only [Ze] at h ⊢
 split at h
 ·rename_i e1 e2 e3
  try rw [e1,e2,e3]
  split at h
  ·rename_i hk
   subst hk
   try simp only
   split at h
   ·rename_i hl;try rw [hl]
    exact h
   ·cases h
  ·cases h
 ·cases h
theorem DCallOp.call {b:Bool} {f:FuncId} {as:List AV} {d:Option Nat} {K:List AV→Objs→Prop} (h:DCallOp b P E f as L d fr K):qa5 P E f as L d fr K:=by
 obtain ⟨k,t,cs,post,h1,h2,h3,h4,h5,h6⟩:=h
 refine .inr (.inl ⟨some (k,.box t cs),_,h1 L h2,h2,?_,?_⟩)
 ·cases d with
  |none=>trivial
  |some e=>exact h3 e rfl
 ·rintro r os' ⟨x,cs',rfl,rfl,hp⟩
  exact h6 x cs' hp
set_option maxHeartbeats 2000000 in
theorem qoK {Y:List PV} {i:IOper} {is:List IOper} {K:List AV→Objs→Prop} (h:qaa P E Y (i :: is) fr L K):qaa P E Y ({ i with op:=i.op.norm } :: is) fr L K:=by
 obtain ⟨d,op,gd⟩:=i
 cases op
 case ldl sz ag x=>
  simp only [IOp.norm]
  cases gd with
  |none=>
   simp only [qaa,Ze] at h ⊢
   split at h
   ·rename_i c fr' L' e
    obtain ⟨q,e1,e2⟩:=zh.1 e
    rw [quM e1]
    simp only [zA,e2]
    exact h
   ·exact h.elim
  |some sw=>
   obtain ⟨s,want⟩:=sw
   simp only [qaa] at h ⊢
   split at h
   ·split at h
    ·rename_i c r e
     rw [quM e]
     exact h
    ·simp [qbW] at h
   ·exact h.elim
 case ldn n sz ag x=>
  simp only [IOp.norm]
  cases gd with
  |none=>
   simp only [qaa,Ze] at h ⊢
   split at h
   ·rename_i c fr' L' e
    obtain ⟨q,e1,e2⟩:=zh.1 e
    rw [quL e1]
    simp only [zA,e2]
    exact h
   ·exact h.elim
  |some sw=>
   obtain ⟨s,want⟩:=sw
   simp only [qaa] at h ⊢
   split at h
   ·split at h
    ·rename_i c r e
     rw [quL e]
     exact h
    ·simp [qbW] at h
   ·exact h.elim
 case stk n sz p x=>
  simp only [IOp.norm]
  cases gd with
  |none=>
   simp only [qaa] at h ⊢
   split at h
   ·rename_i c fr' L' e
    rw [qxe e]
    exact h
   ·exact h.elim
  |some sw=>
   obtain ⟨s,want⟩:=sw
   simp only [qaa,Zf] at h
   split at h
   ·simp [qbW] at h
   ·exact h.elim
 case mpk n m k v=>
  simp only [IOp.norm]
  cases gd with
  |none=>
   simp only [qaa] at h ⊢
   split at h
   ·rename_i c fr' L' e
    rw [qv4 e]
    exact h
   ·exact h.elim
  |some sw=>
   obtain ⟨s,want⟩:=sw
   simp only [qaa,Zf] at h
   split at h
   ·simp [qbW] at h
   ·exact h.elim
 case dcall b f args=>
  simp only [IOp.norm]
  cases gd with
  |none=>
   simp only [qaa] at h ⊢
   exact ⟨h.1,h.2.call⟩
  |some sw=>
   obtain ⟨s,want⟩:=sw
   simp only [qaa,Zf] at h
   split at h
   ·simp [qbW] at h
   ·exact h.elim
 case pcl n f args=>
  simp only [IOp.norm]
  cases gd with
  |none=>
   simp only [qaa] at h ⊢
   split at h
   ·rename_i ps e1
    obtain ⟨⟨hc,hF⟩,h⟩:=h
    refine ⟨hc,.inl ⟨_,by rw [ql8 e1];exact hF L,fun x hx=>?_⟩⟩
    subst hx
    exact h
   ·exact h.elim
  |some sw=>
   obtain ⟨s,want⟩:=sw
   simp only [qaa] at h ⊢
   cases hg:Zh fr s want with
   |none=>rw [hg] at h;exact h.elim
   |some c0=>
    rw [hg] at h
    simp only at h ⊢
    cases e1:qdn (Zn fr args) with
    |none=>rw [e1] at h;exact h.elim
    |some ps=>
     rw [e1] at h
     exact ⟨fun hc=>(h.1 hc).1,.inl ⟨_,fun hc=>by rw [ql8 e1];exact (h.1 hc).2 L,h.2⟩⟩
 case fcl n f args e z=>
  simp only [IOp.norm]
  cases gd with
  |none=>
   simp only [qaa] at h ⊢
   split at h
   ·rename_i d ps z' es e1 e2
    obtain ⟨⟨⟨⟨h1,h2⟩,_⟩,hc,rfl,hF⟩,h⟩:=h
    refine ⟨hc,.inr (.inl ⟨none,_,by rw [ql8 e1];exact hF L,trivial,trivial,fun r os' hp=>?_⟩)⟩
    subst hp
    simp only [resK,putB,Zav,h1,h2]
    exact h
   ·exact h.elim
  |some sw=>
   obtain ⟨s,want⟩:=sw
   simp only [qaa,Zf] at h
   split at h
   ·simp [qbW] at h
   ·exact h.elim
 case alcd t zero=>
  simp only [IOp.norm]
  cases gd with
  |none=>
   simp only [qaa,Ze] at h ⊢
   cases d with
   |none=>exact h
   |some d=>
    obtain ⟨⟨⟨h1,h2⟩,_⟩,h⟩:=h
    simp only [Zav,h1,h2]
    exact ⟨trivial,h⟩
  |some sw=>
   obtain ⟨s,want⟩:=sw
   simp only [qaa,Zf] at h
   split at h
   ·simp [qbW] at h
   ·exact h.elim
 case bsrd e z parts=>
  simp only [IOp.norm]
  cases gd with
  |none=>
   simp only [qaa,Ze] at h ⊢
   cases d with
   |none=>exact h
   |some d=>
    cases hb:Zao fr z parts with
    |none=>rw [hb] at h;exact (show False from h).elim
    |some q=>
     rw [hb] at h
     cases hp:qkz parts with
     |true=>rw [hp] at h;exact (show False from h).elim
     |false=>
      rw [hp] at h
      obtain ⟨⟨⟨⟨h1,h2⟩,_⟩,hc⟩,h⟩:=h
      simp only [Zav,h1,h2]
      split
      ·rename_i e1
       split at e1
       ·simp [qkz] at hp
       ·cases e1;exact ⟨hc,h⟩
      ·rename_i e1
       split at e1
       ·simp [qkz] at hp
       ·cases e1
  |some sw=>
   obtain ⟨s,want⟩:=sw
   simp only [qaa,Zf] at h
   split at h
   ·simp [qbW] at h
   ·exact h.elim
 all_goals exact h
theorem qdC {Y:List PV} {ops:Array Oper} {i:IOper} {is:List IOper} {K:List AV→Objs→Prop} (hchk:qe2 P ops o i=true) (hfz:isFz i=false) (h:qaa P E Y (i :: is) fr L K) (hs:StF E B w L ι fr a)
  {next:Act→World→Prop} {Q:Exit→Act→World→Prop} (hn:∀ fr' L' ι' a' w',qaa P E Y is fr' L' K→StF E B w' L' ι' fr' a'→next a' w') :
  if Region.wanted o (yielded ops a.tmps) then o.wp P a w next Q else next (a.put o.dst undef) w:=by
 simp only [qe2,yh] at hchk
 rcases hchk with hd|hchk
 ·obtain ⟨d,op,gd⟩:=i
  cases op<;>simp only [quO,zK] at hd
  cases gd with
  |none=>simp only [qaa,Ze,Zf,Option.map_none] at h
  |some sw=>
   obtain ⟨s,want⟩:=sw
   simp only [qaa,Zf] at h
   split at h
   ·simp [qbW] at h
   ·exact h.elim
 ·refine qog hchk ?_ (qoK h) hs hn
  obtain ⟨d,op,gd⟩:=i
  cases op<;>first|exact hfz|(simp only [IOp.norm];cases d<;>cases gd<;>rfl)
theorem Zd.look {L L':Objs} (h:Zd L' L):∀ (k:Key) (a:AO),Zas L' k=some a→Zas L k=some a:=by
 induction L' with
 |nil=>intro k a h;simp [Go.Proofs.YtjgdjinhkgjpeabGreatDoor.Zas] at h
 |cons q r ih=>
  intro k a hk
  obtain ⟨k',a'⟩:=q
  simp only [Zd] at h
  simp only [Go.Proofs.YtjgdjinhkgjpeabGreatDoor.Zas] at hk
  split at hk
  ·rename_i e;cases hk;rw [← e];exact h.1
  ·exact ih h.2 k a hk
theorem Zb.get:∀ {as bs:List AV},Zb as bs→as.length=bs.length∧∀ (i:Nat) (b:AV),bs[i]?=some b→∃ a,as[i]?=some a∧Zc a b:=by
 intro as
 induction as with
 |nil=>intro bs h;cases bs with
  |nil=>simp
  |cons b bs=>exact h.elim
 |cons a as ih=>intro bs h;cases bs with
  |nil=>exact h.elim
  |cons b bs=>
   simp only [Zb] at h
   obtain ⟨h1,h2⟩:=ih h.2
   refine ⟨by simp [h1],fun i x hx=>?_⟩
   cases i with
   |zero=>simp at hx;subst hx;exact ⟨a,rfl,h.1⟩
   |succ i=>simp at hx;simpa using h2 i x hx
theorem Zc.rep {U:Nat→Prop} {x y:AV} {v:Value} (h:Zc x y) (hr:ARep w U ι x v):ARep w U ι y v:=by
 unfold Zc at h
 split at h
 ·trivial
 ·subst h;exact hr
theorem StF.weak {fr':List AV} (hs:StF E B w L ι fr a) (h1:Zb fr fr') (h2:Zd L' L):StF E B w L' ι fr' a:=by
 obtain ⟨h,hf,hd⟩:=hs
 have hl:=Zd.look h2
 have hO:∀ b,Own L' ι b→Own L ι b:=fun b ⟨k,q,e1,e2⟩=>⟨k,q,hl k q e1,e2⟩
 have hk:Keeps w w (fun b=>Own L ι b∨B.X b) (fun b=>Own L' ι b∨B.X b):=fun b _ hu=>⟨rfl,fun h=>hu (h.imp (hO b) id)⟩
 obtain ⟨g1,g2⟩:=h1.get
 refine ⟨⟨h.grow,⟨fun j q hj=>?_,fun j j' q q' b hj hj'=>h.sim.inj j j' q q' b (hl j q hj) (hl j' q' hj')⟩,fun b hb=>h.own b (hO b hb),h.xlt,fun k h0 h1=>?_,h.env,h.envb,h.loc,h.xdis⟩,⟨by rw [hf.1,g1],fun i y hy=>?_⟩,hd⟩
 ·exact (h.sim.obj j q (hl j q hj)).mono hk (fun _ _=>rfl)
 ·obtain ⟨q,hq⟩:=zM.1 h1
  exact h.keep k h0 (by rw [hl k q hq];rfl)
 ·obtain ⟨x,hx,hxy⟩:=g2 i y hy
  obtain ⟨v,hv,hr⟩:=hf.2 i x hx
  exact ⟨v,hv,(hxy.rep hr).mono hk⟩
end
section
variable {P:Program} {E:Envt} {B:Base} {w w':World} {L L':Objs} {ι ι':Key→Value} {fr:List AV} {a:Act} {o:Oper} {X:Nat→Prop}
theorem qou {i:IOper} (h:isFz i=true):(∃ x,i=⟨none,.fz x,none⟩)∨(∃ x,i=⟨none,.hole x,none⟩)∨i=⟨none,.re,none⟩:=by
 unfold isFz at h
 split at h
 ·exact .inl ⟨_,rfl⟩
 ·exact .inr (.inl ⟨_,rfl⟩)
 ·exact .inr (.inr rfl)
 ·cases h
theorem qsi {Y:List PV} {i:IOper} {is:List IOper} {K:List AV→Objs→Prop} (hi:isFz i=true) (h:qaa P E Y (i :: is) fr L K) (hs:StF E B w L ι fr a):∃ fr' L' ι',qaa P E Y is fr' L' K∧StF E B w L' ι' fr' a:=by
 rcases qou hi with ⟨x,rfl⟩|⟨x,rfl⟩|rfl
 ·simp only [qaa] at h
  split at h
  ·rename_i k y hk;exact ⟨_,_,_,h,qwh hs hk⟩
  ·exact ⟨_,_,_,h,hs⟩
 ·simp only [qaa] at h
  exact ⟨_,_,_,h,qov hs x⟩
 ·simp only [qaa] at h
  obtain ⟨fr',L',hre,h⟩:=h
  obtain ⟨ι',hs'⟩:=hre B w ι a hs
  exact ⟨fr',L',ι',h,hs'⟩
theorem qnD {Y:List PV} {ops:Array Oper} {K:List AV→Objs→Prop} {Q:Exit→Act→World→Prop} (hK:∀ fr L ι a w,K fr L→StF E B w L ι fr a→Q .normal a w):∀ (is:List IOper) (os:List Oper) (fr:List AV) (L:Objs) (ι:Key→Value) (a:Act) (w:World),
  qdP P ops os is=true→qaa P E Y is fr L K→StF E B w L ι fr a→wpList P ops Q os a w:=by
 intro is
 induction is with
 |nil=>
  intro os fr L ι a w hchk h hs
  simp only [qdP,List.isEmpty_iff] at hchk
  subst hchk
  exact wpList_nil (hK fr L ι a w h hs)
 |cons i is ih=>
  intro os fr L ι a w hchk h hs
  simp only [qdP] at hchk
  by_cases hf:isFz i=true
  ·rw [if_pos hf] at hchk
   obtain ⟨fr',L',ι',h',hs'⟩:=qsi hf h hs
   exact ih os fr' L' ι' a w hchk h' hs'
  ·rw [if_neg hf] at hchk
   split at hchk
   ·rename_i o os'
    simp only [zi] at hchk
    refine wpList_step fun Kc hKc=>?_
    exact qdC hchk.1 (by simpa using hf) h hs (fun fr' L' ι' a' w' h' hs'=>hKc a' w' (ih os' fr' L' ι' a' w' hchk.2 h' hs'))
   ·cases hchk
def qsB (P:Program) (D:Array Oper→Option (List Nat)→List IOper→Bool):Prop:=
 (∀ (E:Envt) (B:Base) (Y:List PV) (ops:Array Oper) (is:List IOper) (id:Nat) (fr:List AV) (L:Objs) (ι:Key→Value) (a:Act) (w:World) (K:List AV→Objs→Prop) (Q:Exit→Act→World→Prop),
  (∀ fr L ι a w,K fr L→StF E B w L ι fr a→Q .normal a w)→qdP P ops ops.toList is=true→D ops none is=true→qaa P E Y is fr L K→StF E B w L ι fr a→(Code.region id ops true).wp P Q a w)∧
 ∀ (E:Envt) (B:Base) (Y:List PV) (ops:Array Oper) (pm:List Nat) (is:List IOper) (id:Nat) (fr:List AV) (L:Objs) (ι:Key→Value) (a:Act) (w:World) (K:List AV→Objs→Prop) (Q:Exit→Act→World→Prop),
  (∀ fr L ι a w,K fr L→StF E B w L ι fr a→Q .normal a w)→qt4 P ops pm is=true→D ops (some pm) is=true→qaa P E Y is fr L K→StF E B w L ι fr a→(Code.region id ops true).wp P Q a w
set_option maxHeartbeats 2000000 in
theorem qjV {D:Array Oper→Option (List Nat)→List IOper→Bool} (hD:qsB P D):∀ (ic:IC) (c:Code) (fr:List AV) (L:Objs) (Q:AQ),chkC P D ic c=true→awp P E ic fr L Q→AWp P E c fr L Q:=by
 intro ic
 induction ic with
 |skip=>intro c fr L Q hc h;cases c<;>simp [chkC] at hc;exact AWp.skip h
 |reg ops=>
  intro c fr L Q hc h
  cases c with
  |region id os draw=>
   cases draw with
   |true=>simp [chkC] at hc
   |false=>
    simp only [chkC] at hc
    intro B w ι a hs
    refine wp_region_list ?_
    exact qnD (Q:=Q.conc E B) (fun fr L ι a w hk hs=>⟨fr,L,ι,hk,hs⟩) ops os.toList fr L ι a w hc h hs
  |_=>simp [chkC] at hc
 |drg ops=>
  intro c fr L Q hc h
  cases c with
  |region id os draw=>
   cases draw with
   |false=>simp [chkC] at hc
   |true=>
    simp only [chkC,zi] at hc
    intro B w ι a hs
    obtain ⟨Y,h⟩:=h
    exact hD.1 E B Y os ops id fr L ι a w _ (Q.conc E B) (fun fr L ι a w hk hs=>⟨fr,L,ι,hk,hs⟩) hc.1 hc.2 h hs
  |_=>simp [chkC] at hc
 |drp pm ops=>
  intro c fr L Q hc h
  cases c with
  |region id os draw=>
   cases draw with
   |false=>simp [chkC] at hc
   |true=>
    simp only [chkC,zi] at hc
    intro B w ι a hs
    obtain ⟨Y,h⟩:=h
    exact hD.2 E B Y os pm ops id fr L ι a w _ (Q.conc E B) (fun fr L ι a w hk hs=>⟨fr,L,ι,hk,hs⟩) hc.1 hc.2 h hs
  |_=>simp [chkC] at hc
 |seq x y ihx ihy=>
  intro c fr L Q hc h
  cases c with
  |seq a b=>
   simp only [chkC,zi] at hc
   refine AWp.seq ((ihx a fr L _ hc.1 h).mono ?_)
   intro e fr L hq
   cases e<;>first|exact ihy b fr L Q hc.2 hq|exact hq
  |_=>simp [chkC] at hc
 |cond d x y ihx ihy=>
  intro c fr L Q hc h
  cases c with
  |cond c a b=>
   simp only [chkC,zi] at hc
   simp only [awp] at h
   split at h
   ·rename_i t ht
    refine AWp.cond (b:=t) (fun B w ι ac hs=>?_) (fun e=>ihx a fr L Q hc.1.2 (h.1 e)) (fun e=>ihy b fr L Q hc.2 (h.2 e))
    have:=rdOk hs.2.1 hc.1.1
    rw [ht] at this
    exact PRep.bool_eq this
   ·exact h.elim
  |_=>simp [chkC] at hc
 |block id x ih=>
  intro c fr L Q hc h
  cases c with
  |block j a=>
   simp only [chkC,zi,beq_iff_eq] at hc
   obtain ⟨rfl,hc⟩:=hc
   exact AWp.block (ih a fr L _ hc h)
  |_=>simp [chkC] at hc
 |loop x ih=>
  intro c fr L Q hc h
  cases c with
  |loop a=>
   simp only [chkC] at hc
   obtain ⟨I,⟨n,fr0,L0,e1,h0⟩,hr⟩:=h
   intro B w ι ac hs
   obtain ⟨ι0,hs0⟩:=e1 B w ι ac hs
   refine AWp.loop (Q:=Q) I (fun n fr L hi=>?_) n h0 B w ι0 ac hs0
   intro B w ι ac hs
   refine wp_mono (ih a fr L _ hc (hr n fr L hi) B w ι ac hs) ?_
   rintro e a' w' ⟨fr',L',ι',q,s⟩
   cases e with
   |normal=>obtain ⟨m,fr2,L2,hm,e1,hi⟩:=q;obtain ⟨ι2,s2⟩:=e1 B w' ι' a' s;exact ⟨fr2,L2,ι2,⟨m,hm,hi⟩,s2⟩
   |_=>exact ⟨fr',L',ι',q,s⟩
  |_=>simp [chkC] at hc
 |exit id=>
  intro c fr L Q hc h
  cases c with
  |exit j=>simp only [chkC,beq_iff_eq] at hc;subst hc;exact AWp.exit h
  |_=>simp [chkC] at hc
 |ret=>
  intro c fr L Q hc h
  cases c with
  |ret=>exact AWp.ret h
  |_=>simp [chkC] at hc
 |dead=>intro c fr L Q hc h;exact h.elim
 |cut x ih=>
  intro c fr L Q hc h
  simp only [chkC] at hc
  obtain ⟨fr',L',e1,h⟩:=h
  intro B w ι ac hs
  obtain ⟨ι',hs'⟩:=e1 B w ι ac hs
  exact ih c fr' L' Q hc h B w ι' ac hs'
end
inductive IRes where
 |t (i:Nat)
 |c (i sz:Nat) (ag:Bool)
def Zbf (L:Objs):AV→Option PV
 |.p x=>some (wk1 x)
 |.row (.l i)=>match Zas L (.l i) with
  |some (.row es _ z _)=>some (.sl z es)
  |_=>none
 |.mp (.l i)=>match Zas L (.l i) with
  |some (.mapg κ kv _ _)=>some (.mpg κ (kv.map (·.1)) (kv.map (·.2)))
  |_=>none
 |_=>none
def Zbg (L:Objs):List AV→Option (List PV)
 |[]=>some []
 |x :: r=>match Zbf L x,Zbg L r with
  |some y,some l=>some (y :: l)
  |_,_=>none
def Zbe (fr:List AV) (L:Objs):IRes→Option PV
 |.t i=>match fr.getD i .any with
  |.p x=>some (wk x)
  |a=>Zbf L a
 |.c i sz ag=>match fr.getD i .any with
  |.adr k o=>match Zas L k with
   |some (.box cs _)=>if o+sz≤cs.length then (if ag then (Zbg L ((cs.drop o).take sz)).map .agg else Zbf L (cs.getD o .any)) else none
   |_=>none
  |_=>none
def Zbd (fr:List AV) (L:Objs):List IRes→Option (List PV)
 |[]=>some []
 |r :: rs=>match Zbe fr L r,Zbd fr L rs with
  |some y,some l=>some (y :: l)
  |_,_=>none
def qhb:List PV→PV
 |[x]=>x
 |l=>.tup l
def qoh (P:Program):ResultVar→IRes→Bool
 |.tmp t,.t i=>t == i
 |.cell t ty,.c i sz ag=>t == i && qa7 P ty sz && aggB P ty ag && (ag || sz == 1)
 |_,_=>false
def qfb (P:Program):List ResultVar→List IRes→Bool
 |[],[]=>true
 |x :: xs,y :: ys=>qoh P x y && qfb P xs ys
 |_,_=>false
def RetK (q:Option (List PV)) (φ:PV→Objs→Prop) (L:Objs):Prop:=
 match q with
 |some l=>φ (qhb l) L
 |none=>False
theorem qsq {l:List PV} {φ:PV→Objs→Prop} {L:Objs}:RetK (some l) φ L=φ (qhb l) L:=rfl
theorem qj1 {q:Option (List PV)} {φ:PV→Objs→Prop} {L:Objs} (h:RetK q φ L):∃ l,q=some l∧φ (qhb l) L:=by
 cases q with
 |none=>exact h.elim
 |some l=>exact ⟨l,rfl,h⟩
theorem qxO (x:PV):qhb [x]=x:=rfl
theorem qxN (x y:PV):qhb [x,y]=.tup [x,y]:=rfl
theorem qxM (x y z:PV):qhb [x,y,z]=.tup [x,y,z]:=rfl
def retQ (rs:List IRes) (φ:PV→Objs→Prop):AQ
 |.normal,fr,L=>RetK (Zbd fr L rs) φ L
 |.ret,fr,L=>RetK (Zbd fr L rs) φ L
 |_,_,_=>False
section
variable {P:Program} {E:Envt} {B:Base} {w w':World} {L L':Objs} {ι ι':Key→Value} {fr:List AV} {a:Act} {o:Oper} {X:Nat→Prop}
def ZB (L:Objs) (ι:Key→Value) (X:Nat→Prop) (c:Nat):Prop:=X c∨∃ i q,Zas L (.b i)=some q∧blk (ι (.b i))=some c
theorem qlD (w:World) (L:Objs) (ι:Key→Value) (X:Nat→Prop):Keeps w w (fun b=>Own L ι b∨X b) (ZB L ι X):=fun b _ h=>⟨rfl,fun hx=>by
 rcases hx with hx|⟨i,q,h1,h2⟩
 ·exact h (.inr hx)
 ·exact h (.inl ⟨_,q,h1,h2⟩)⟩
theorem qrE (w:World) (L:Objs) (ι:Key→Value) (X:Nat→Prop):Keeps w w (fun b=>Own L ι b∨X b) X:=fun b _ h=>⟨rfl,fun hx=>h (.inr hx)⟩
set_option maxHeartbeats 2000000 in
theorem qvS (h:St E B w L ι) {x:AV} {y:PV} {v:Value} (e:Zbf L x=some y) (hr:ARep w (fun b=>Own L ι b∨B.X b) ι x v):PRep w (ZB L ι B.X) y v∧v.oneCell'=true∨(∃ z,x=.p z∧y=wk1 z)∧PRep w (ZB L ι B.X) y v:=by
 unfold Zbf at e
 split at e
 ·cases e;exact .inr ⟨⟨_,rfl,rfl⟩,(PRep.mono (qlD w L ι B.X) _ _ hr).wk1⟩
 ·rename_i k0
  generalize hkk:Key.l k0=k at e hr
  split at e
  ·rename_i es e' z ap hl
   cases e
   left
   obtain ⟨vs,hrow,e4,e5,e6⟩:=h.sim.obj k _ hl
   rcases hrow.2 with ⟨g1,g2⟩|⟨g,cap,cur,fz,g1,_,g3,_⟩
   ·rw [hr.1,g1]
    exact ⟨⟨none,0,by rw [g2],by omega,fun hne=>absurd (zq g2) hne⟩,rfl⟩
   ·rw [hr.1,g1]
    have hE:=qfC h.sim hl g1
    have hO:Own L ι g:=⟨k,_,hl,by rw [g1];rfl⟩
    refine ⟨⟨_,cap,rfl,g3,fun _=>⟨g,0,rfl,qbb h.sim hO,(fun hx=>by
     rcases hx with hx|⟨i,q,h1,h2⟩
     ·exact (h.x_own hx).2 hO
     ·have:=h.sim.inj _ _ _ _ g h1 hl h2 (by rw [g1];rfl)
      rw [← hkk] at this
      cases this),?_⟩⟩,rfl⟩
    have key:∀ (es':List (List PV)) (off:Nat),PRepE w (fun b=>Own L ι b∨B.X b) g z off es'→PRepE w (ZB L ι B.X) g z off es':=by
     intro es'
     induction es' with
     |nil=>intro off _;simp [PRepE]
     |cons x r ih=>
      intro off hh
      simp only [PRepE] at hh ⊢
      refine ⟨hh.1,?_,ih _ hh.2.2⟩
      obtain ⟨us,a1,a2,a3⟩:=hh.2.1.vals
      exact PRepC.of (PRepL.mono (qlD w L ι B.X) _ _ a1) a2 a3
    exact key es 0 hE
  ·cases e
 ·rename_i k0
  generalize hkk:Key.l k0=k at e hr
  split at e
  ·rename_i κ kv kt et hl
   cases e
   left
   obtain ⟨r,ents,cl,e1,e2,e3,e4⟩:=h.sim.obj k _ hl
   have hO:Own L ι r:=⟨k,_,hl,by rw [e1];rfl⟩
   rw [hr.1,e1]
   refine ⟨⟨r,rfl,qbb h.sim hO,(fun hx=>by
     rcases hx with hx|⟨i,q,h1,h2⟩
     ·exact (h.x_own hx).2 hO
     ·have:=h.sim.inj _ _ _ _ r h1 hl h2 (by rw [e1];rfl)
      rw [← hkk] at this
      cases this),ents,cl,e2,⟨by rw [e3.1,List.map_map];rfl,e4,fun s hs=>by obtain ⟨p,hp,rfl⟩:=zE.1 hs;exact e3.2.2 p hp⟩,PRepL.mono (qlD w L ι B.X) _ _ e3.2.1⟩,rfl⟩
  ·cases e
 ·cases e
theorem qlp (h:St E B w L ι) {x:AV} {y:PV} {v:Value} (e:Zbf L x=some y) (hr:ARep w (fun b=>Own L ι b∨B.X b) ι x v):PRep w (ZB L ι B.X) y v:=by
 rcases qvS h e hr with h|h
 ·exact h.1
 ·exact h.2
theorem qre (h:St E B w L ι):∀ {xs:List AV} {ys:List PV} {vs:List Value},Zbg L xs=some ys→vs.length=xs.length→(∀ (j:Nat) (x:AV),xs[j]?=some x→∃ v,vs[j]?=some v∧ARep w (fun b=>Own L ι b∨B.X b) ι x v)→PRepL w (ZB L ι B.X) ys vs:=by
 intro xs
 induction xs with
 |nil=>intro ys vs e hl _;simp only [Zbg,zg] at e;subst e;simp only [PRepL];exact zq hl
 |cons x xs ih=>
  intro ys vs e hl hr
  simp only [Zbg] at e
  split at e
  ·rename_i y l e1 e2
   cases e
   cases vs with
   |nil=>simp at hl
   |cons v vs=>
    obtain ⟨v0,h0,r0⟩:=hr 0 x rfl
    simp at h0
    subst h0
    simp only [PRepL]
    exact ⟨v,vs,rfl,qlp h e1 r0,ih e2 (by simpa using hl) (fun j q hq=>by simpa using hr (j+1) q (by simpa using hq))⟩
  ·cases e
theorem PRep.wk {U:Nat→Prop} {x:PV} {v:Value} (h:PRep w U x v):PRep w U (wk x) v:=by
 cases x with
 |agg cs=>simp only [PRep,Go.Proofs.YtjgdjinhkgjpeabGreatDoor.wk] at h ⊢;obtain ⟨vs,e,hl⟩:=h;exact ⟨vs,e,hl.wk1⟩
 |tup cs=>simp only [PRep,Go.Proofs.YtjgdjinhkgjpeabGreatDoor.wk] at h ⊢;obtain ⟨vs,e,hl⟩:=h;exact ⟨vs,e,hl.wk1⟩
 |_=>exact h.wk1
def res1 (tmps:Array Value):ResultVar→Sem Value
 |.tmp t=>pure (tmps.getD t undef)
 |.cell a t=>do loadVar t (← asAddr (tmps.getD a undef))
theorem FRep.getD {U:Nat→Prop} (hf:FRep w U ι fr a) (i:Nat):ARep w U ι (fr.getD i .any) (a.tmps.getD i undef):=by
 cases hx:fr[i]? with
 |none=>simp only [zC,hx];trivial
 |some y=>
  obtain ⟨v,hv,hr⟩:=hf.2 i y hx
  simpa [zC,hx,hv] using hr
set_option maxHeartbeats 2000000 in
theorem qvM (hs:StF E B w L ι fr a) {rv:ResultVar} {r:IRes} (hok:qoh P rv r=true) {x:PV} (h:Zbe fr L r=some x):∃ v,(res1 a.tmps rv).run P w=.ok v w∧PRep w (ZB L ι B.X) x v:=by
 cases r with
 |t i=>
  cases rv with
  |cell t ty=>simp [qoh] at hok
  |tmp t=>
   simp only [qoh,beq_iff_eq] at hok
   subst hok
   have hr:=hs.2.1.getD t
   refine ⟨_,rfl,?_⟩
   simp only [Zbe] at h
   split at h
   ·rename_i y hy;cases h;rw [hy] at hr;exact (PRep.mono (qlD w L ι B.X) _ _ hr).wk
   ·exact qlp hs.1 h hr
 |c i sz ag=>
  cases rv with
  |tmp t=>simp [qoh] at hok
  |cell t ty=>
   simp only [qoh,zi,beq_iff_eq,yh] at hok
   obtain ⟨⟨⟨rfl,hsz⟩,hag⟩,h1⟩:=hok
   have hr:=hs.2.1.getD t
   simp only [Zbe] at h
   split at h
   ·rename_i k of hk
    rw [hk] at hr
    obtain ⟨b,e1,e2⟩:=hr
    split at h
    ·rename_i cs bt hl
     obtain ⟨b',vs,e4,hb,hlen,h1c,hcs⟩:=hs.1.sim.obj k _ hl
     rw [e1] at e4
     cases e4
     split at h
     ·rename_i hle
      have hcell:∀ (j:Nat) (v:Value),vs[j]?=some v→w.cell? ⟨b,j,none⟩=some v:=fun j v hv=>by rw [cell_of_row w b j _ _ _ hb];simpa using hv
      cases ag with
      |true=>
       simp only [if_true] at h
       obtain ⟨l,hl',rfl⟩:=zh.1 h
       have hrep:=qre hs.1 (vs:=(vs.drop of).take sz) hl' (by simp;omega) (fun j x hx=>by
        rw [yk] at hx ⊢
        split at hx
        ·rename_i hj;rw [if_pos hj];rw [yb] at hx ⊢;exact hcs _ x hx
        ·cases hx)
       refine ⟨.agg ((vs.drop of).take sz).toArray,?_,_,rfl,hrep⟩
       have hld:=run_loadCells_list (P:=P) (w:=w) ⟨b,of,none⟩ ((vs.drop of).take sz) (fun j v hj=>by
        rw [qaW]
        rw [yk] at hj
        split at hj
        ·rw [yb] at hj;exact hcell _ v hj
        ·cases hj)
       have hln:((vs.drop of).take sz).length=sz:=by simp;omega
       rw [hln] at hld
       simp [res1,e2,asAddr,loadVar,qcc hag,qaD hsz,hld]
      |false=>
       have:sz=1:=by rcases h1 with h1|h1;cases h1;exact h1
       subst this
       simp only [zK,if_false] at h
       obtain ⟨u,hu,hr⟩:=hcs of (cs.getD of .any) (by rw [zC,zk (by omega)];rfl)
       refine ⟨u,?_,qlp hs.1 h hr⟩
       simp [res1,e2,asAddr,loadVar,qcc hag,hcell of u hu]
     ·cases h
    ·cases h
   ·cases h
theorem qvL (hs:StF E B w L ι fr a):∀ {rvs:List ResultVar} {rs:List IRes} {l:List PV},qfb P rvs rs=true→Zbd fr L rs=some l→∃ vs,(rvs.mapM (res1 a.tmps)).run P w=.ok vs w∧PRepL w (ZB L ι B.X) l vs:=by
 intro rvs
 induction rvs with
 |nil=>intro rs l h1 h2;cases rs with
  |nil=>simp only [Zbd,zg] at h2;subst h2;exact ⟨[],rfl,by simp [PRepL]⟩
  |cons _ _=>simp [qfb] at h1
 |cons rv rvs ih=>intro rs l h1 h2;cases rs with
  |nil=>simp [qfb] at h1
  |cons r rs=>
   simp only [qfb,zi] at h1
   simp only [Zbd] at h2
   split at h2
   ·rename_i y l' e1 e2
    cases h2
    obtain ⟨v,hv,hr⟩:=qvM hs h1.1 e1
    obtain ⟨vs,hvs,hrs⟩:=ih h1.2 e2
    refine ⟨v :: vs,?_,by simp only [PRepL];exact ⟨v,vs,rfl,hr,hrs⟩⟩
    simp only [List.mapM_cons,Sem.run_bind,hv,Result.andThen_ok,hvs]
    rfl
   ·cases h2
theorem qil (hs:StF E B w L ι fr a) {fn:Func} {rs:List IRes} {l:List PV} (h1:qfb P fn.results.toList rs=true) (h2:Zbd fr L rs=some l):∃ v,(results fn a.tmps).run P w=.ok v w∧PRep w (ZB L ι B.X) (qhb l) v:=by
 obtain ⟨vs,hvs,hrs⟩:=qvL hs h1 h2
 have e:(results fn a.tmps).run P w=.ok (if h:vs.toArray.size=1 then vs.toArray[0] else .tuple vs.toArray) w:=by
  have e0:results fn a.tmps=(do let vs ← fn.results.mapM (res1 a.tmps);pure (if h:vs.size=1 then vs[0] else .tuple vs)):=by
   unfold results
   congr 1
  rw [e0]
  rw [Array.mapM_eq_mapM_toList]
  simp only [← bind_pure_comp,Sem.run_bind,bind_assoc]
  rw [hvs]
  rfl
 rw [e]
 refine ⟨_,rfl,?_⟩
 have hlen:=hrs.length
 cases l with
 |nil=>have:vs=[]:=zq hlen;subst this;simp [qhb,PRep,PRepL]
 |cons x l=>
  cases l with
  |nil=>
   simp only [PRepL] at hrs
   obtain ⟨v,r,rfl,hv,rfl⟩:=hrs
   simpa [qhb] using hv
  |cons y l=>
   rw [dif_neg (by simp at hlen ⊢;omega)]
   exact ⟨vs,rfl,hrs⟩
set_option maxHeartbeats 2000000 in
theorem qmW {D:Array Oper→Option (List Nat)→List IOper→Bool} (hD:qsB P D) {f:FuncId} {fn:Func} {c:Code} {ic:IC} {rs:List IRes} {args:List PV} {n:Nat} {φ:PV→Prop} (hf:P.funcs[f]?=some fn) (hb:fn.body=some c) (hn:fn.ntmps=n) (hchk:chkC P D ic c=true) (hr:qfb P fn.results.toList rs=true)
  (h:awp P E ic (args.map .p++zD (n - args.length) .any) [] (retQ rs fun x _=>φ x)):PCall P E f args φ:=by
 intro w U vs hU hE hEb hA
 refine calls_of_wp hf hb ?_
 let B:Base:={ w0:=w,X:=U,L0:=[],i0:=fun _=>undef }
 have hO:∀ b,¬ Own [] (fun _=>undef) b:=by rintro b ⟨k,q,h,_⟩;simp [Zas] at h
 have hst:St E B w [] (fun _=>undef):=⟨Grow.refl _ _,⟨fun k q h=>by simp [Zas] at h,fun k k' q q' b h=>by simp [Zas] at h⟩,fun b hb=>.inl hb,hU,fun k h=>by simp [B,Zas] at h,hE,fun b hb=>⟨hEb b hb,hO b⟩,fun i=>rfl,fun b _=>hO b⟩
 have hkeep:Keeps w w U (fun b=>Own [] (fun _=>undef) b∨B.X b):=fun b _ hu=>⟨rfl,fun h=>hu (h.resolve_left (hO b))⟩
 have hlen:=hA.length
 have hfr:StF E B w [] (fun _=>undef) (args.map .p++zD (n - args.length) .any) { tmps:=vs.toArray++Array.replicate (fn.ntmps - vs.toArray.size) undef,defers:=[] }:=by
  refine ⟨hst,⟨by simp [hlen,hn],fun i x hx=>?_⟩,rfl⟩
  rw [List.getElem?_append] at hx
  split at hx
  ·rename_i hi
   rw [zy,zh] at hx
   obtain ⟨y,hy,rfl⟩:=hx
   obtain ⟨v,hv,hrep⟩:=(PRepL.mono hkeep _ _ hA).get hy
   refine ⟨v,?_,hrep⟩
   simp only [zN] at hi
   rw [Array.getElem?_append_left (by simp;omega)]
   simpa using hv
  ·rename_i hi
   rw [List.getElem?_replicate] at hx
   split at hx
   ·rename_i hlt
    cases hx
    simp only [zN] at hi hlt
    refine ⟨undef,?_,trivial⟩
    rw [Array.getElem?_append_right (by simp;omega)]
    simp only [List.size_toArray]
    rw [Array.getElem?_replicate,if_pos (by rw [hlen];omega)]
   ·cases hx
 refine wp_mono (qjV hD ic c _ _ _ hchk h B w _ _ hfr) ?_
 rintro e a' w' ⟨fr',L',ι',q,hs'⟩
 have fin:(∃ l,Zbd fr' L' rs=some l∧φ (qhb l))→a'.defers=[]∧∃ v,(results fn a'.tmps).run P w'=.ok v w'∧∃ v_1 x,Ending.returned v=.returned v_1∧φ x∧PRep w' U x v_1∧Grow w w' (fun _=>False):=by
  rintro ⟨l,h1,h2⟩
  obtain ⟨v,hv,hrv⟩:=qil hs' hr h1
  refine ⟨hs'.2.2,v,hv,v,_,rfl,h2,PRep.mono (fun b _ h=>⟨rfl,fun hx=>h (.inl hx)⟩) _ _ hrv,?_⟩
  have hg:=hs'.1.grow
  exact ⟨hg.os,hg.tape,hg.output,hg.size,fun b hb _=>hg.block b hb (hO b)⟩
 cases e with
 |normal=>exact fin (qj1 (φ:=fun x _=>φ x) (L:=L') q)
 |ret=>exact fin (qj1 (φ:=fun x _=>φ x) (L:=L') q)
 |exit id=>exact q.elim
 |goto l=>exact q.elim
 |panic ch=>exact q.elim
 |outgrown=>exact q.elim
end
section
variable {fr:List AV} {L:Objs} {K:Key}
theorem AV.kill_comm (k j:Key) (x:AV):(x.kill k).kill j=(x.kill j).kill k:=by
 induction x with
 |g c a ih=>simp only [AV.kill,ih]
 |p|ipt|any=>rfl
 |_=>simp only [AV.kill];split<;>split<;>simp_all [AV.kill]
theorem AV.kill_idem (k:Key) (x:AV):(x.kill k).kill k=x.kill k:=by
 induction x with
 |g c a ih=>simp only [AV.kill,ih]
 |p|ipt|any=>rfl
 |_=>simp only [AV.kill];split<;>simp_all [AV.kill]
theorem AO.kill_comm (k j:Key) (x:AO):(x.kill k).kill j=(x.kill j).kill k:=by
 cases x<;>simp [AO.kill,AV.kill_comm k j]
theorem AO.kill_idem (k:Key) (x:AO):(x.kill k).kill k=x.kill k:=by
 cases x<;>simp [AO.kill,AV.kill_idem]
theorem qiu (k j:Key):∀ L:Objs,Zau k (Zau j L)=Zau j (Zau k L)
 |[]=>rfl
 |(k',a) :: r=>by simp only [Zau,qiu k j r,AO.kill_comm j k]
theorem qkE (k:Key):∀ L:Objs,Zau k (Zau k L)=Zau k L
 |[]=>rfl
 |(k',a) :: r=>by simp only [Zau,qkE k r,AO.kill_idem]
theorem qek (K k:Key) (a:AO):∀ L:Objs,Zau K (Zat L k a)=Zat (Zau K L) k (a.kill K)
 |[]=>rfl
 |(k',a') :: r=>by
  simp only [Zat,Zau]
  split
  ·simp only [Zau]
  ·simp only [Zau,qek K k a r]
theorem qdF {k j:Key} (a b:AO) (hne:k≠j):∀ {L:Objs},(Zas L k).isSome=true→(Zas L j).isSome=true→Zat (Zat L k a) j b=Zat (Zat L j b) k a
 |[],h,_=>by simp [Zas] at h
 |(k',a') :: r,h1,h2=>by
  simp only [Zat]
  by_cases e1:k'=k
  ·have e2:¬ k'=j:=fun e=>hne (e1.symm.trans e)
   simp only [if_pos e1,if_neg e2,Zat]
  ·by_cases e2:k'=j
   ·simp only [if_neg e1,if_pos e2,Zat]
   ·simp only [Zas,if_neg e1,if_neg e2] at h1 h2
    simp only [if_neg e1,if_neg e2,Zat,qdF a b hne h1 h2]
theorem qma {K:Key} {fr:List AV} (h:fr.map (·.kill K)=fr) (e:Nat):(fr.set e .any).map (·.kill K)=fr.set e .any:=by
 rw [List.map_set,h]
 rfl
theorem Zam.hole_self (d:Nat) (fr:List AV) (L:Objs):Zam d ((fr.map (·.kill (.l d))).set d .any) (Zav L (.l d) Zan):=by
 refine ⟨qma (by simp [Function.comp_def,AV.kill_idem]) d,?_⟩
 unfold Zav
 rw [qek,qkE]
 rfl
theorem Zam.hole {d:Nat} (h:Zam d fr L) (e:Nat):Zam d ((fr.map (·.kill (.l e))).set e .any) (Zav L (.l e) Zan):=by
 refine ⟨qma ?_ e,?_⟩
 ·have:=h.1
  rw [List.map_map]
  conv=>rhs;rw [← this]
  rw [List.map_map]
  exact List.map_congr_left fun x _=>AV.kill_comm _ _ x
 ·unfold Zav
  rw [qek,qiu,h.2]
  rfl
theorem qlA {cs:List AV} (h:cs.map (·.kill K)=cs):∀ x∈cs,x.kill K=x:=
 List.map_inj_left.1 (h.trans (List.map_id cs).symm)
theorem qrR {cs:List AV} (h:∀ x∈cs,x.kill K=x):cs.map (·.kill K)=cs:=
 (List.map_congr_left h).trans (List.map_id cs)
theorem qaV (h:Zau K L=L) {k:Key} {a:AO} (hl:Zas L k=some a):a.kill K=a:=by
 have:=qkB K L k
 rw [h,hl] at this
 simpa using this.symm
theorem box_fix {cs:List AV} {t:TypeId}:(AO.box cs t).kill K=.box cs t↔∀ x∈cs,x.kill K=x:=by
 simp only [AO.kill,AO.box.injEq,and_true]
 exact ⟨qlA,qrR⟩
theorem qjf {α:Type} (f:α→α):∀ (l:List α),l.map f=l→∀ x∈l,f x=x
 |[],_,x,hx=>by cases hx
 |q :: r,h,x,hx=>by
  simp only [zx,List.cons.injEq] at h
  rcases zG.1 hx with rfl|hx
  ·exact h.1
  ·exact qjf f r h.2 x hx
theorem rowv_fix {es:List (List AV)} {e z:Nat}:(AO.rowv es e z).kill K=.rowv es e z↔∀ x∈es,∀ y∈x,y.kill K=y:=by
 simp only [AO.kill,AO.rowv.injEq,and_true]
 constructor
 ·intro h x hx
  exact qjf _ _ (qjf _ _ h x hx)
 ·intro h
  exact (List.map_congr_left fun x hx=>(List.map_congr_left (h x hx)).trans (List.map_id x)).trans (List.map_id es)
theorem mapv_fix {kv:List (List UInt8×AV)} {kt et:Nat}:(AO.mapv kv kt et).kill K=.mapv kv kt et↔∀ x∈kv,x.2.kill K=x.2:=by
 simp only [AO.kill,AO.mapv.injEq,and_true]
 constructor
 ·intro h x hx
  have:=qjf _ _ h x hx
  exact congrArg Prod.snd this
 ·intro h
  conv=>rhs;rw [← List.map_id kv]
  exact List.map_congr_left fun x hx=>by rw [h x hx];rfl
theorem qdq (h:Zau K L=L) {k:Key} {a:AO} (ha:a.kill K=a):Zau K (Zat L k a)=Zat L k a:=by rw [qek,h,ha]
theorem qmO (h:fr.map (·.kill K)=fr) (x:Opd):(rd fr x).kill K=rd fr x:=by
 cases x with
 |t i=>
  simp only [rd,zC]
  cases hq:fr[i]? with
  |none=>rfl
  |some y=>exact qlA h y (zn hq)
 |f n=>simp [rd,AV.kill]
 |_=>rfl
theorem qo0 {x:AV} (h:x.kill K=x):x.un.2.kill K=x.un.2:=by
 induction x with
 |g c a ih=>
  simp only [AV.kill,AV.g.injEq,true_and] at h
  exact ih h
 |_=>exact h
theorem qym {x:AV} (h:x.kill K=x):x.ad.kill K=x.ad:=by
 unfold AV.ad
 split
 ·rfl
 ·exact h
theorem qcd (h:fr.map (·.kill K)=fr) {x:Opd} {c:Prop} {q:AV} (e:(rd fr x).un=(c,q)):q.kill K=q:=by
 have:=qo0 (qmO h x)
 rw [e] at this
 exact this
theorem qdE (h:fr.map (·.kill K)=fr) {x:Opd} {c:Prop} {q:AV} (e:(rd fr x).unA=(c,q)):q.kill K=q:=by
 have:=qym (qo0 (qmO h x))
 have e2:(rd fr x).un.2.ad=q:=by rw [show (rd fr x).un.2.ad=(rd fr x).unA.2 from rfl,e]
 rw [e2] at this
 exact this
theorem qlL {cs:List AV} {o:Nat} (h:∀ x∈cs,x.kill K=x):(cs.getD o .any).kill K=cs.getD o .any:=by
 simp only [zC]
 cases hq:cs[o]? with
 |none=>rfl
 |some y=>exact h y (zn hq)
theorem qfB {k:Key} (h:(AV.row k).kill K=.row k):k≠K:=by
 intro e;simp [AV.kill,e] at h
theorem qkV {k:Key} {o:Nat} (h:(AV.adr k o).kill K=.adr k o):k≠K:=by
 intro e;simp [AV.kill,e] at h
theorem qmP {k:Key} {z i o:Nat} (h:(AV.rad k z i o).kill K=.rad k z i o):k≠K:=by
 intro e;simp [AV.kill,e] at h
theorem qrt {k:Key} (h:(AV.mp k).kill K=.mp k):k≠K:=by
 intro e;simp [AV.kill,e] at h
theorem qyt {k:Key} {ps:List PV} (h:(AV.tr k ps).kill K=.tr k ps):k≠K:=by
 intro e;simp [AV.kill,e] at h
theorem qjz {k:Key} (h:k≠K):(AV.row k).kill K=.row k:=by simp [AV.kill,h]
theorem qoN {k:Key} {o:Nat} (h:k≠K):(AV.adr k o).kill K=.adr k o:=by simp [AV.kill,h]
theorem qlj {k:Key} {z i o:Nat} (h:k≠K):(AV.rad k z i o).kill K=.rad k z i o:=by simp [AV.kill,h]
theorem anyK_false {cs:List CV}:Zai K cs=false↔∀ x∈cs,Zaj K x=false:=by
 induction cs with
 |nil=>simp [Zai]
 |cons x r ih=>simp only [Zai,Bool.or_eq_false_iff,ih,zG,forall_eq_or_imp]
theorem qmb {cs:List CV} {i:Nat} {x:CV} (h:Zai K cs=false) (hx:Zaj K x=false):Zai K (cs.set i x)=false:=by
 rw [anyK_false] at h ⊢
 intro y hy
 rcases z8 hy with hy|rfl
 ·exact h y hy
 ·exact hx
theorem ag_fix {cs:List CV}:(AV.ag cs).kill K=.ag cs↔Zai K cs=false:=by
 simp only [AV.kill]
 split<;>simp_all
theorem qqJ {y:PV} {z i o:Nat}:(Zax y z i o).kill K=Zax y z i o:=by
 unfold Zax
 split
 ·split<;>rfl
 ·rfl
theorem qo1 {k:Key} {y:PV} {x:AV} (h:x.kill K=x):(x.thaw k y).kill K=x.thaw k y:=by
 induction x with
 |g c a ih=>
  simp only [AV.kill,AV.g.injEq,true_and] at h
  simp only [AV.thaw,AV.kill,ih h]
 |p|ipt|any=>rfl
 |row k'=>simp only [AV.thaw];split;rfl;exact h
 |adr k' o=>
  simp only [AV.thaw];split
  ·unfold thaw_P
   split
   ·split<;>rfl
   ·rfl
  ·exact h
 |rad k' z' i o=>
  simp only [AV.thaw];split
  ·exact qqJ
  ·exact h
 |mp k'=>simp only [AV.thaw];split;rfl;exact h
 |tr k' ps=>simp only [AV.thaw];split;rfl;exact h
 |fn f ks=>simp only [AV.thaw];split;rfl;exact h
 |ag cs=>
  rw [ag_fix,anyK_false] at h
  simp only [AV.thaw]
  rw [ag_fix,anyK_false]
  intro x hm
  obtain ⟨q,hq,rfl⟩:=zE.1 hm
  cases q with
  |p p=>rfl
  |row k'=>
   simp only [Zak];split
   ·rfl
   ·exact h _ hq
  |mp k'=>
   simp only [Zak];split
   ·rfl
   ·exact h _ hq
theorem qtr {f:AV→AV} (hf:∀ x:AV,x.kill K=x→(f x).kill K=f x) {a:AO} (h:a.kill K=a):(a.mapA f).kill K=a.mapA f:=by
 cases a with
 |box cs t=>
  simp only [AO.mapA]
  rw [box_fix] at h ⊢
  intro x hx
  obtain ⟨y,hy,rfl⟩:=zE.1 hx
  exact hf y (h y hy)
 |rowv es e z=>
  simp only [AO.mapA]
  rw [rowv_fix] at h ⊢
  intro x hx y hy
  obtain ⟨x',hx',rfl⟩:=zE.1 hx
  obtain ⟨y',hy',rfl⟩:=zE.1 hy
  exact hf y' (h x' hx' y' hy')
 |mapv kv a b=>
  simp only [AO.mapA]
  rw [mapv_fix] at h ⊢
  intro x hx
  obtain ⟨y,hy,rfl⟩:=zE.1 hx
  exact hf y.2 (h y hy)
 |_=>rfl
theorem qkF {k':Key} {a:AO} {r:Objs}:Zau K ((k',a) :: r)=(k',a) :: r↔a.kill K=a∧Zau K r=r:=by
 simp [Zau]
theorem Zam.thaw {d:Nat} {k:Key} {y:PV} (h:Zam d fr L):Zam d (fr.map (·.thaw k y)) (Zaw k y L):=by
 refine ⟨?_,?_⟩
 ·refine qrR fun x hx=>?_
  obtain ⟨y,hy,rfl⟩:=zE.1 hx
  exact qo1 (qlA h.1 y hy)
 ·have:=h.2
  clear h
  induction L with
  |nil=>rfl
  |cons q r ih=>
   obtain ⟨k',a⟩:=q
   rw [qkF] at this
   simp only [Zaw]
   split
   ·exact ih this.2
   ·rw [qkF]
    refine ⟨?_,ih this.2⟩
    rw [AO.thaw_mapA]
    exact qtr (fun x hx=>qo1 hx) this.1
theorem qmg:∀ {cs:List AV} {l:List CV},Zag cs=some l→(∀ x∈cs,x.kill K=x)→Zai K l=false
 |[],l,h,_=>by simp only [Zag,zg] at h;subst h;rfl
 |.p x :: r,l,h,hx=>by
  simp only [Zag,zh] at h
  obtain ⟨l',h1,rfl⟩:=h
  have:=qmg h1 (fun y hy=>hx y (by simp [hy]))
  simp [Zai,Zaj,this]
 |.row k :: r,l,h,hx=>by
  simp only [Zag,zh] at h
  obtain ⟨l',h1,rfl⟩:=h
  have h2:=qmg h1 (fun y hy=>hx y (by simp [hy]))
  have:=qfB (hx (.row k) (by simp))
  simp [Zai,Zaj,this,h2]
 |.mp k :: r,l,h,hx=>by
  simp only [Zag,zh] at h
  obtain ⟨l',h1,rfl⟩:=h
  have h2:=qmg h1 (fun y hy=>hx y (by simp [hy]))
  have:=qrt (hx (.mp k) (by simp))
  simp [Zai,Zaj,this,h2]
 |.adr _ _ :: _,_,h,_=>by simp [Zag] at h
 |.rad _ _ _ _ :: _,_,h,_=>by simp [Zag] at h
 |.ipt _ _ _ _ :: _,_,h,_=>by simp [Zag] at h
 |.fn _ _ :: _,_,h,_=>by simp [Zag] at h
 |.g _ _ :: _,_,h,_=>by simp [Zag] at h
 |.ag _ :: _,_,h,_=>by simp [Zag] at h
 |.tr _ _ :: _,_,h,_=>by simp [Zag] at h
 |.any :: _,_,h,_=>by simp [Zag] at h
theorem qo7:∀ {us:List PV} {cs:List CV} {o:Nat},Zai K cs=false→Zai K (Zaf cs o us)=false
 |[],cs,o,h=>by simpa [Zaf] using h
 |x :: r,cs,o,h=>by
  simp only [Zaf]
  exact qo7 (qmb h rfl)
theorem qjn (hF:fr.map (·.kill K)=fr):∀ {ps:List (Nat×Nat×Opd)} {cs:List CV} {q:Prop×List CV},Zae fr cs ps=some q→Zai K cs=false→Zai K q.2=false
 |[],cs,q,h,hc=>by simp only [Zae,zg] at h;subst h;exact hc
 |(o,s,x) :: r,cs,q,h,hc=>by
  simp only [Zae] at h
  split at h
  ·split at h
   ·obtain ⟨q',h1,rfl⟩:=zh.1 h
    have:=qjn hF h1 (qo7 hc)
    exact this
   ·cases h
  ·rename_i c k e
   split at h
   ·obtain ⟨q',h1,rfl⟩:=zh.1 h
    have:=qjn hF h1 (qmb hc (by simp only [Zaj,decide_eq_false_iff_not];exact qfB (qcd hF e)))
    exact this
   ·cases h
  ·rename_i c k e
   split at h
   ·obtain ⟨q',h1,rfl⟩:=zh.1 h
    have:=qjn hF h1 (qmb hc (by simp only [Zaj,decide_eq_false_iff_not];exact qrt (qcd hF e)))
    exact this
   ·cases h
  ·cases h
theorem qcw:∀ {us cs:List AV} {o:Nat},(∀ x∈cs,x.kill K=x)→(∀ x∈us,x.kill K=x)→∀ x∈Zac cs o us,x.kill K=x
 |[],cs,o,h,_=>by simpa [Zac] using h
 |u :: r,cs,o,h,hu=>by
  simp only [Zac]
  refine qcw (fun x hx=>?_) (fun x hx=>hu x (by simp [hx]))
  rcases z8 hx with h'|h'
  ·exact h x h'
  ·subst h';exact hu _ (by simp)
end
def qaT:Opd→List Nat
 |.t i=>[i]
 |_=>[]
def optS:Option Opd→List Nat
 |none=>[]
 |some x=>qaT x
def qbz:List Opd→List Nat
 |[]=>[]
 |x :: r=>qaT x++qbz r
def qkt:List (Nat×Nat×Opd)→List Nat
 |[]=>[]
 |(_,_,x) :: r=>qaT x++qkt r
def qbY:IOp→Option (List Nat)
 |.mov x|.not x|.neg x|.len x|.sln x|.fla _ x|.fld _ _ _ x|.ld _ _ x|.ldl _ _ x|.ldn _ _ _ x|.ldg _ x|.ext _ x|.cvi _ x|.cvs x|.b2s x|.nck x|.nli _ x|.mpn x=>some (qaT x)
 |.pick c a b=>some (qaT c++qaT a++qaT b)
 |.bin _ x y|.bnb _ x y|.eqa _ _ x y|.mx x y|.mn x y|.idx x y|.ixa _ x y|.mpl _ _ x y|.mplk _ _ _ x y=>some (qaT x++qaT y)
 |.ssl x lo hi|.vsl _ x lo hi=>some (qaT x++optS lo++optS hi)
 |.bld _ parts|.bldg _ parts=>some (qkt parts)
 |.bsl _ parts=>some (qbz parts)
 |.pcall _ _ args=>some (qbz args)
 |.pcv _ g args=>some (qaT g++qbz args)
 |.pcl _ _ args=>some (qbz args)
 |_=>none
def qaP (i:IOper):Option (List Nat):=
 (qbY i.op).map fun l=>l++(match i.guard with|some (s,_)=>[s]|none=>[])
def isD:IOper→Option (Bool×List Nat)
 |⟨_,.dcall b _ args,none⟩=>some (b,qbz args)
 |_=>none
def isN:IOper→Option (Nat×List Nat)
 |⟨some d,.alcd _ _,none⟩=>some (d,[])
 |⟨some d,.bsrd _ _ parts,none⟩=>some (d,qbz parts)
 |⟨some d,.fcl _ _ args _ _,none⟩=>some (d,qbz args)
 |_=>none
def qiY:IOp→Bool
 |.pcall ..=>false
 |.pcv ..=>false
 |_=>true
def qhe (b:Bool):IOp→Bool
 |.ld ..=>false
 |.ldn ..=>false
 |.ldg ..=>false
 |.pcall ..=>false
 |.pcv ..=>false
 |.mpl ..=>false
 |.mplk ..=>false
 |.mpn ..=>false
 |.ldl ..=>b
 |_=>true
def isSr:IOper→Option (List Nat)
 |⟨none,.st _ p x,none⟩=>some (qaT p++qaT x)
 |_=>none
def nol:IOp→Bool
 |.mov ..|.nli ..|.pick ..|.bin ..|.bnb ..|.eqa ..|.not ..|.neg ..|.sln ..|.mx ..|.mn ..|.idx ..|.ssl ..|.vsl ..|.fla ..|.fld ..|.ext ..|.bld ..|.bldg ..|.cvi ..|.cvs ..|.bsl ..|.nck ..=>true
 |_=>false
def isAp:IOper→Option (Nat×List Nat)
 |⟨some d,.app _ _ _ x y,none⟩=>some (d,qaT x++qaT y)
 |_=>none
def isSk:IOper→Option (Nat×List Nat)
 |⟨none,.stk n _ p x,none⟩=>some (n,qaT p++qaT x)
 |⟨none,.mpk n m k v,none⟩=>some (n,qaT m++qaT k++qaT v)
 |_=>none
def nolN (n:Nat):IOp→Bool
 |.ldn m ..=>m == n
 |.ixa ..=>true
 |op=>nol op
def qtD:IOp→Bool
 |.mov ..|.bin ..|.sln ..|.len ..|.ssl ..|.fla ..|.nck ..|.ld ..|.ldl ..|.ixa ..|.bsl ..=>true
 |_=>false
def sepI (x i:IOper) (rx ri:List Nat):Bool:=
 (match x.dst with|some d=>!ri.contains d|none=>true) && (match i.dst with|some d=>!rx.contains d|none=>true) && (match x.dst,i.dst with|some d,some e=>d != e|_,_=>true)
def qgh (x i:IOper):Bool:=
 match qaP x,qaP i with
 |some rx,some ri=>sepI x i rx ri
 |some rx,none=>match isD i with
  |some (b,ri)=>qhe b x.op && sepI x i rx ri
  |none=>match isN i with
   |some (_,ri)=>qiY x.op && sepI x i rx ri
   |none=>match isSr i with
    |some ri=>nol x.op && sepI x i rx ri
    |none=>match isSk i with
     |some (n,ri)=>nolN n x.op && sepI x i rx ri
     |none=>false
 |none,some ri=>match isD x with
  |some (b,rx)=>qhe b i.op && sepI x i rx ri
  |none=>match isN x with
   |some (_,rx)=>qiY i.op && sepI x i rx ri
   |none=>match isSr x with
    |some rx=>nol i.op && sepI x i rx ri
    |none=>match isAp x with
     |some (_,rx)=>qtD i.op && (i.guard.isNone && sepI x i rx ri)
     |none=>false
 |none,none=>match isN x,isN i with
  |some (_,rx),some (_,ri)=>sepI x i rx ri
  |some (_,rx),none=>match isD i with
   |some (b,ri)=>b && sepI x i rx ri
   |none=>false
  |none,some (_,ri)=>match isD x with
   |some (b,rx)=>b && sepI x i rx ri
   |none=>false
  |none,none=>false
section
variable {P:Program} {E:Envt} {Y:List PV} {fr:List AV} {L:Objs}
theorem qap {d:Nat} {r:AV} {x:Opd} (h:d∉qaT x):rd (fr.set d r) x=rd fr x:=by
 cases x with
 |t i=>
  simp only [qaT,zu] at h
  simp only [rd,zC]
  rw [List.getElem?_set_ne h]
 |_=>rfl
theorem qlh {d:Nat} {r:AV} {x:Option Opd} (h:d∉optS x):x.map (rd (fr.set d r))=x.map (rd fr):=by
 cases x with
 |none=>rfl
 |some y=>simp only [zA];rw [qap h]
theorem qua {d:Nat} {r:AV}:∀ {ps:List (Nat×Nat×Opd)} {cs:List PV},d∉qkt ps→Zad (fr.set d r) cs ps=Zad fr cs ps:=by
 intro ps
 induction ps with
 |nil=>intros;rfl
 |cons p ps ih=>
  intro cs h
  obtain ⟨o,s,x⟩:=p
  simp only [qkt,zp,not_or] at h
  simp only [Zad]
  rw [qap h.1]
  split
  ·rw [ih h.2]
  ·rfl
theorem qub {d:Nat} {r:AV}:∀ {ps:List (Nat×Nat×Opd)} {cs:List CV},d∉qkt ps→Zae (fr.set d r) cs ps=Zae fr cs ps:=by
 intro ps
 induction ps with
 |nil=>intros;rfl
 |cons p ps ih=>
  intro cs h
  obtain ⟨o,s,x⟩:=p
  simp only [qkt,zp,not_or] at h
  simp only [Zae]
  rw [qap h.1]
  split
  ·rw [ih h.2]
  ·rw [ih h.2]
  ·rw [ih h.2]
  ·rfl
theorem qpH {d z:Nat} {r:AV}:∀ {ps:List Opd},d∉qbz ps→Zao (fr.set d r) z ps=Zao fr z ps:=by
 intro ps
 induction ps with
 |nil=>intros;rfl
 |cons x ps ih=>
  intro h
  simp only [qbz,zp,not_or] at h
  simp only [Zao]
  rw [qap h.1]
  split
  ·rw [ih h.2]
  ·rfl
theorem qig {d:Nat} {r:AV}:∀ {ps:List Opd},d∉qbz ps→Zm (fr.set d r) ps=Zm fr ps:=by
 intro ps
 induction ps with
 |nil=>intros;rfl
 |cons x ps ih=>
  intro h
  simp only [qbz,zp,not_or] at h
  simp only [Zm]
  rw [qap h.1,ih h.2]
theorem qie {d:Nat} {r:AV}:∀ {ps:List Opd},d∉qbz ps→Zn (fr.set d r) ps=Zn fr ps:=by
 intro ps
 induction ps with
 |nil=>intros;rfl
 |cons x ps ih=>
  intro h
  simp only [qbz,zp,not_or] at h
  have:=ih h.2
  simp only [Zn,zx] at this ⊢
  rw [qap h.1,this]
def core (P:Program) (E:Envt) (Y:List PV) (fr:List AV) (L:Objs):IOp→Option (Prop×AV)
 |.pcall n f args=>some (Zm fr args∧qg5 P E f (Zn fr args) L (·=Y.getD n (.bool false)),.p (Y.getD n (.bool false)))
 |.pcv n g args=>match Zar fr g with
  |some (f,ks)=>some ((rd fr g).un.1∧fnB P f=true∧Zl L ks=true∧Zm fr args∧qg5 P E f (Zn fr args++ks) L (·=Y.getD n (.bool false)),.p (Y.getD n (.bool false)))
  |none=>none
 |.pcl n f args=>match qdn (Zn fr args) with
  |some ps=>some (Zm fr args∧∀ L',qg5 P E f (ps.map .p) L' (·=Y.getD n (.bool false)),.p (Y.getD n (.bool false)))
  |none=>none
 |op=>Zf fr L op
set_option maxHeartbeats 2000000 in
theorem qpA {d:Nat} {r:AV} {op:IOp} {l:List Nat} (h:qbY op=some l) (hd:d∉l):core P E Y (fr.set d r) L op=core P E Y fr L op:=by
 cases op<;>simp only [qbY,zg,reduceCtorEq] at h<;>subst h<;>(try simp only [zp,not_or] at hd)
 case mov x=>simp only [core,Zf,qap hd]
 case pick c a b=>simp only [core,Zf,qap hd.1.1,qap hd.1.2,qap hd.2]
 case bin op x y=>simp only [core,Zf,qap hd.1,qap hd.2]
 case bnb op x y=>simp only [core,Zf,qap hd.1,qap hd.2]
 case eqa n k x y=>simp only [core,Zf,qap hd.1,qap hd.2]
 case not x=>simp only [core,Zf,qap hd]
 case neg x=>simp only [core,Zf,qap hd]
 case len x=>simp only [core,Zf,qap hd]
 case sln x=>simp only [core,Zf,qap hd]
 case mx x y=>simp only [core,Zf,qap hd.1,qap hd.2]
 case mn x y=>simp only [core,Zf,qap hd.1,qap hd.2]
 case idx x y=>simp only [core,Zf,qap hd.1,qap hd.2]
 case ssl x lo hi=>simp only [core,Zf,qap hd.1.1,qlh hd.1.2,qlh hd.2]
 case vsl z x lo hi=>simp only [core,Zf,qap hd.1.1,qlh hd.1.2,qlh hd.2]
 case ixa z x y=>simp only [core,Zf,qap hd.1,qap hd.2]
 case fla o x=>simp only [core,Zf,qap hd]
 case fld o s a x=>simp only [core,Zf,qap hd]
 case ld s a x=>simp only [core,Zf,qap hd]
 case ldl s a x=>simp only [core,Zf,qap hd]
 case ldn n s a x=>simp only [core,Zf,qap hd]
 case ext i x=>simp only [core,Zf,qap hd]
 case bld z ps=>simp only [core,Zf,qua hd]
 case bldg z ps=>simp only [core,Zf,qub hd]
 case ldg s x=>simp only [core,Zf,qap hd]
 case cvi k x=>simp only [core,Zf,qap hd]
 case cvs x=>simp only [core,Zf,qap hd]
 case b2s x=>simp only [core,Zf,qap hd]
 case bsl z ps=>simp only [core,Zf,qpH hd]
 case nck x=>simp only [core,Zf,qap hd]
 case nli n x=>simp only [core,Zf,qap hd]
 case mpn x=>simp only [core,Zf,qap hd]
 case mpl o z x y=>simp only [core,Zf,qap hd.1,qap hd.2]
 case mplk o ks z x y=>simp only [core,Zf,qap hd.1,qap hd.2]
 case pcall n f args=>simp only [core,qig hd,qie hd]
 case pcv n g args=>simp only [core,Zar,qap hd.1,qig hd.2,qie hd.2]
 case pcl n f args=>simp only [core,qig hd,qie hd]
def sx (P:Program) (E:Envt) (Y:List PV) (fr:List AV) (L:Objs) (i:IOper):Option (Prop×AV):=
 match i.guard with
 |none=>core P E Y fr L i.op
 |some (s,w)=>match Zh fr s w with
  |some c0=>(match core P E Y fr L i.op with|some q=>some (c0=true→q.1,.g c0 q.2)|none=>if qbW i.op=true then some (c0=false,.g c0 .any) else none)
  |none=>none
theorem qeI {d:Option Nat} {r:AV} {i:IOper} {l:List Nat} (h:qaP i=some l) (hd:∀ e,d=some e→e∉l):sx P E Y (Zg fr d r) L i=sx P E Y fr L i:=by
 cases d with
 |none=>rfl
 |some d=>
  have hd:=hd d rfl
  obtain ⟨l0,h1,rfl⟩:=zh.1 h
  simp only [zp,not_or] at hd
  unfold sx
  simp only [Zg]
  cases hg:i.guard with
  |none=>simp only;exact qpA h1 hd.1
  |some q=>
   obtain ⟨s,w⟩:=q
   rw [hg] at hd
   simp only
   have:Zh (fr.set d r) s w=Zh fr s w:=by
    unfold Zh
    rw [show (fr.set d r).getD s .any=fr.getD s .any from by simp only [zC];rw [List.getElem?_set_ne (by simpa using hd.2)]]
   rw [this,qpA h1 hd.1]
set_option maxHeartbeats 2000000 in
theorem qas {i:IOper} {is:List IOper} {K:List AV→Objs→Prop} (hr:(qaP i).isSome=true):qaa P E Y (i :: is) fr L K↔∃ c r,sx P E Y fr L i=some (c,r)∧c∧qaa P E Y is (Zg fr i.dst r) L K:=by
 obtain ⟨d,op,gd⟩:=i
 have hA:(qbY op).isSome=true:=by simpa [qaP] using hr
 cases gd with
 |none=>
  have key:∀ q:Option (Prop×AV),(∃ c r,q=some (c,r)∧c∧qaa P E Y is (Zg fr d r) L K)↔(match q with|some (c,r)=>c∧qaa P E Y is (Zg fr d r) L K|none=>False):=by
   intro q
   cases q with
   |none=>simp
   |some q=>
    obtain ⟨c,r⟩:=q
    simp only [zg,zj]
    exact ⟨fun ⟨_,_,⟨rfl,rfl⟩,h1,h2⟩=>⟨h1,h2⟩,fun ⟨h1,h2⟩=>⟨_,_,⟨rfl,rfl⟩,h1,h2⟩⟩
  have gen:∀ op:IOp,qaa P E Y (⟨d,op,none⟩ :: is) fr L K=(match Ze d fr L op with|some (c,fr',L')=>c∧qaa P E Y is fr' L' K|none=>False)→Ze d fr L op=(Zf fr L op).map (fun q=>(q.1,Zg fr d q.2,L))→core P E Y fr L op=Zf fr L op→(qaa P E Y (⟨d,op,none⟩ :: is) fr L K↔∃ c r,sx P E Y fr L ⟨d,op,none⟩=some (c,r)∧c∧qaa P E Y is (Zg fr d r) L K):=by
   intro op h1 h2 h3
   rw [h1,h2]
   simp only [sx,h3]
   rw [key]
   cases Zf fr L op with
   |none=>rfl
   |some q=>rfl
  cases op<;>simp only [qbY,zY,zZ,zK] at hA
  case pcall n f args=>
   simp only [qaa,sx,core]
   rw [key]
  case pcv n g args=>
   simp only [qaa,sx,core]
   rw [key]
   cases Zar fr g with
   |none=>rfl
   |some q=>rfl
  case pcl n f args=>
   simp only [qaa,sx,core]
   rw [key]
   cases qdn (Zn fr args) with
   |none=>rfl
   |some q=>rfl
  all_goals exact gen _ rfl rfl rfl
 |some sw=>
  obtain ⟨s,want⟩:=sw
  have gen:∀ op:IOp,qaa P E Y (⟨d,op,some (s,want)⟩ :: is) fr L K=(match Zh fr s want with|some c0=>(match Zf fr L op with|some (c,r)=>(c0=true→c)∧qaa P E Y is (Zg fr d (.g c0 r)) L K|none=>qbW op=true∧c0=false∧qaa P E Y is (Zg fr d (.g c0 .any)) L K)|none=>False)→core P E Y fr L op=Zf fr L op→(qaa P E Y (⟨d,op,some (s,want)⟩ :: is) fr L K↔∃ c r,sx P E Y fr L ⟨d,op,some (s,want)⟩=some (c,r)∧c∧qaa P E Y is (Zg fr d r) L K):=by
   intro op h1 h3
   rw [h1]
   simp only [sx,h3]
   cases Zh fr s want with
   |none=>simp
   |some c0=>
    cases Zf fr L op with
    |none=>
     cases hp:qbW op with
     |false=>simp
     |true=>
      simp only [if_true,zg,zj,true_and]
      exact ⟨fun ⟨h1,h2⟩=>⟨_,_,⟨rfl,rfl⟩,h1,h2⟩,fun ⟨_,_,⟨rfl,rfl⟩,h1,h2⟩=>⟨h1,h2⟩⟩
    |some q=>
     obtain ⟨c,r⟩:=q
     simp only [zg,zj]
     exact ⟨fun ⟨h1,h2⟩=>⟨_,_,⟨rfl,rfl⟩,h1,h2⟩,fun ⟨_,_,⟨rfl,rfl⟩,h1,h2⟩=>⟨h1,h2⟩⟩
  cases op<;>simp only [qbY,zY,zZ,zK] at hA
  case pcall n f args=>
   simp only [qaa,sx,core]
   cases Zh fr s want with
   |none=>simp
   |some c0=>
    simp only [zA,zg,zj]
    exact ⟨fun ⟨h1,h2⟩=>⟨_,_,⟨rfl,rfl⟩,h1,h2⟩,fun ⟨_,_,⟨rfl,rfl⟩,h1,h2⟩=>⟨h1,h2⟩⟩
  case pcv n g args=>
   simp only [qaa,sx,core]
   cases Zh fr s want with
   |none=>simp
   |some c0=>
    cases Zar fr g with
    |none=>simp [qbW]
    |some q=>
     simp only [zg,zj]
     exact ⟨fun ⟨h1,h2⟩=>⟨_,_,⟨rfl,rfl⟩,h1,h2⟩,fun ⟨_,_,⟨rfl,rfl⟩,h1,h2⟩=>⟨h1,h2⟩⟩
  case pcl n f args=>
   simp only [qaa,sx,core]
   cases Zh fr s want with
   |none=>simp
   |some c0=>
    cases qdn (Zn fr args) with
    |none=>simp [qbW]
    |some q=>
     simp only [zg,zj]
     exact ⟨fun ⟨h1,h2⟩=>⟨_,_,⟨rfl,rfl⟩,h1,h2⟩,fun ⟨_,_,⟨rfl,rfl⟩,h1,h2⟩=>⟨h1,h2⟩⟩
  all_goals exact gen _ rfl rfl
theorem qbc {x i:IOper} {rx ri:List Nat} (h:sepI x i rx ri=true):(∀ d,x.dst=some d→d∉ri)∧(∀ d,i.dst=some d→d∉rx)∧(∀ d e,x.dst=some d→i.dst=some e→d≠e):=by
 simp only [sepI,zi] at h
 refine ⟨fun d hd=>?_,fun d hd=>?_,fun d e hd he=>?_⟩
 ·have:=h.1.1;rw [hd] at this;simpa using this
 ·have:=h.1.2;rw [hd] at this;simpa using this
 ·have:=h.2;rw [hd,he] at this;simpa using this
theorem qm8 {i:IOper} {b:Bool} {l:List Nat} (h:isD i=some (b,l)):∃ d f args,i=⟨d,.dcall b f args,none⟩∧l=qbz args:=by
 unfold isD at h
 split at h
 ·simp only [zg,zj] at h
  obtain ⟨rfl,rfl⟩:=h
  exact ⟨_,_,_,rfl,rfl⟩
 ·cases h
theorem qrH {i:IOper} {l:List Nat} (h:isSr i=some l):∃ sz p y,i=⟨none,.st sz p y,none⟩∧l=qaT p++qaT y:=by
 unfold isSr at h
 split at h
 ·cases h;exact ⟨_,_,_,rfl,rfl⟩
 ·cases h
theorem qwd {i:IOper} {q:Nat} {l:List Nat} (h:isAp i=some (q,l)):∃ d e z b u v,i=⟨some d,.app e z b u v,none⟩∧l=qaT u++qaT v∧q=d:=by
 unfold isAp at h
 split at h
 ·cases h;exact ⟨_,_,_,_,_,_,rfl,rfl,rfl⟩
 ·cases h
set_option maxHeartbeats 2000000 in
theorem qjZ {x i:IOper} (h:qgh x i=true) :
  (∃ rx ri,qaP x=some rx∧qaP i=some ri∧sepI x i rx ri=true)∨
  (∃ rx b d f args,qaP x=some rx∧i=⟨d,.dcall b f args,none⟩∧qhe b x.op=true∧sepI x i rx (qbz args)=true)∨
  (∃ ri b d f args,qaP i=some ri∧x=⟨d,.dcall b f args,none⟩∧qhe b i.op=true∧sepI x i (qbz args) ri=true)∨
  (∃ rx d ri,qaP x=some rx∧isN i=some (d,ri)∧qiY x.op=true∧sepI x i rx ri=true)∨
  (∃ d rx ri,isN x=some (d,rx)∧qaP i=some ri∧qiY i.op=true∧sepI x i rx ri=true)∨
  (∃ d rx e ri,isN x=some (d,rx)∧isN i=some (e,ri)∧sepI x i rx ri=true)∨
  (∃ d rx e f args,isN x=some (d,rx)∧i=⟨e,.dcall true f args,none⟩∧sepI x i rx (qbz args)=true)∨
  (∃ d f args e ri,x=⟨d,.dcall true f args,none⟩∧isN i=some (e,ri)∧sepI x i (qbz args) ri=true)∨
  (∃ rx sz p y,qaP x=some rx∧i=⟨none,.st sz p y,none⟩∧nol x.op=true∧sepI x i rx (qaT p++qaT y)=true)∨
  (∃ ri sz p y,qaP i=some ri∧x=⟨none,.st sz p y,none⟩∧nol i.op=true∧sepI x i (qaT p++qaT y) ri=true)∨
  (∃ ri d e z b u v,qaP i=some ri∧x=⟨some d,.app e z b u v,none⟩∧qtD i.op=true∧i.guard=none∧sepI x i (qaT u++qaT v) ri=true)∨
  (∃ rx n ri,qaP x=some rx∧isSk i=some (n,ri)∧nolN n x.op=true∧sepI x i rx ri=true):=by
 unfold qgh at h
 split at h
 ·rename_i rx ri h1 h2;exact .inl ⟨rx,ri,h1,h2,h⟩
 ·rename_i rx h1 h2
  split at h
  ·rename_i b l e
   obtain ⟨d,f,args,rfl,rfl⟩:=qm8 e
   simp only [zi] at h
   exact .inr (.inl ⟨rx,b,d,f,args,h1,rfl,h.1,h.2⟩)
  ·split at h
   ·rename_i q ri e
    simp only [zi] at h
    exact .inr (.inr (.inr (.inl ⟨rx,_,ri,h1,e,h.1,h.2⟩)))
   ·split at h
    ·rename_i ri e
     obtain ⟨sz,p,y,rfl,rfl⟩:=qrH e
     simp only [zi] at h
     exact .inr (.inr (.inr (.inr (.inr (.inr (.inr (.inr (.inl ⟨rx,_,_,_,h1,rfl,h.1,h.2⟩))))))))
    ·split at h
     ·rename_i n ri e
      simp only [zi] at h
      exact .inr (.inr (.inr (.inr (.inr (.inr (.inr (.inr (.inr (.inr (.inr ⟨rx,_,_,h1,e,h.1,h.2⟩))))))))))
     ·cases h
 ·rename_i ri h1 h2
  split at h
  ·rename_i b l e
   obtain ⟨d,f,args,rfl,rfl⟩:=qm8 e
   simp only [zi] at h
   exact .inr (.inr (.inl ⟨ri,b,d,f,args,h2,rfl,h.1,h.2⟩))
  ·split at h
   ·rename_i q rx e
    simp only [zi] at h
    exact .inr (.inr (.inr (.inr (.inl ⟨_,rx,ri,e,h2,h.1,h.2⟩))))
   ·split at h
    ·rename_i rx e
     obtain ⟨sz,p,y,rfl,rfl⟩:=qrH e
     simp only [zi] at h
     exact .inr (.inr (.inr (.inr (.inr (.inr (.inr (.inr (.inr (.inl ⟨ri,_,_,_,h2,rfl,h.1,h.2⟩)))))))))
    ·split at h
     ·rename_i q rx e
      obtain ⟨d,e',z,b,u,v,rfl,rfl,rfl⟩:=qwd e
      simp only [zi,Option.isNone_iff_eq_none] at h
      exact .inr (.inr (.inr (.inr (.inr (.inr (.inr (.inr (.inr (.inr (.inl ⟨ri,_,_,_,_,_,_,h2,rfl,h.1,h.2.1,h.2.2⟩))))))))))
     ·cases h
 ·split at h
  ·rename_i d rx e ri e1 e2
   exact .inr (.inr (.inr (.inr (.inr (.inl ⟨_,_,_,_,e1,e2,h⟩)))))
  ·rename_i d rx e1 e2
   split at h
   ·rename_i b ri e3
    obtain ⟨d,f,args,rfl,rfl⟩:=qm8 e3
    simp only [zi] at h
    obtain ⟨rfl,h⟩:=h
    exact .inr (.inr (.inr (.inr (.inr (.inr (.inl ⟨_,_,_,_,_,e1,rfl,h⟩))))))
   ·cases h
  ·rename_i d ri e1 e2
   split at h
   ·rename_i b rx e3
    obtain ⟨d,f,args,rfl,rfl⟩:=qm8 e3
    simp only [zi] at h
    obtain ⟨rfl,h⟩:=h
    exact .inr (.inr (.inr (.inr (.inr (.inr (.inr (.inl ⟨_,_,_,_,_,rfl,e2,h⟩)))))))
   ·cases h
  ·cases h
theorem qsS {k:Key} {cs cs':List AV} {t:TypeId} (hl:Zas L k=some (.box cs t)) (v:AV):Zw (Zat L k (.box cs' t)) v=Zw L v:=by
 cases v with
 |row k'=>
  simp only [Zw,qag]
  by_cases h:k'=k
  ·subst h;simp [hl]
  ·simp [h]
 |p x=>cases x<;>rfl
 |_=>rfl
theorem qty {k:Key} {cs cs':List AV} {t:TypeId} (hl:Zas L k=some (.box cs t)) (v:AV):Zay (Zat L k (.box cs' t)) v=Zay L v:=by
 cases v with
 |row k'=>
  simp only [Zay,qag]
  by_cases h:k'=k
  ·subst h;simp [hl]
  ·simp [h]
 |p x=>cases x<;>rfl
 |_=>rfl
theorem qpB {b:Bool} {op:IOp} {k:Key} {cs cs':List AV} {t:TypeId} (hf:qhe b op=true) (hr:(qbY op).isSome=true) (hl:Zas L k=some (.box cs t)) (hb:b=true→∃ j,k=.b j):core P E Y fr (Zat L k (.box cs' t)) op=core P E Y fr L op:=by
 cases op<;>simp only [qbY,zY,zZ,zK] at hr
 case ld=>simp [qhe] at hf
 case ldg=>simp [qhe] at hf
 case ldn=>simp [qhe] at hf
 case pcall=>simp [qhe] at hf
 case pcv=>simp [qhe] at hf
 case mpl=>simp [qhe] at hf
 case mplk=>simp [qhe] at hf
 case mpn=>simp [qhe] at hf
 case len x=>simp only [core,Zf,qty hl]
 case b2s x=>simp only [core,Zf,qsS hl]
 case ixa z x y=>
  simp only [core,Zf]
  split
  ·rfl
  ·rename_i k' _ _ _ _ _
   rw [qag]
   by_cases h:k'=k
   ·subst h;simp [hl]
   ·simp [h]
  ·rfl
 case ldl s a x=>
  simp only [qhe] at hf
  obtain ⟨j,rfl⟩:=hb hf
  simp only [core,Zf]
  split
  ·rfl
  ·rw [qag,if_neg (by simp)]
  ·rw [qag,if_neg (by simp)]
  ·rfl
 all_goals rfl
theorem qqO {b:Bool} {i:IOper} {k:Key} {cs cs':List AV} {t:TypeId} (hf:qhe b i.op=true) (hr:(qaP i).isSome=true) (hl:Zas L k=some (.box cs t)) (hb:b=true→∃ j,k=.b j):sx P E Y fr (Zat L k (.box cs' t)) i=sx P E Y fr L i:=by
 have hA:(qbY i.op).isSome=true:=by simpa [qaP] using hr
 unfold sx
 split
 ·exact qpB hf hA hl hb
 ·rw [qpB hf hA hl hb]
theorem qif {d:Option Nat} {r:AV} {ps:List Opd} (h:∀ e,d=some e→e∉qbz ps):Zm (Zg fr d r) ps=Zm fr ps:=by
 cases d with
 |none=>rfl
 |some e=>exact qig (h e rfl)
theorem qid {d:Option Nat} {r:AV} {ps:List Opd} (h:∀ e,d=some e→e∉qbz ps):Zn (Zg fr d r) ps=Zn fr ps:=by
 cases d with
 |none=>rfl
 |some e=>exact qie (h e rfl)
theorem qdc {d e:Option Nat} {r q:AV} (h:∀ a b,d=some a→e=some b→a≠b):Zg (Zg fr d r) e q=Zg (Zg fr e q) d r:=by
 cases d with
 |none=>rfl
 |some d=>cases e with
  |none=>rfl
  |some e=>simp only [Zg];rw [List.set_comm _ _ (h d e rfl rfl)]
theorem qjy {K:Key} {es:List (List AV)} (h:∀ x∈es,∀ y∈x,y.kill K=y) (i o:Nat):((es.getD i []).getD o .any).kill K=(es.getD i []).getD o .any:=by
 rw [zC,zC]
 cases hq:es[i]? with
 |none=>simp [AV.kill]
 |some q=>
  simp only [Option.getD_some]
  cases hx:q[o]? with
  |none=>simp [AV.kill]
  |some y=>simpa using h q (zn hq) y (zn hx)
theorem qv5 {K:Key} {kv:List (List UInt8×AV)} {s:List UInt8} {z:AV} (h:∀ x∈kv,x.2.kill K=x.2) (hz:z.kill K=z):((mpF kv s).getD z).kill K=(mpF kv s).getD z:=by
 induction kv with
 |nil=>simpa [mpF] using hz
 |cons p r ih=>
  simp only [mpF]
  split
  ·simpa using h p (by simp)
  ·exact ih fun x hx=>h x (by simp [hx])
set_option maxHeartbeats 2000000 in
theorem qpC {K:Key} {op:IOp} {c:Prop} {r:AV} (hr:(qbY op).isSome=true) (hF:fr.map (·.kill K)=fr) (hL:Zau K L=L) (h:core P E Y fr L op=some (c,r)):r.kill K=r:=by
 cases op<;>simp only [qbY,zY,zZ,zK] at hr<;>simp only [core,Zf] at h
 case mov x=>cases h;exact qmO hF x
 case ixa z x y=>
  split at h
  ·split at h
   ·cases h;rfl
   ·cases h
  ·rename_i c1 k c2 y1 n e1 e2
   split at h
   ·split at h
    ·cases h;exact qlj (qfB (qcd hF e1))
    ·cases h
   ·split at h
    ·cases h;exact qlj (qfB (qcd hF e1))
    ·cases h
   ·cases h
  ·cases h
 case fla o x=>
  split at h
  ·rename_i e;cases h;exact qoN (qkV (qdE hF e))
  ·rename_i e;cases h;exact qlj (qmP (qdE hF e))
  ·cases h;rfl
  ·cases h
 case nli n x=>
  split at h
  ·obtain ⟨b,_,e2⟩:=zh.1 h
   simp only [zj] at e2
   obtain ⟨_,rfl⟩:=e2
   rfl
  ·cases h
 case nck x=>
  split at h
  ·rename_i e;cases h;exact qoN (qkV (qdE hF e))
  ·rename_i e;cases h;exact qlj (qmP (qdE hF e))
  ·cases h;rfl
  ·cases h
 case ld sz ag x=>
  split at h
  ·split at h
   ·cases h;rfl
   ·cases h
  ·split at h
   ·split at h
    ·cases h;rfl
    ·cases h
   ·rename_i es t z' hl
    split at h
    ·cases h
     have hh:=rowv_fix.1 (qaV hL hl)
     exact qjy hh _ _
    ·cases h
   ·cases h
  ·split at h
   ·rename_i cs t hl
    split at h
    ·split at h
     ·obtain ⟨q,_,e⟩:=zh.1 h;cases e;rfl
     ·cases h
      exact qlL (box_fix.1 (qaV hL hl))
    ·cases h
   ·cases h
  ·cases h
 case ldl sz ag x=>
  split at h
  ·split at h
   ·cases h;rfl
   ·cases h
  ·split at h
   ·split at h
    ·cases h;rfl
    ·cases h
   ·rename_i es t z' hl
    split at h
    ·cases h
     have hh:=rowv_fix.1 (qaV hL hl)
     exact qjy hh _ _
    ·cases h
   ·cases h
  ·split at h
   ·rename_i cs t hl
    split at h
    ·split at h
     ·obtain ⟨q,_,e⟩:=zh.1 h;cases e;rfl
     ·cases h
      exact qlL (box_fix.1 (qaV hL hl))
    ·cases h
   ·cases h
  ·cases h
 case ldn n sz ag x=>
  split at h
  ·split at h
   ·cases h;rfl
   ·cases h
  ·split at h
   ·cases h
   ·split at h
    ·split at h
     ·cases h;rfl
     ·cases h
    ·rename_i es t z' hl
     split at h
     ·cases h
      have hh:=rowv_fix.1 (qaV hL hl)
      exact qjy hh _ _
     ·cases h
    ·cases h
  ·split at h
   ·cases h
   ·split at h
    ·rename_i cs t hl
     split at h
     ·split at h
      ·obtain ⟨q,_,e⟩:=zh.1 h;cases e;rfl
      ·cases h
       exact qlL (box_fix.1 (qaV hL hl))
     ·cases h
    ·cases h
  ·cases h
 case ldg sz x=>
  split at h
  ·split at h
   ·rename_i cs t hl
    split at h
    ·obtain ⟨q,e1,e⟩:=zh.1 h
     cases e
     exact ag_fix.2 (qmg e1 (fun y hy=>box_fix.1 (qaV hL hl) y (List.mem_of_mem_drop (List.mem_of_mem_take hy))))
    ·cases h
   ·cases h
  ·cases h
 case bldg zero ps=>
  obtain ⟨q,e1,e⟩:=zh.1 h
  cases e
  exact ag_fix.2 (qjn hF e1 (anyK_false.2 fun x hx=>by obtain ⟨y,_,rfl⟩:=zE.1 hx;rfl))
 case mpl ok zero m k=>
  split at h
  ·split at h
   ·cases h;rfl
   ·rename_i hl
    split at h
    ·cases h
     exact qv5 (mapv_fix.1 (qaV hL hl)) rfl
    ·cases h
   ·cases h
  ·cases h;rfl
  ·cases h
 case ext i x=>
  split at h
  ·split at h
   ·cases h;rfl
   ·cases h
  ·rename_i e
   split at h
   ·cases h
    exact qjz (qyt (qcd hF e))
   ·obtain ⟨q,_,e⟩:=zh.1 h;cases e;rfl
  ·cases h
 all_goals first
  |(cases h;rfl)
  |(obtain ⟨q,_,e⟩:=zh.1 h;cases e;rfl)
  |((repeat' split at h)<;>first|(cases h;rfl)|(cases h;done)|(obtain ⟨q,_,e⟩:=zh.1 h;cases e;rfl))
theorem qqP {K:Key} {i:IOper} {c:Prop} {r:AV} (hr:(qaP i).isSome=true) (hF:fr.map (·.kill K)=fr) (hL:Zau K L=L) (h:sx P E Y fr L i=some (c,r)):r.kill K=r:=by
 have hA:(qbY i.op).isSome=true:=by simpa [qaP] using hr
 unfold sx at h
 split at h
 ·exact qpC hA hF hL h
 ·split at h
  ·split at h
   ·rename_i q e
    cases h
    have:=qpC (P:=P) (E:=E) (Y:=Y) (c:=q.1) (r:=q.2) hA hF hL e
    simp only [AV.kill,this]
   ·split at h
    ·cases h;rfl
    ·cases h
  ·cases h
theorem qq2 {K:Key} {a:AO} {v:AV} (h:v.kill K=v):Zw (Zat L K a) v=Zw L v:=by
 cases v with
 |row k'=>simp only [Zw,qag,if_neg (qfB h)]
 |p x=>cases x<;>rfl
 |_=>rfl
theorem qrz {K:Key} {a:AO} {v:AV} (h:v.kill K=v):Zay (Zat L K a) v=Zay L v:=by
 cases v with
 |row k'=>simp only [Zay,qag,if_neg (qfB h)]
 |p x=>cases x<;>rfl
 |_=>rfl
theorem qnm {K:Key} {a:AO} {op:IOp} (hf:qiY op=true) (hr:(qbY op).isSome=true) (hF:fr.map (·.kill K)=fr):core P E Y fr (Zat L K a) op=core P E Y fr L op:=by
 cases op<;>simp only [qbY,zY,zZ,zK] at hr
 case pcall=>simp [qiY] at hf
 case pcv=>simp [qiY] at hf
 case len x=>simp only [core,Zf,qrz (qo0 (qmO hF x))]
 case b2s x=>simp only [core,Zf,qq2 (qo0 (qmO hF x))]
 case ixa z x y=>
  simp only [core,Zf]
  split
  ·rfl
  ·rename_i e1 e2
   rw [qag,if_neg (qfB (qcd hF e1))]
  ·rfl
 case ld s ag x=>
  simp only [core,Zf]
  split
  ·rfl
  ·rename_i e
   rw [qag,if_neg (qmP (qdE hF e))]
  ·rename_i e
   rw [qag,if_neg (qkV (qdE hF e))]
  ·rfl
 case ldl s ag x=>
  simp only [core,Zf]
  split
  ·rfl
  ·rename_i e
   rw [qag,if_neg (qmP (qdE hF e))]
  ·rename_i e
   rw [qag,if_neg (qkV (qdE hF e))]
  ·rfl
 case ldn n s ag x=>
  simp only [core,Zf]
  split
  ·rfl
  ·rename_i e
   rw [qag,if_neg (qmP (qdE hF e))]
  ·rename_i e
   rw [qag,if_neg (qkV (qdE hF e))]
  ·rfl
 case ldg s x=>
  simp only [core,Zf]
  split
  ·rename_i e
   rw [qag,if_neg (qkV (qdE hF e))]
  ·rfl
 case mpl o z x y=>
  simp only [core,Zf]
  split
  ·rename_i e1 e2
   rw [qag,if_neg (qrt (qcd hF e1))]
  ·rfl
  ·rfl
 case mplk o ks z x y=>
  simp only [core,Zf]
  split
  ·rename_i e1 e2
   rw [qag,if_neg (qrt (qcd hF e1))]
  ·rfl
  ·rfl
 case mpn x=>
  simp only [core,Zf]
  split
  ·rename_i e1
   rw [qag,if_neg (qrt (qcd hF e1))]
  ·rfl
  ·rfl
 all_goals rfl
theorem qnW {K:Key} {a:AO} {i:IOper} (hf:qiY i.op=true) (hr:(qaP i).isSome=true) (hF:fr.map (·.kill K)=fr):sx P E Y fr (Zat L K a) i=sx P E Y fr L i:=by
 have hA:(qbY i.op).isSome=true:=by simpa [qaP] using hr
 unfold sx
 split
 ·exact qnm hf hA hF
 ·rw [qnm hf hA hF]
def nx (P:Program) (E:Envt) (Y:List PV) (fr:List AV):IOper→Option (Prop×AV×AO)
 |⟨some d,.alcd t zero,none⟩=>some (True,.adr (.l d) 0,.box (zero.map .p) t)
 |⟨some d,.bsrd e z parts,none⟩=>if qkz parts=true then none else (Zao fr z parts).map fun q=>(q.1,.row (.l d),.row q.2 e z true)
 |⟨some d,.fcl n f args e z,none⟩=>match qdn (Zn fr args),Y.getD n (.bool false) with
  |some ps,.sl z' es=>some (Zm fr args∧z'=z∧FrC P E f ps e z es,.row (.l d),.row es e z true)
  |_,_=>none
 |_=>none
theorem qkI {i:IOper} {d:Nat} {l:List Nat} (h:isN i=some (d,l)):(∃ t zero,i=⟨some d,.alcd t zero,none⟩∧l=[])∨(∃ e z parts,i=⟨some d,.bsrd e z parts,none⟩∧l=qbz parts)∨∃ n f args e z,i=⟨some d,.fcl n f args e z,none⟩∧l=qbz args:=by
 unfold isN at h
 split at h
 ·cases h;exact .inl ⟨_,_,rfl,rfl⟩
 ·cases h;exact .inr (.inl ⟨_,_,_,rfl,rfl⟩)
 ·cases h;exact .inr (.inr ⟨_,_,_,_,_,rfl,rfl⟩)
 ·cases h
theorem qfO {i:IOper} {d:Nat} {l:List Nat} (h:isN i=some (d,l)):i.dst=some d:=by
 rcases qkI h with ⟨t,zero,rfl,_⟩|⟨e,z,parts,rfl,_⟩|⟨n,f,args,e,z,rfl,_⟩<;>rfl
theorem qaA {i:IOper} {is:List IOper} {K:List AV→Objs→Prop} {d:Nat} {l:List Nat} (hi:isN i=some (d,l)):qaa P E Y (i :: is) fr L K↔(Zam d fr L∧Zas L (.l d)=some Zan)∧∃ c r ao,nx P E Y fr i=some (c,r,ao)∧c∧qaa P E Y is (fr.set d r) (Zat L (.l d) ao) K:=by
 rcases qkI hi with ⟨t,zero,rfl,_⟩|⟨e,z,parts,rfl,_⟩|⟨n,f,args,e,z,rfl,_⟩
 ·simp only [qaa,Ze,nx,zg,zj]
  exact ⟨fun ⟨h1,h2⟩=>⟨h1,_,_,_,⟨rfl,rfl,rfl⟩,trivial,h2⟩,fun ⟨h1,_,_,_,⟨rfl,rfl,rfl⟩,_,h2⟩=>⟨h1,h2⟩⟩
 ·simp only [qaa,Ze,nx]
  cases Zao fr z parts with
  |none=>simp
  |some q=>
   obtain ⟨c,es⟩:=q
   cases qkz parts
   rotate_left
   ·simp
   simp only [zA,zg,zj,zK,if_false]
   exact ⟨fun ⟨⟨h1,hc⟩,h2⟩=>⟨h1,_,_,_,⟨rfl,rfl,rfl⟩,hc,h2⟩,fun ⟨h1,_,_,_,⟨rfl,rfl,rfl⟩,hc,h2⟩=>⟨⟨h1,hc⟩,h2⟩⟩
 ·simp only [qaa,nx]
  cases qdn (Zn fr args) with
  |none=>simp
  |some ps=>
   cases Y.getD n (.bool false) with
   |sl z' es=>
    simp only [zg,zj]
    exact ⟨fun ⟨⟨h1,hc⟩,h2⟩=>⟨h1,_,_,_,⟨rfl,rfl,rfl⟩,hc,h2⟩,fun ⟨h1,_,_,_,⟨rfl,rfl,rfl⟩,hc,h2⟩=>⟨⟨h1,hc⟩,h2⟩⟩
   |_=>simp
theorem qha {i:IOper} {d:Nat} {l:List Nat} {e:Option Nat} {q:AV} (hi:isN i=some (d,l)) (he:∀ x,e=some x→x∉l):nx P E Y (Zg fr e q) i=nx P E Y fr i:=by
 cases e with
 |none=>rfl
 |some e=>
  have he:=he e rfl
  rcases qkI hi with ⟨t,zero,rfl,_⟩|⟨e',z,parts,rfl,rfl⟩|⟨n,f,args,e',z,rfl,rfl⟩
  ·rfl
  ·simp only [nx,Zg]
   rw [qpH he]
  ·simp only [nx,Zg]
   rw [qig he,qie he]
theorem quK {i:IOper} {d e:Nat} {l:List Nat} {c:Prop} {r:AV} {ao:AO} (hi:isN i=some (d,l)) (hne:d≠e) (h:nx P E Y fr i=some (c,r,ao)):r.kill (.l e)=r∧ao.kill (.l e)=ao:=by
 rcases qkI hi with ⟨t,zero,rfl,_⟩|⟨e',z,parts,rfl,rfl⟩|⟨n,f,args,e',z,rfl,rfl⟩
 rotate_right
 ·simp only [nx] at h
  split at h
  ·simp only [zg,zj] at h
   obtain ⟨_,rfl,rfl⟩:=h
   exact ⟨qjz (by simpa using hne),rfl⟩
  ·cases h
 ·simp only [nx,zg,zj] at h
  obtain ⟨_,rfl,rfl⟩:=h
  exact ⟨qoN (by simpa using hne),box_fix.2 (fun x hx=>by obtain ⟨y,_,rfl⟩:=zE.1 hx;rfl)⟩
 ·simp only [nx] at h
  split at h
  ·cases h
  simp only [zh,zj] at h
  obtain ⟨q,_,_,rfl,rfl⟩:=h
  exact ⟨qjz (by simpa using hne),rfl⟩
theorem qn1 {K:Key} {d:Option Nat} {r:AV} (hF:fr.map (·.kill K)=fr) (hr:r.kill K=r):(Zg fr d r).map (·.kill K)=Zg fr d r:=by
 cases d with
 |none=>exact hF
 |some d=>simp only [Zg,List.map_set,hF,hr]
theorem Zam.put {d:Nat} {e:Option Nat} {r:AV} {k:Key} {a:AO} (h:Zam d fr L) (hr:r.kill (.l d)=r) (ha:a.kill (.l d)=a):Zam d (Zg fr e r) (Zat L k a):=⟨qn1 h.1 hr,qdq h.2 ha⟩
theorem Zam.set {d:Nat} {e:Option Nat} {r:AV} (h:Zam d fr L) (hr:r.kill (.l d)=r):Zam d (Zg fr e r) L:=⟨qn1 h.1 hr,h.2⟩
theorem qia {K:Key} {cs:List PV} {t:TypeId}:(AO.box (cs.map .p) t).kill K=.box (cs.map .p) t:=box_fix.2 (fun x hx=>by obtain ⟨y,_,rfl⟩:=zE.1 hx;rfl)
def stx (fr:List AV) (L:Objs) (sz:Nat) (p x:Opd):Option (Prop×Objs):=(Ze none fr L (.st sz p x)).map fun q=>(q.1,q.2.2)
theorem qiG {K:Key} {es:List (List AV)} {e z z0 i o:Nat} {ds:List AV} (h:(AO.rowv es e z0).kill K=.rowv es e z0) (hd:∀ x∈ds,x.kill K=x):(AO.rowv (es.set i (Zac (es.getD i []) o ds)) e z).kill K=.rowv (es.set i (Zac (es.getD i []) o ds)) e z:=by
 rw [rowv_fix] at h ⊢
 intro x hx
 rcases z8 hx with hx|rfl
 ·exact h x hx
 ·refine qcw (fun y hy=>?_) hd
  rw [zC] at hy
  cases hg:es[i]? with
  |none=>rw [hg] at hy;cases hy
  |some q=>rw [hg] at hy;exact h q (zn hg) y hy
set_option maxHeartbeats 2000000 in
theorem quH {d:Option Nat} {sz:Nat} {p x:Opd} {c:Prop} {fr':List AV} {L':Objs} (h:Ze d fr L (.st sz p x)=some (c,fr',L')):fr'=fr∧∀ K:Key,fr.map (·.kill K)=fr→Zau K L=L→Zau K L'=L':=by
 simp only [Ze] at h
 split at h
 ·split at h
  ·rename_i hl
   split at h
   ·cases h
    exact ⟨rfl,fun K hF hL=>qdq hL (box_fix.2 (qcw (box_fix.1 (qaV hL hl)) (fun x hx=>by obtain ⟨y,_,rfl⟩:=zE.1 hx;rfl)))⟩
   ·cases h
  ·cases h
 ·rename_i e1 e2
  split at h
  ·rename_i hl
   split at h
   ·cases h
    exact ⟨rfl,fun K hF hL=>qdq hL (box_fix.2 (qcw (box_fix.1 (qaV hL hl)) (fun x hx=>by simp only [zu] at hx;subst hx;exact qcd hF e2)))⟩
   ·cases h
  ·cases h
 ·rename_i e1 e2
  split at h
  ·rename_i hl hl2
   split at h
   ·cases h
    exact ⟨rfl,fun K hF hL=>qdq hL (box_fix.2 (qcw (box_fix.1 (qaV hL hl)) (fun x hx=>by simp only [zu] at hx;subst hx;exact qcd hF e2)))⟩
   ·cases h
  ·cases h
 ·rename_i e1 e2
  split at h
  ·rename_i hl
   split at h
   ·cases h
    exact ⟨rfl,fun K hF hL=>qdq hL (box_fix.2 (qcw (box_fix.1 (qaV hL hl)) (fun x hx=>by simp only [zu] at hx;subst hx;rfl)))⟩
   ·cases h
  ·cases h
 ·split at h
  ·split at h
   ·cases h
    exact ⟨rfl,fun K hF hL=>qdq hL rfl⟩
   ·cases h
  ·rename_i hl
   split at h
   ·cases h
    exact ⟨rfl,fun K hF hL=>qdq hL (qiG (z0:=_) (qaV hL hl) (fun x hx=>by obtain ⟨y,_,rfl⟩:=zE.1 hx;rfl))⟩
   ·cases h
  ·cases h
 ·rename_i e1 e2
  split at h
  ·rename_i hl
   split at h
   ·cases h
    exact ⟨rfl,fun K hF hL=>qdq hL (qiG (z0:=_) (qaV hL hl) (fun x hx=>by simp only [zu] at hx;subst hx;exact qcd hF e2))⟩
   ·cases h
  ·cases h
 ·cases h
theorem qaQ {sz:Nat} {p x:Opd} {is:List IOper} {K:List AV→Objs→Prop}:qaa P E Y (⟨none,.st sz p x,none⟩ :: is) fr L K↔∃ c L',stx fr L sz p x=some (c,L')∧c∧qaa P E Y is fr L' K:=by
 simp only [qaa,stx]
 cases hq:Ze none fr L (.st sz p x) with
 |none=>simp
 |some q=>
  obtain ⟨c,fr',L'⟩:=q
  obtain ⟨rfl,_⟩:=quH hq
  simp only [zA,zg,zj]
  exact ⟨fun ⟨h1,h2⟩=>⟨c,L',⟨rfl,rfl⟩,h1,h2⟩,fun ⟨_,_,⟨rfl,rfl⟩,h1,h2⟩=>⟨h1,h2⟩⟩
theorem qhH {sz:Nat} {p x:Opd} {d:Option Nat} {r:AV} (h:∀ e,d=some e→e∉qaT p++qaT x):stx (Zg fr d r) L sz p x=stx fr L sz p x:=by
 cases d with
 |none=>rfl
 |some e=>
  have:=h e rfl
  simp only [zp,not_or] at this
  simp only [stx,Zg,Ze,qap this.1,qap this.2]
  split
  ·split
   ·split<;>rfl
   ·rfl
  ·split
   ·split<;>rfl
   ·rfl
  ·split
   ·split<;>rfl
   ·rfl
  ·split
   ·split<;>rfl
   ·rfl
  ·split
   ·split<;>rfl
   ·split<;>rfl
   ·rfl
  ·split
   ·split<;>rfl
   ·rfl
  ·rfl
theorem quG {L':Objs} {i:IOper} (hf:nol i.op=true):sx P E Y fr L' i=sx P E Y fr L i:=by
 have e:core P E Y fr L' i.op=core P E Y fr L i.op:=by
  cases hq:i.op<;>rw [hq] at hf<;>simp only [nol,zK] at hf<;>rfl
 unfold sx
 rw [e]
theorem qlC (a:AV) (K:Key):(a.kill K).un=(a.un.1,a.un.2.kill K):=by
 induction a with
 |g c a ih=>simp only [AV.kill,AV.un,ih]
 |p x=>rfl
 |row k=>simp only [AV.kill];split<;>simp [AV.un,AV.kill, *]
 |adr k o=>simp only [AV.kill];split<;>simp [AV.un,AV.kill, *]
 |rad k z i o=>simp only [AV.kill];split<;>simp [AV.un,AV.kill, *]
 |ipt z es i o=>rfl
 |mp k=>simp only [AV.kill];split<;>simp [AV.un,AV.kill, *]
 |fn f ks=>simp only [AV.kill];split<;>simp [AV.un,AV.kill, *]
 |ag cs=>simp only [AV.kill];split<;>simp [AV.un,AV.kill, *]
 |tr k ps=>simp only [AV.kill];split<;>simp [AV.un,AV.kill, *]
 |any=>rfl
theorem qpl (a:AV) (K:Key):(a.kill K).un.1=a.un.1:=by rw [qlC]
theorem qpk (a:AV) (K:Key):(a.kill K).un.2=a.un.2.kill K:=by rw [qlC]
theorem qxT {a:AV} {K:Key} {x:PV} (h:a.kill K=.p x):a=.p x:=by
 cases a<;>simp only [AV.kill,reduceCtorEq] at h
 case p=>exact h
 all_goals (split at h<;>cases h)
theorem qcb (K:Key) (x:Opd):rd (fr.map (·.kill K)) x=(rd fr x).kill K:=by
 cases x with
 |t i=>
  simp only [rd,zC,zy]
  cases fr[i]?<;>rfl
 |c x=>rfl
 |f n=>simp [rd,AV.kill]
 |gl g=>rfl
theorem qeH {a:AV} {K:Key} {c:Prop} {x:PV} (h:(a.kill K).un=(c,.p x)):a.un=(c,.p x):=by
 rw [qlC,zj] at h
 exact Prod.ext h.1 (qxT h.2)
theorem qnR {a:AV} {K k:Key} {c:Prop} (h:(a.kill K).un=(c,.row k)):a.un=(c,.row k)∧k≠K:=by
 rw [qlC,zj] at h
 obtain ⟨h1,h2⟩:=h
 generalize a.un=q at h1 h2 ⊢
 obtain ⟨q1,v⟩:=q
 simp only at h1 h2
 subst h1
 cases v<;>simp only [AV.kill,reduceCtorEq] at h2
 case row k'=>
  split at h2
  ·cases h2
  ·rename_i hk;cases h2;exact ⟨rfl,hk⟩
 all_goals (split at h2<;>cases h2)
theorem qpJ {n dflt:Nat} {K:Key} {h:Option Opd} {q:Prop×Nat} (hq:Zv n (h.map (rd (fr.map (·.kill K)))) dflt=some q):Zv n (h.map (rd fr)) dflt=some q:=by
 cases h with
 |none=>exact hq
 |some x=>
  simp only [zA,qcb] at hq ⊢
  simp only [Zv] at hq ⊢
  split at hq
  ·rename_i e1
   rw [qeH e1]
   exact hq
  ·cases hq
theorem qe6 {v:AV} {K k:Key} {o:Nat} (h:(v.kill K).ad=.adr k o):v.ad=.adr k o∧k≠K:=by
 cases v with
 |adr k' o'=>
  simp only [AV.kill] at h
  split at h
  ·cases h
  ·rename_i hk
   simp only [AV.ad,AV.adr.injEq] at h
   obtain ⟨rfl,rfl⟩:=h
   exact ⟨rfl,hk⟩
 |p x=>cases x<;>simp [AV.kill,AV.ad] at h
 |ipt z es i o'=>simp [AV.kill,AV.ad] at h
 |any=>simp [AV.kill,AV.ad] at h
 |g c a=>simp [AV.kill,AV.ad] at h
 |_=>simp only [AV.kill] at h;split at h<;>simp [AV.ad] at h
theorem qe4 {v:AV} {K k:Key} {z i o:Nat} (h:(v.kill K).ad=.rad k z i o):v.ad=.rad k z i o∧k≠K:=by
 cases v with
 |rad k' z' i' o'=>
  simp only [AV.kill] at h
  split at h
  ·cases h
  ·rename_i hk
   simp only [AV.ad,AV.rad.injEq] at h
   obtain ⟨rfl,rfl,rfl,rfl⟩:=h
   exact ⟨rfl,hk⟩
 |p x=>cases x<;>simp [AV.kill,AV.ad] at h
 |ipt z es i o'=>simp [AV.kill,AV.ad] at h
 |any=>simp [AV.kill,AV.ad] at h
 |g c a=>simp [AV.kill,AV.ad] at h
 |_=>simp only [AV.kill] at h;split at h<;>simp [AV.ad] at h
theorem qe5 {v:AV} {K:Key} {z i o:Nat} {es:List (List PV)} (h:(v.kill K).ad=.ipt z es i o):v.ad=.ipt z es i o:=by
 cases v with
 |p x=>exact h
 |ipt z' es' i' o'=>exact h
 |any=>simp [AV.kill,AV.ad] at h
 |g c a=>simp [AV.kill,AV.ad] at h
 |_=>simp only [AV.kill] at h;split at h<;>simp [AV.ad] at h
theorem qja {a:AV} {K:Key}:(a.kill K).unA=(a.un.1,(a.un.2.kill K).ad):=by simp only [AV.unA,qpl,qpk]
theorem qj0 {K:Key}:∀ {l:List AV} {ps:List PV},Zx (l.map (·.kill K))=some ps→Zx l=some ps
 |[],_,h=>h
 |a :: r,ps,h=>by
  cases a with
  |p x=>
   simp only [zx,AV.kill,Zx] at h ⊢
   obtain ⟨q,h1,h2⟩:=zh.1 h
   rw [qj0 h1,zA,h2]
  |ipt z es i o=>simp [AV.kill,Zx] at h
  |any=>simp [AV.kill,Zx] at h
  |g c a=>simp [AV.kill,Zx] at h
  |_=>simp only [zx,AV.kill] at h;split at h<;>simp [Zx] at h
theorem qgA {K:Key} (cs:List AV) (o:Nat):(cs.map (·.kill K)).getD o .any=(cs.getD o .any).kill K:=by
 simp only [zC,zy]
 cases cs[o]?<;>rfl
theorem qkJ {K:Key} (es:List (List AV)) (i:Nat):(es.map (fun x=>x.map (·.kill K))).getD i []=(es.getD i []).map (·.kill K):=by
 simp only [zC,zy]
 cases es[i]?<;>rfl
theorem qde {K q:Key} {L L':Objs} {ao:AO} (hL:∀ q,q≠K→Zas L' q=(Zas L q).map (AO.kill K)) (hq:q≠K) (h:Zas L' q=some ao):∃ ao',Zas L q=some ao'∧ao=ao'.kill K:=by
 rw [hL q hq,zh] at h
 obtain ⟨x,h1,h2⟩:=h
 exact ⟨x,h1,h2.symm⟩
theorem qrA {K:Key} {L L':Objs} (hL:∀ q,q≠K→Zas L' q=(Zas L q).map (AO.kill K)) {v:AV} {n:Nat} (h:Zay L' (v.kill K)=some n):Zay L v=some n:=by
 cases v with
 |p x=>cases x<;>exact h
 |row k=>
  simp only [AV.kill] at h
  split at h
  ·simp [Zay] at h
  ·rename_i hk
   simp only [Zay] at h ⊢
   rw [hL k hk] at h
   cases hl:Zas L k with
   |none=>rw [hl] at h;simp at h
   |some ao=>
    rw [hl] at h
    cases ao<;>simp only [zA,AO.kill,zN,reduceCtorEq] at h ⊢<;>exact h
 |g c a=>simp [AV.kill,Zay] at h
 |any=>simp [AV.kill,Zay] at h
 |ipt z es i o=>simp [AV.kill,Zay] at h
 |_=>simp only [AV.kill] at h;split at h<;>simp [Zay] at h
theorem qnv {K:Key} {z:Nat}:∀ {ps:List Opd} {q:Prop×List (List PV)},Zao (fr.map (·.kill K)) z ps=some q→Zao fr z ps=some q
 |[],_,h=>h
 |x :: ps,_,h=>by
  simp only [Zao] at h ⊢
  rw [qcb] at h
  split at h
  ·rename_i e1
   rw [qeH e1]
   simp only
   split at h
   ·rename_i hc
    rw [if_pos hc]
    obtain ⟨q,h1,h2⟩:=zh.1 h
    rw [qnv h1,← h2]
    rfl
   ·cases h
  ·cases h
set_option maxHeartbeats 2000000 in
theorem qr3 {K:Key} {op:IOp} {c:Prop} {r:AV} {L':Objs} (hL:∀ q,q≠K→Zas L' q=(Zas L q).map (AO.kill K)) (hf:qtD op=true) (h:core P E Y (fr.map (·.kill K)) L' op=some (c,r)):∃ r',core P E Y fr L op=some (c,r')∧r'.kill K=r:=by
 cases op<;>simp only [qtD,zK] at hf
 case mov x=>
  simp only [core,Zf,qcb,zg,zj] at h ⊢
  exact ⟨_,⟨h.1,rfl⟩,h.2⟩
 case bin op x y=>
  simp only [core,Zf,qcb] at h ⊢
  split at h
  ·rename_i e1 e2
   rw [qeH e1,qeH e2]
   obtain ⟨q,h1,h2⟩:=zh.1 h
   simp only [zj] at h2
   obtain ⟨rfl,rfl⟩:=h2
   exact ⟨.p q.2,by simp only [h1,zA],rfl⟩
  ·cases h
 case bsl z ps=>
  simp only [core,Zf] at h ⊢
  obtain ⟨q,h1,h2⟩:=zh.1 h
  rw [qnv h1]
  cases h2
  exact ⟨_,rfl,rfl⟩
 case sln x=>
  simp only [core,Zf,qcb] at h ⊢
  split at h
  ·rename_i e1
   rw [qeH e1]
   cases h
   exact ⟨_,rfl,rfl⟩
  ·cases h
 case len x=>
  simp only [core,Zf,qcb,qpl,qpk] at h ⊢
  obtain ⟨n,h1,h2⟩:=zh.1 h
  rw [qrA hL h1]
  simp only [zj] at h2
  obtain ⟨rfl,rfl⟩:=h2
  exact ⟨_,rfl,rfl⟩
 case ssl x lo hi=>
  simp only [core,Zf] at h ⊢
  rw [qcb] at h
  split at h
  ·rename_i e1
   rw [qeH e1]
   simp only
   split at h
   ·rename_i e2
    rw [qpJ e2]
    simp only
    obtain ⟨q,h1,h2⟩:=zh.1 h
    rw [qpJ h1]
    cases h2
    exact ⟨_,rfl,rfl⟩
   ·cases h
  ·cases h
 case fla off x=>
  simp only [core,Zf] at h ⊢
  rw [qcb,qja] at h
  simp only [AV.unA]
  generalize (rd fr x).un.1=c0 at h ⊢
  generalize (rd fr x).un.2=v at h ⊢
  split at h
  ·rename_i e1
   obtain ⟨rfl,e2⟩:=Prod.mk.inj e1
   obtain ⟨e3,hk⟩:=qe6 e2
   cases h
   rw [e3]
   exact ⟨_,rfl,by simp only [AV.kill,if_neg hk]⟩
  ·rename_i e1
   obtain ⟨rfl,e2⟩:=Prod.mk.inj e1
   obtain ⟨e3,hk⟩:=qe4 e2
   cases h
   rw [e3]
   exact ⟨_,rfl,by simp only [AV.kill,if_neg hk]⟩
  ·rename_i e1
   obtain ⟨rfl,e2⟩:=Prod.mk.inj e1
   cases h
   rw [qe5 e2]
   exact ⟨_,rfl,rfl⟩
  ·cases h
 case ixa z x y=>
  simp only [core,Zf,qcb] at h ⊢
  split at h
  ·rename_i e1 e2
   rw [qeH e1,qeH e2]
   simp only
   split at h
   ·rename_i hz
    cases h
    exact ⟨_,by rw [if_pos hz],rfl⟩
   ·cases h
  ·rename_i e1 e2
   obtain ⟨e3,hk⟩:=qnR e1
   rw [e3,qeH e2]
   simp only
   split at h
   ·rename_i hl
    obtain ⟨ao,h1,h2⟩:=qde hL hk hl
    cases ao<;>simp only [AO.kill,reduceCtorEq,AO.row.injEq] at h2
    obtain ⟨rfl,rfl,rfl,rfl⟩:=h2
    rw [h1]
    simp only
    split at h
    ·rename_i hz
     cases h
     exact ⟨_,by rw [if_pos hz],by simp only [AV.kill,if_neg hk]⟩
    ·cases h
   ·rename_i hl
    obtain ⟨ao,h1,h2⟩:=qde hL hk hl
    cases ao<;>simp only [AO.kill,reduceCtorEq,AO.rowv.injEq] at h2
    obtain ⟨rfl,rfl,rfl⟩:=h2
    rw [h1]
    simp only
    split at h
    ·rename_i hz
     cases h
     exact ⟨_,by rw [if_pos hz,zN],by simp only [AV.kill,if_neg hk]⟩
    ·cases h
   ·cases h
  ·cases h
 case nck x=>
  simp only [core,Zf] at h ⊢
  rw [qcb,qja] at h
  simp only [AV.unA]
  generalize (rd fr x).un.1=c0 at h ⊢
  generalize (rd fr x).un.2=v at h ⊢
  split at h
  ·rename_i e1
   obtain ⟨rfl,e2⟩:=Prod.mk.inj e1
   obtain ⟨e3,hk⟩:=qe6 e2
   cases h
   rw [e3]
   exact ⟨_,rfl,by simp only [AV.kill,if_neg hk]⟩
  ·rename_i e1
   obtain ⟨rfl,e2⟩:=Prod.mk.inj e1
   obtain ⟨e3,hk⟩:=qe4 e2
   cases h
   rw [e3]
   exact ⟨_,rfl,by simp only [AV.kill,if_neg hk]⟩
  ·rename_i e1
   obtain ⟨rfl,e2⟩:=Prod.mk.inj e1
   cases h
   rw [qe5 e2]
   exact ⟨_,rfl,rfl⟩
  ·cases h
 case ld sz ag x=>
  simp only [core,Zf] at h ⊢
  rw [qcb,qja] at h
  simp only [AV.unA]
  generalize (rd fr x).un.1=c0 at h ⊢
  generalize (rd fr x).un.2=v at h ⊢
  split at h
  ·rename_i e1
   obtain ⟨rfl,e2⟩:=Prod.mk.inj e1
   rw [qe5 e2]
   simp only
   split at h
   ·rename_i hc
    cases h
    exact ⟨_,by rw [if_pos hc],rfl⟩
   ·cases h
  ·rename_i e1
   obtain ⟨rfl,e2⟩:=Prod.mk.inj e1
   obtain ⟨e3,hk⟩:=qe4 e2
   rw [e3]
   simp only
   split at h
   ·rename_i hl
    obtain ⟨ao,h1,h2⟩:=qde hL hk hl
    cases ao<;>simp only [AO.kill,reduceCtorEq,AO.row.injEq] at h2
    obtain ⟨rfl,rfl,rfl,rfl⟩:=h2
    rw [h1]
    simp only
    split at h
    ·rename_i hc
     cases h
     exact ⟨_,by rw [if_pos hc],rfl⟩
    ·cases h
   ·rename_i hl
    obtain ⟨ao,h1,h2⟩:=qde hL hk hl
    cases ao<;>simp only [AO.kill,reduceCtorEq,AO.rowv.injEq] at h2
    obtain ⟨rfl,rfl,rfl⟩:=h2
    rw [h1]
    simp only
    split at h
    ·rename_i hc
     cases h
     refine ⟨_,by rw [if_pos hc,zN],?_⟩
     rw [qkJ,qgA]
    ·cases h
   ·cases h
  ·rename_i e1
   obtain ⟨rfl,e2⟩:=Prod.mk.inj e1
   obtain ⟨e3,hk⟩:=qe6 e2
   rw [e3]
   simp only
   split at h
   ·rename_i hl
    obtain ⟨ao,h1,h2⟩:=qde hL hk hl
    cases ao<;>simp only [AO.kill,reduceCtorEq,AO.box.injEq] at h2
    obtain ⟨rfl,rfl⟩:=h2
    rw [h1]
    simp only
    rw [zN] at h
    split at h
    ·rename_i hc
     rw [if_pos hc]
     split at h
     ·rename_i ha
      rw [if_pos ha]
      obtain ⟨q,h3,h4⟩:=zh.1 h
      cases h4
      rw [← List.map_drop,← List.map_take] at h3
      rw [qj0 h3]
      exact ⟨_,rfl,rfl⟩
     ·rename_i ha
      rw [if_neg ha]
      cases h
      exact ⟨_,rfl,(qgA _ _).symm⟩
    ·cases h
   ·cases h
  ·cases h
 case ldl sz ag x=>
  simp only [core,Zf] at h ⊢
  rw [qcb,qja] at h
  simp only [AV.unA]
  generalize (rd fr x).un.1=c0 at h ⊢
  generalize (rd fr x).un.2=v at h ⊢
  split at h
  ·rename_i e1
   obtain ⟨rfl,e2⟩:=Prod.mk.inj e1
   rw [qe5 e2]
   simp only
   split at h
   ·rename_i hc
    cases h
    exact ⟨_,by rw [if_pos hc],rfl⟩
   ·cases h
  ·rename_i e1
   obtain ⟨rfl,e2⟩:=Prod.mk.inj e1
   obtain ⟨e3,hk⟩:=qe4 e2
   rw [e3]
   simp only
   split at h
   ·rename_i hl
    obtain ⟨ao,h1,h2⟩:=qde hL hk hl
    cases ao<;>simp only [AO.kill,reduceCtorEq,AO.row.injEq] at h2
    obtain ⟨rfl,rfl,rfl,rfl⟩:=h2
    rw [h1]
    simp only
    split at h
    ·rename_i hc
     cases h
     exact ⟨_,by rw [if_pos hc],rfl⟩
    ·cases h
   ·rename_i hl
    obtain ⟨ao,h1,h2⟩:=qde hL hk hl
    cases ao<;>simp only [AO.kill,reduceCtorEq,AO.rowv.injEq] at h2
    obtain ⟨rfl,rfl,rfl⟩:=h2
    rw [h1]
    simp only
    split at h
    ·rename_i hc
     cases h
     refine ⟨_,by rw [if_pos hc,zN],?_⟩
     rw [qkJ,qgA]
    ·cases h
   ·cases h
  ·rename_i e1
   obtain ⟨rfl,e2⟩:=Prod.mk.inj e1
   obtain ⟨e3,hk⟩:=qe6 e2
   rw [e3]
   simp only
   split at h
   ·rename_i hl
    obtain ⟨ao,h1,h2⟩:=qde hL hk hl
    cases ao<;>simp only [AO.kill,reduceCtorEq,AO.box.injEq] at h2
    obtain ⟨rfl,rfl⟩:=h2
    rw [h1]
    simp only
    rw [zN] at h
    split at h
    ·rename_i hc
     rw [if_pos hc]
     split at h
     ·rename_i ha
      rw [if_pos ha]
      obtain ⟨q,h3,h4⟩:=zh.1 h
      cases h4
      rw [← List.map_drop,← List.map_take] at h3
      rw [qj0 h3]
      exact ⟨_,rfl,rfl⟩
     ·rename_i ha
      rw [if_neg ha]
      cases h
      exact ⟨_,rfl,(qgA _ _).symm⟩
    ·cases h
   ·cases h
  ·cases h
theorem qyk {d:Nat} {e z b:Nat} {u v:Opd} {c:Prop} {fr':List AV} {L':Objs} (h:Ze (some d) fr L (.app e z b u v)=some (c,fr',L')) :
  ∃ K,fr'=(fr.map (·.kill K)).set d (.row K)∧(∀ q,q≠K→Zas L' q=(Zas L q).map (AO.kill K))∧∀ fr2:List AV,rd fr2 u=rd fr u→rd fr2 v=rd fr v→Ze (some d) fr2 L (.app e z b u v)=some (c,(fr2.map (·.kill K)).set d (.row K),L'):=by
 simp only [Ze] at h
 split at h
 ·rename_i e1 e2 e3
  cases e1
  split at h
  ·rename_i hl
   split at h
   ·rename_i hc
    cases h
    refine ⟨_,rfl,fun q hq=>by rw [qb0,if_neg hq],fun fr2 h1 h2=>?_⟩
    simp only [Ze,h1,h2,e2,e3,hl,if_pos hc]
   ·cases h
  ·rename_i hl
   split at h
   ·rename_i hc
    cases h
    refine ⟨_,rfl,fun q hq=>by rw [qb0,if_neg hq],fun fr2 h1 h2=>?_⟩
    simp only [Ze,h1,h2,e2,e3,hl,if_pos hc]
   ·cases h
  ·cases h
 ·rename_i e1 e2 e3
  cases e1
  split at h
  ·rename_i hl hl2
   split at h
   ·rename_i hl3
    split at h
    ·rename_i hc
     cases h
     refine ⟨_,rfl,fun q hq=>by rw [qb0,if_neg hq],fun fr2 h1 h2=>?_⟩
     simp only [Ze,h1,h2,e2,e3,hl]
     simp only [hl2,hl3,if_pos hc]
    ·cases h
   ·cases h
  ·cases h
 ·rename_i e1 e2 e3
  cases e1
  split at h
  ·rename_i hc
   cases h
   refine ⟨_,rfl,fun q hq=>by rw [qb0,if_neg hq],fun fr2 h1 h2=>?_⟩
   simp only [Ze,h1,h2,e2,e3,if_pos hc]
  ·cases h
 ·cases h
theorem qgf {d:Nat} {e z b:Nat} {u v:Opd} {is:List IOper} {K:List AV→Objs→Prop}:qaa P E Y (⟨some d,.app e z b u v,none⟩ :: is) fr L K↔∃ c fr' L',Ze (some d) fr L (.app e z b u v)=some (c,fr',L')∧c∧qaa P E Y is fr' L' K:=by
 simp only [qaa]
 cases hq:Ze (some d) fr L (.app e z b u v) with
 |none=>simp
 |some q=>
  obtain ⟨c,fr',L'⟩:=q
  simp only [zg,zj]
  exact ⟨fun ⟨h1,h2⟩=>⟨c,fr',L',⟨rfl,rfl,rfl⟩,h1,h2⟩,fun ⟨_,_,_,⟨rfl,rfl,rfl⟩,h1,h2⟩=>⟨h1,h2⟩⟩
theorem qnE {i:IOper} {n:Nat} {l:List Nat} {is:List IOper} {K:List AV→Objs→Prop} (h:isSk i=some (n,l)):qaa P E Y (i :: is) fr L K↔∃ c ao,Ze none fr L i.op=some (c,fr,Zat L (.l n) ao)∧c∧qaa P E Y is fr (Zat L (.l n) ao) K:=by
 have key:∀ q:Option (Prop×List AV×Objs),(∀ c fr' L',q=some (c,fr',L')→fr'=fr∧∃ ao,L'=Zat L (.l n) ao)→((match q with|some (c,fr',L')=>c∧qaa P E Y is fr' L' K|none=>False)↔∃ c ao,q=some (c,fr,Zat L (.l n) ao)∧c∧qaa P E Y is fr (Zat L (.l n) ao) K):=by
  intro q hq
  cases q with
  |none=>simp
  |some q=>
   obtain ⟨c,fr',L'⟩:=q
   obtain ⟨rfl,ao,rfl⟩:=hq _ _ _ rfl
   constructor
   ·exact fun h=>⟨c,ao,rfl,h.1,h.2⟩
   ·rintro ⟨c2,ao2,e,h1,h2⟩
    simp only [zg,zj,true_and] at e
    obtain ⟨rfl,e⟩:=e
    exact ⟨h1,by rw [e];exact h2⟩
 unfold isSk at h
 split at h
 ·cases h
  refine key _ ?_
  intro c fr' L' e
  simp only [Ze] at e
  split at e
  ·split at e
   ·split at e
    ·split at e
     ·cases e;exact ⟨rfl,_,rfl⟩
     ·cases e
    ·cases e
   ·cases e
  ·split at e
   ·split at e
    ·split at e
     ·cases e;exact ⟨rfl,_,rfl⟩
     ·cases e
    ·cases e
   ·cases e
  ·cases e
 ·cases h
  refine key _ ?_
  intro c fr' L' e
  simp only [Ze] at e
  split at e
  ·split at e
   ·split at e
    ·cases e;exact ⟨rfl,_,rfl⟩
    ·cases e
   ·cases e
  ·cases e
 ·cases h
theorem qsU {i:IOper} {n:Nat} {l:List Nat} {d:Option Nat} {r:AV} {c:Prop} {ao:AO} (h:isSk i=some (n,l)) (hd:∀ e,d=some e→e∉l):Ze none (Zg fr d r) L i.op=some (c,Zg fr d r,Zat L (.l n) ao)↔Ze none fr L i.op=some (c,fr,Zat L (.l n) ao):=by
 cases d with
 |none=>exact Iff.rfl
 |some d=>
  have hd:=hd d rfl
  simp only [Zg]
  unfold isSk at h
  split at h
  ·cases h
   simp only [zp,not_or] at hd
   simp only [Ze,qap hd.1,qap hd.2]
   constructor <;>
   ·intro e
    split at e
    ·split at e
     ·split at e
      ·split at e
       ·rename_i hc
        rw [if_pos hc]
        simp only [zg,zj] at e ⊢
        (first|exact ⟨e.1,trivial,e.2.2⟩|(rw [if_pos (by assumption)];simp only [zg,zj];exact ⟨e.1,trivial,e.2.2⟩))
       ·cases e
      ·cases e
     ·cases e
    ·split at e
     ·split at e
      ·split at e
       ·rename_i hc
        rw [if_pos hc]
        simp only [zg,zj] at e ⊢
        (first|exact ⟨e.1,trivial,e.2.2⟩|(rw [if_pos (by assumption)];simp only [zg,zj];exact ⟨e.1,trivial,e.2.2⟩))
       ·cases e
      ·cases e
     ·cases e
    ·cases e
  ·cases h
   simp only [zp,not_or] at hd
   simp only [Ze,qap hd.1.1,qap hd.1.2,qap hd.2]
   constructor <;>
   ·intro e
    split at e
    ·split at e
     ·split at e
      ·simp only [zg,zj] at e ⊢
       (first|exact ⟨e.1,trivial,e.2.2⟩|(rw [if_pos (by assumption)];simp only [zg,zj];exact ⟨e.1,trivial,e.2.2⟩))
      ·cases e
     ·cases e
    ·cases e
  ·cases h
def nrO:AO→Bool
 |.row ..=>false
 |.rowv ..=>false
 |_=>true
theorem qr2 {n:Nat} {op:IOp} {a:AO} (ha:nrO a=true) (hl:∀ b,Zas L (.l n)=some b→nrO b=true) (hf:nolN n op=true):core P E Y fr (Zat L (.l n) a) op=core P E Y fr L op:=by
 cases hq:op<;>rw [hq] at hf<;>simp only [nolN,nol,zK,beq_iff_eq] at hf
 case ixa z x y=>
  simp only [core,Zf]
  split
  ·rfl
  ·rename_i cx k ci kk nn e1 e2
   by_cases hk:k=.l n
   ·subst hk
    rw [qag,if_pos rfl]
    cases hq2:Zas L (.l n) with
    |none=>cases a<;>first|rfl|(simp [nrO] at ha;done)
    |some b=>
     have hb:=hl b hq2
     cases a<;>cases b<;>first|rfl|(simp [nrO] at ha;done)|(simp [nrO] at hb;done)
   ·rw [qag,if_neg hk]
  ·rfl
 case ldn m sz ag x=>
  subst hf
  simp only [core,Zf]
  split
  ·rfl
  ·split
   ·rfl
   ·rename_i hk;rw [qag,if_neg hk]
  ·split
   ·rfl
   ·rename_i hk;rw [qag,if_neg hk]
  ·rfl
 all_goals rfl
theorem qu6 {n:Nat} {i:IOper} {a:AO} (ha:nrO a=true) (hl:∀ b,Zas L (.l n)=some b→nrO b=true) (hf:nolN n i.op=true):sx P E Y fr (Zat L (.l n) a) i=sx P E Y fr L i:=by
 unfold sx
 rw [qr2 ha hl hf]
theorem qyw {i:IOper} {n:Nat} {l:List Nat} {c:Prop} {ao:AO} (h:isSk i=some (n,l)) (e:Ze none fr L i.op=some (c,fr,Zat L (.l n) ao)):nrO ao=true∧∀ b,Zas L (.l n)=some b→nrO b=true:=by
 have hao:Zas (Zat L (.l n) ao) (.l n)=some ao:=by rw [qag,if_pos rfl]
 unfold isSk at h
 split at h
 ·cases h
  simp only [Ze] at e
  split at e
  ·split at e
   ·split at e
    ·rename_i hl
     split at e
     ·simp only [zg,zj] at e
      rw [← e.2.2,qag,if_pos rfl] at hao
      cases hao
      exact ⟨rfl,fun b hb=>by rw [hl] at hb;cases hb;rfl⟩
     ·cases e
    ·cases e
   ·cases e
  ·split at e
   ·split at e
    ·rename_i hl
     split at e
     ·simp only [zg,zj] at e
      rw [← e.2.2,qag,if_pos rfl] at hao
      cases hao
      exact ⟨rfl,fun b hb=>by rw [hl] at hb;cases hb;rfl⟩
     ·cases e
    ·cases e
   ·cases e
  ·cases e
 ·cases h
  simp only [Ze] at e
  split at e
  ·split at e
   ·split at e
    ·rename_i hl
     simp only [zg,zj] at e
     rw [← e.2.2,qag,if_pos rfl] at hao
     cases hao
     exact ⟨rfl,fun b hb=>by rw [hl] at hb;cases hb;rfl⟩
    ·cases e
   ·cases e
  ·cases e
 ·cases h
set_option maxHeartbeats 2000000 in
theorem qlS {x i:IOper} {is:List IOper} {K:List AV→Objs→Prop} (ha:qgh x i=true) (hN:∀ d l,isN i=some (d,l)→Zam d fr L) (h:qaa P E Y (x :: i :: is) fr L K):qaa P E Y (i :: x :: is) fr L K:=by
 rcases qjZ ha with ⟨rx,ri,h1,h2,hs⟩|⟨rx,b,d,f,args,h1,rfl,hf,hs⟩|⟨ri,b,d,f,args,h2,rfl,hf,hs⟩|⟨rx,d,ri,h1,h2,hf,hs⟩|⟨d,rx,ri,h1,h2,hf,hs⟩|⟨d,rx,e,ri,h1,h2,hs⟩|⟨d,rx,e,f,args,h1,rfl,hs⟩|⟨d,f,args,e,ri,rfl,h2,hs⟩|⟨rx,sz,p,y,h1,rfl,hf,hs⟩|⟨ri,sz,p,y,h2,rfl,hf,hs⟩|⟨ri,d,e,z,b,u,v,h2,rfl,hf,hg,hs⟩|⟨rx,n,ri,h1,h2,hf,hs⟩
 ·obtain ⟨h3,h4,h5⟩:=qbc hs
  rw [qas (by rw [h1];rfl)] at h
  obtain ⟨c,r,e1,hc,h⟩:=h
  rw [qas (by rw [h2];rfl)] at h
  obtain ⟨c2,r2,e2,hc2,h⟩:=h
  rw [qeI h2 h3] at e2
  rw [qas (by rw [h2];rfl)]
  refine ⟨c2,r2,e2,hc2,?_⟩
  rw [qas (by rw [h1];rfl)]
  refine ⟨c,r,by rw [qeI h1 h4];exact e1,hc,?_⟩
  rwa [qdc (fun a b ha hb=>Ne.symm (h5 b a hb ha))]
 ·obtain ⟨h3,h4,h5⟩:=qbc hs
  rw [qas (by rw [h1];rfl)] at h
  obtain ⟨c,r,e1,hc,h⟩:=h
  simp only [qaa] at h
  obtain ⟨hA,k,t,cs,post,g1,g2,g3,g4,g5,g6⟩:=h
  rw [qif h3] at hA
  rw [qid h3] at g1
  simp only [qaa]
  refine ⟨hA,k,t,cs,post,g1,g2,g3,g4,g5,fun y cs' hp=>?_⟩
  show qaa P E Y (x :: is) _ _ K
  rw [qas (by rw [h1];rfl)]
  refine ⟨c,r,?_,hc,?_⟩
  ·rw [qqO hf (by rw [h1];rfl) g2 g4,qeI h1 h4];exact e1
  ·rw [qdc (fun a b ha hb=>Ne.symm (h5 b a hb ha))]
   exact g6 y cs' hp
 ·obtain ⟨h3,h4,h5⟩:=qbc hs
  simp only [qaa] at h
  obtain ⟨hA,k,t,cs,post,g1,g2,g3,g4,⟨y0,cs0,hp0⟩,g6⟩:=h
  have hn:=g6 y0 cs0 hp0
  change qaa P E Y (i :: is) _ _ K at hn
  rw [qas (by rw [h2];rfl)] at hn
  obtain ⟨c,r,e1,hc,_⟩:=hn
  rw [qqO hf (by rw [h2];rfl) g2 g4,qeI h2 h3] at e1
  rw [qas (by rw [h2];rfl)]
  refine ⟨c,r,e1,hc,?_⟩
  simp only [qaa]
  refine ⟨by rw [qif h4];exact hA,k,t,cs,post,by rw [qid h4];exact g1,g2,g3,g4,⟨y0,cs0,hp0⟩,fun y cs' hp=>?_⟩
  have hn:=g6 y cs' hp
  change qaa P E Y (i :: is) _ _ K at hn
  rw [qas (by rw [h2];rfl)] at hn
  obtain ⟨c',r',e',_,hk⟩:=hn
  rw [qqO hf (by rw [h2];rfl) g2 g4,qeI h2 h3,e1] at e'
  cases e'
  rw [qdc (fun a b ha hb=>Ne.symm (h5 b a hb ha))]
  exact hk
 ·obtain ⟨h3,h4,h5⟩:=qbc hs
  have hd:=qfO h2
  have hF:=hN d ri h2
  rw [qas (by rw [h1];rfl)] at h
  obtain ⟨c,r,e1,hc,h⟩:=h
  rw [qaA h2] at h
  obtain ⟨⟨_,g2⟩,c2,r2,ao,g3,hc2,h⟩:=h
  rw [qha h2 h3] at g3
  rw [qaA h2]
  refine ⟨⟨hF,g2⟩,c2,r2,ao,g3,hc2,?_⟩
  rw [qas (by rw [h1];rfl)]
  refine ⟨c,r,?_,hc,?_⟩
  ·rw [show fr.set d r2=Zg fr (some d) r2 from rfl,qeI h1 (fun a ha=>h4 a (hd.trans ha)),qnW hf (by rw [h1];rfl) hF.1];exact e1
  ·have:=qdc (fr:=fr) (r:=r2) (q:=r) (d:=some d) (e:=x.dst) (fun a b ha hb=>Ne.symm (h5 b a hb (hd.trans ha)))
   simp only [Zg] at this h ⊢
   rw [this]
   exact h
 ·obtain ⟨h3,h4,h5⟩:=qbc hs
  have hd:=qfO h1
  rw [qaA h1] at h
  obtain ⟨⟨hF,g2⟩,c,r,ao,g3,hc,h⟩:=h
  rw [qas (by rw [h2];rfl)] at h
  obtain ⟨c2,r2,e2,hc2,h⟩:=h
  rw [show fr.set d r=Zg fr (some d) r from rfl,qeI h2 (fun a ha=>h3 a (hd.trans ha)),qnW hf (by rw [h2];rfl) hF.1] at e2
  rw [qas (by rw [h2];rfl)]
  refine ⟨c2,r2,e2,hc2,?_⟩
  rw [qaA h1]
  refine ⟨⟨hF.set (qqP (by rw [h2];rfl) hF.1 hF.2 e2),g2⟩,c,r,ao,by rw [qha h1 h4];exact g3,hc,?_⟩
  have:=qdc (fr:=fr) (r:=r) (q:=r2) (d:=some d) (e:=i.dst) (fun a b ha hb=>h5 a b (hd.trans ha) hb)
  simp only [Zg] at this h ⊢
  rw [← this]
  exact h
 ·obtain ⟨h3,h4,h5⟩:=qbc hs
  have hd:=qfO h1
  have he:=qfO h2
  have hne:d≠e:=h5 d e hd he
  have hF2:=hN e ri h2
  rw [qaA h1] at h
  obtain ⟨⟨hF,g2⟩,c,r,ao,g3,hc,h⟩:=h
  rw [qaA h2] at h
  obtain ⟨⟨_,k2⟩,c2,r2,ao2,k3,hc2,h⟩:=h
  rw [show fr.set d r=Zg fr (some d) r from rfl,qha h2 (fun a ha=>h3 a (hd.trans ha))] at k3
  rw [qag,if_neg (by simpa using Ne.symm hne)] at k2
  rw [qaA h2]
  refine ⟨⟨hF2,k2⟩,c2,r2,ao2,k3,hc2,?_⟩
  rw [qaA h1]
  obtain ⟨f1,f2⟩:=quK h2 (Ne.symm hne) k3
  refine ⟨⟨hF.put (e:=some e) f1 f2,by rw [qag,if_neg (by simpa using hne)];exact g2⟩,c,r,ao,by rw [show fr.set e r2=Zg fr (some e) r2 from rfl,qha h1 (fun a ha=>h4 a (he.trans ha))];exact g3,hc,?_⟩
  rw [List.set_comm _ _ (Ne.symm hne),qdF ao2 ao (by simpa using Ne.symm hne) (by rw [k2];rfl) (by rw [g2];rfl)]
  exact h
 ·obtain ⟨h3,h4,h5⟩:=qbc hs
  have hd:=qfO h1
  rw [qaA h1] at h
  obtain ⟨⟨hF,g2⟩,c,r,ao,g3,hc,h⟩:=h
  simp only [qaa] at h
  obtain ⟨hA,k,t,cs,post,k1,k2,k3,k4,k5,k6⟩:=h
  rw [show fr.set d r=Zg fr (some d) r from rfl,qif (fun a ha=>h3 a (hd.trans ha))] at hA
  rw [show fr.set d r=Zg fr (some d) r from rfl,qid (fun a ha=>h3 a (hd.trans ha))] at k1
  obtain ⟨j,rfl⟩:=k4 rfl
  rw [qag,if_neg (by simp)] at k2
  simp only [qaa]
  refine ⟨hA,.b j,t,cs,post,k1,k2,k3,k4,k5,fun y cs' hp=>?_⟩
  show qaa P E Y (x :: is) _ _ K
  rw [qaA h1]
  refine ⟨⟨hF.put rfl qia,by rw [qag,if_neg (by simp)];exact g2⟩,c,r,ao,by rw [qha h1 h4];exact g3,hc,?_⟩
  have:=qdc (fr:=fr) (r:=r) (q:=.p y) (d:=some d) (e:=e) (fun a b ha hb=>h5 a b (hd.trans ha) hb)
  have h:=k6 y cs' hp
  rw [qdF ao _ (by simp) (by rw [g2];rfl) (by rw [k2];rfl)] at h
  simp only [Zg] at this h ⊢
  rw [← this]
  exact h
 ·obtain ⟨h3,h4,h5⟩:=qbc hs
  have he:=qfO h2
  have hF:=hN e ri h2
  simp only [qaa] at h
  obtain ⟨hA,k,t,cs,post,k1,k2,k3,k4,⟨y0,cs0,hp0⟩,k6⟩:=h
  obtain ⟨j,rfl⟩:=k4 rfl
  have hn:=k6 y0 cs0 hp0
  change qaa P E Y (i :: is) _ _ K at hn
  rw [qaA h2] at hn
  obtain ⟨⟨_,g2⟩,c,r,ao,g3,hc,_⟩:=hn
  rw [qag,if_neg (by simp)] at g2
  rw [qha h2 h3] at g3
  rw [qaA h2]
  refine ⟨⟨hF,g2⟩,c,r,ao,g3,hc,?_⟩
  simp only [qaa]
  refine ⟨by rw [show fr.set e r=Zg fr (some e) r from rfl,qif (fun a ha=>h4 a (he.trans ha))];exact hA,.b j,t,cs,post,by rw [show fr.set e r=Zg fr (some e) r from rfl,qid (fun a ha=>h4 a (he.trans ha))];exact k1,by rw [qag,if_neg (by simp)];exact k2,k3,k4,⟨y0,cs0,hp0⟩,fun y cs' hp=>?_⟩
  have hn:=k6 y cs' hp
  change qaa P E Y (i :: is) _ _ K at hn
  rw [qaA h2] at hn
  obtain ⟨_,c',r',ao',e',_,hk⟩:=hn
  rw [qha h2 h3,g3] at e'
  cases e'
  show qaa P E Y is _ _ K
  rw [qdF ao _ (by simp) (by rw [g2];rfl) (by rw [k2];rfl)]
  have:=qdc (fr:=fr) (r:=r) (q:=.p y) (d:=some e) (e:=d) (fun a b ha hb=>Ne.symm (h5 b a hb (he.trans ha)))
  simp only [Zg] at this hk ⊢
  rw [this]
  exact hk
 ·obtain ⟨h3,h4,h5⟩:=qbc hs
  rw [qas (by rw [h1];rfl)] at h
  obtain ⟨c,r,e1,hc,h⟩:=h
  rw [qaQ] at h
  obtain ⟨c2,L',g1,hc2,h⟩:=h
  rw [qhH h3] at g1
  rw [qaQ]
  refine ⟨c2,L',g1,hc2,?_⟩
  rw [qas (by rw [h1];rfl)]
  exact ⟨c,r,by rw [quG hf];exact e1,hc,h⟩
 ·obtain ⟨h3,h4,h5⟩:=qbc hs
  rw [qaQ] at h
  obtain ⟨c,L',g1,hc,h⟩:=h
  rw [qas (by rw [h2];rfl)] at h
  obtain ⟨c2,r2,e2,hc2,h⟩:=h
  rw [qas (by rw [h2];rfl)]
  refine ⟨c2,r2,by rw [quG (L':=L) hf];exact e2,hc2,?_⟩
  rw [qaQ]
  exact ⟨c,L',by rw [qhH h4];exact g1,hc,h⟩
 ·obtain ⟨h3,h4,h5⟩:=qbc hs
  rw [qgf] at h
  obtain ⟨c,fr',L',e1,hc,h⟩:=h
  obtain ⟨Kq,rfl,hLq,hap⟩:=qyk e1
  rw [qas (by rw [h2];rfl)] at h
  obtain ⟨c2,r2,e2,hc2,h⟩:=h
  rw [show (fr.map (·.kill Kq)).set d (.row Kq)=Zg (fr.map (·.kill Kq)) (some d) (.row Kq) from rfl,qeI h2 (fun a ha=>h3 a ha)] at e2
  simp only [sx,hg] at e2
  obtain ⟨r3,e3,rfl⟩:=qr3 hLq hf e2
  rw [qas (by rw [h2];rfl)]
  refine ⟨c2,r3,by simp only [sx,hg];exact e3,hc2,?_⟩
  have hu:∀ q:Opd,(∀ a,i.dst=some a→a∉qaT q)→rd (Zg fr i.dst r3) q=rd fr q:=by
   intro q hq
   cases hd:i.dst with
   |none=>rfl
   |some a=>exact qap (hq a hd)
  have hap2:=hap (Zg fr i.dst r3) (hu u fun a ha hm=>h4 a ha (List.mem_append_left _ hm)) (hu v fun a ha hm=>h4 a ha (List.mem_append_right _ hm))
  rw [qgf]
  refine ⟨_,_,_,hap2,hc,?_⟩
  have hcm:=qdc (fr:=fr.map (·.kill Kq)) (r:=.row Kq) (q:=r3.kill Kq) (d:=some d) (e:=i.dst) (fun a b ha hb=>h5 a b ha hb)
  have hmp:(Zg fr i.dst r3).map (·.kill Kq)=Zg (fr.map (·.kill Kq)) i.dst (r3.kill Kq):=by
   cases i.dst with
   |none=>rfl
   |some a=>simp only [Zg,List.map_set]
  rw [hmp]
  simp only [Zg] at hcm h ⊢
  rw [← hcm]
  exact h
 ·obtain ⟨h3,h4,h5⟩:=qbc hs
  rw [qas (by rw [h1];rfl)] at h
  obtain ⟨c,r,e1,hc,h⟩:=h
  rw [qnE h2] at h
  obtain ⟨c2,ao,e2,hc2,h⟩:=h
  rw [qnE h2]
  have e3:=(qsU h2 h3).1 e2
  obtain ⟨n1,n2⟩:=qyw h2 e3
  refine ⟨c2,ao,e3,hc2,?_⟩
  rw [qas (by rw [h1];rfl)]
  exact ⟨c,r,by rw [qu6 n1 n2 hf];exact e1,hc,h⟩
def isS:IOper→Bool
 |⟨_,.st ..,none⟩=>true
 |⟨_,.stg ..,none⟩=>true
 |_=>false
def okIn (i:IOper):Bool:=(qaP i).isSome || (isD i).isSome || (isN i).isSome || isS i
def qbI (ds:List Nat) (fr:List AV) (L:Objs):Prop:=∀ d∈ds,Zam d fr L
theorem qu7 {d:Option Nat} {sz:Nat} {p x:Opd} {c:Prop} {fr':List AV} {L':Objs} (h:Ze d fr L (.stg sz p x)=some (c,fr',L')):fr'=fr∧∀ K:Key,fr.map (·.kill K)=fr→Zau K L=L→Zau K L'=L':=by
 simp only [Ze] at h
 split at h
 ·rename_i e1 e2
  split at h
  ·rename_i hl
   split at h
   ·cases h
    refine ⟨rfl,fun K hF hL=>qdq hL (box_fix.2 (qcw (box_fix.1 (qaV hL hl)) (fun x hx=>?_)))⟩
    obtain ⟨y,hy,rfl⟩:=zE.1 hx
    have:=anyK_false.1 (ag_fix.1 (qcd hF e2)) y hy
    cases y with
    |p p=>rfl
    |row k=>exact qjz (by simpa [Zaj] using this)
    |mp k=>simpa [Zah,AV.kill,Zaj] using this
   ·cases h
  ·cases h
 ·cases h
theorem qge {i:IOper} {is js:List IOper} {K K':List AV→Objs→Prop} {ds:List Nat} (hi:okIn i=true) (hN:∀ d l,isN i=some (d,l)→d∉ds) (hF:qbI ds fr L) (h:qaa P E Y (i :: is) fr L K) (hk:∀ fr L,qbI ds fr L→qaa P E Y is fr L K→qaa P E Y js fr L K'):qaa P E Y (i :: js) fr L K':=by
 simp only [okIn,yh] at hi
 rcases hi with ((hr|hr)|hr)|hr
 ·rw [qas hr] at h ⊢
  obtain ⟨c,r,e1,hc,h⟩:=h
  exact ⟨c,r,e1,hc,hk _ _ (fun d hd=>(hF d hd).set (qqP hr (hF d hd).1 (hF d hd).2 e1)) h⟩
 ·obtain ⟨⟨b,l⟩,hq⟩:=zM.1 hr
  obtain ⟨d,f,args,rfl,rfl⟩:=qm8 hq
  simp only [qaa] at h ⊢
  obtain ⟨hA,k,t,cs,post,g1,g2,g3,g4,g5,g6⟩:=h
  exact ⟨hA,k,t,cs,post,g1,g2,g3,g4,g5,fun y cs' hp=>hk _ _ (fun d hd=>(hF d hd).put rfl qia) (g6 y cs' hp)⟩
 ·obtain ⟨⟨d,l⟩,hq⟩:=zM.1 hr
  rw [qaA hq] at h ⊢
  obtain ⟨g,c,r,ao,e1,hc,h⟩:=h
  refine ⟨g,c,r,ao,e1,hc,hk _ _ (fun e he=>?_) h⟩
  obtain ⟨f1,f2⟩:=quK hq (fun e'=>hN d l hq (e' ▸ he)) e1
  exact (hF e he).put (e:=some d) f1 f2
 ·obtain ⟨d,op,gd⟩:=i
  cases gd with
  |some q=>cases op<;>simp [isS] at hr
  |none=>
   cases op<;>simp only [isS,zK] at hr
   all_goals
    simp only [qaa] at h ⊢
    split at h
    ·rename_i c fr' L' e1
     refine ⟨h.1,hk _ _ (fun e he=>?_) h.2⟩
     first
      |(obtain ⟨rfl,h2⟩:=quH e1;exact ⟨(hF e he).1,h2 _ (hF e he).1 (hF e he).2⟩)
      |(obtain ⟨rfl,h2⟩:=qu7 e1;exact ⟨(hF e he).1,h2 _ (hF e he).1 (hF e he).2⟩)
    ·exact h.elim
def qrJ:IOper→Option Nat
 |⟨some d,.app ..,none⟩=>some d
 |_=>none
theorem qtH {i:IOper} {d:Nat} (h:qrJ i=some d):∃ e z b u v,i=⟨some d,.app e z b u v,none⟩:=by
 unfold qrJ at h
 split at h
 ·cases h;exact ⟨_,_,_,_,_,rfl⟩
 ·cases h
theorem Zam.upd {q j:Nat} {d:Nat} {a:AO} (h:Zam q fr L) (hj:j≠q) (ha:(a.kill (.l q))=a):Zam q ((fr.map (·.kill (.l j))).set d (.row (.l j))) (Zav L (.l j) a):=by
 refine ⟨?_,?_⟩
 ·rw [List.map_set,qjz (by simpa using hj)]
  have:=h.1
  congr 1
  conv=>rhs;rw [← this]
  rw [List.map_map,List.map_map]
  exact List.map_congr_left fun x _=>AV.kill_comm _ _ x
 ·unfold Zav
  rw [qek,qiu,h.2,ha]
theorem qn6 {K j:Key} {es:List (List AV)} {e z:Nat} (h:(AO.rowv es e z).kill K=.rowv es e z):∀ x∈es.map (·.map (·.kill j)),∀ y∈x,y.kill K=y:=by
 rw [rowv_fix] at h
 intro x hx y hy
 obtain ⟨x',hx',rfl⟩:=zE.1 hx
 obtain ⟨y',hy',rfl⟩:=zE.1 hy
 rw [AV.kill_comm,h x' hx' y' hy']
theorem quk {q d:Nat} {e z b:Nat} {u v:Opd} {c:Prop} {fr':List AV} {L':Objs} (hF:Zam q fr L) (hd:d≠q) (h:Ze (some d) fr L (.app e z b u v)=some (c,fr',L')):Zam q fr' L':=by
 have qfB:∀ {x:Opd} {c:Prop} {i:Nat},(rd fr x).un=(c,.row (.l i))→i≠q:=fun e2 hi=>by
  subst hi
  have:=qcd hF.1 e2
  simp [AV.kill] at this
 simp only [Ze] at h
 split at h
 ·rename_i e1 e2 e3
  cases e1
  split at h
  ·split at h
   ·cases h
    exact hF.upd (qfB e2) rfl
   ·cases h
  ·rename_i hl
   split at h
   ·cases h
    refine hF.upd (qfB e2) ?_
    rw [rowv_fix]
    intro x hx
    rcases zp.1 hx with hx|hx
    ·exact qn6 (qaV hF.2 hl) x hx
    ·obtain ⟨y,_,rfl⟩:=zE.1 hx
     intro w hw
     obtain ⟨y',_,rfl⟩:=zE.1 hw
     rfl
   ·cases h
  ·cases h
 ·rename_i e1 e2 e3
  cases e1
  split at h
  ·rename_i hl hx
   split at h
   ·rename_i hl2
    split at h
    ·cases h
     refine hF.upd (qfB e2) ?_
     rw [rowv_fix]
     intro x hx
     rcases zp.1 hx with hx|hx
     ·exact qn6 (qaV hF.2 hl) x hx
     ·exact qn6 (qaV hF.2 hl2) x hx
    ·cases h
   ·cases h
  ·cases h
 ·rename_i e1 e2 e3
  cases e1
  split at h
  ·cases h
   exact hF.upd hd rfl
  ·cases h
 ·cases h
theorem qpM {x i:IOper} (h:qgh x i=true):(okIn x=true∨isN i=none∧∃ d e z b u v,x=⟨some d,.app e z b u v,none⟩)∧∀ d l,isN x=some (d,l)→∀ e l',isN i=some (e,l')→d≠e:=by
 have pure:∀ {q:IOper} {l},qaP q=some l→isN q=none:=by
  intro q l hq
  cases hn:isN q with
  |none=>rfl
  |some p=>
   obtain ⟨d,l'⟩:=p
   rcases qkI hn with ⟨t,zero,rfl,_⟩|⟨e,z,parts,rfl,_⟩|⟨n,f,args,e,z,rfl,_⟩<;>simp [qaP,qbY] at hq
 have sep:∀ {rx ri},sepI x i rx ri=true→∀ d l,isN x=some (d,l)→∀ e l',isN i=some (e,l')→d≠e:=fun hs d l h1 e l' h2=>(qbc hs).2.2 d e (qfO h1) (qfO h2)
 rcases qjZ h with ⟨rx,ri,h1,h2,hs⟩|⟨rx,b,d,f,args,h1,rfl,hf,hs⟩|⟨ri,b,d,f,args,h2,rfl,hf,hs⟩|⟨rx,d,ri,h1,h2,hf,hs⟩|⟨d,rx,ri,h1,h2,hf,hs⟩|⟨d,rx,e,ri,h1,h2,hs⟩|⟨d,rx,e,f,args,h1,rfl,hs⟩|⟨d,f,args,e,ri,rfl,h2,hs⟩|⟨rx,sz,p,y,h1,rfl,hf,hs⟩|⟨ri,sz,p,y,h2,rfl,hf,hs⟩|⟨ri,d,e,z,b,u,v,h2,rfl,hf,hg,hs⟩|⟨rx,n,ri,h1,h2,hf,hs⟩
 ·exact ⟨.inl (by simp [okIn,h1]),sep hs⟩
 ·exact ⟨.inl (by simp [okIn,h1]),sep hs⟩
 ·exact ⟨.inl (by simp [okIn,isD]),sep hs⟩
 ·exact ⟨.inl (by simp [okIn,h1]),sep hs⟩
 ·exact ⟨.inl (by simp [okIn,h1]),sep hs⟩
 ·exact ⟨.inl (by simp [okIn,h1]),sep hs⟩
 ·exact ⟨.inl (by simp [okIn,h1]),sep hs⟩
 ·exact ⟨.inl (by simp [okIn,isD]),sep hs⟩
 ·exact ⟨.inl (by simp [okIn,h1]),sep hs⟩
 ·exact ⟨.inl (by simp [okIn,isS]),sep hs⟩
 ·exact ⟨.inr ⟨pure h2,_,_,_,_,_,_,rfl⟩,sep hs⟩
 ·exact ⟨.inl (by simp [okIn,h1]),sep hs⟩
def qaq (is:List IOper):List Nat:=is.filterMap fun i=>(isN i).map (·.1)
def okBy (ns:List Nat) (i:IOper):Bool:=okIn i || (match qrJ i with|some d=>!ns.contains d|none=>false)
theorem qm0 {ns:List Nat} {i:IOper} (h:okBy ns i=true):okIn i=true∨∃ d,qrJ i=some d∧d∉ns:=by
 unfold okBy at h
 rcases Bool.or_eq_true_iff.1 h with h|h
 ·exact .inl h
 ·split at h
  ·rename_i d e
   exact .inr ⟨d,e,by simpa using h⟩
  ·cases h
theorem qiP {i:IOper} {is js:List IOper} {K K':List AV→Objs→Prop} {d:Nat} {ds:List Nat} (hi:qrJ i=some d) (hN:d∉ds) (hF:qbI ds fr L) (h:qaa P E Y (i :: is) fr L K) (hk:∀ fr L,qbI ds fr L→qaa P E Y is fr L K→qaa P E Y js fr L K'):qaa P E Y (i :: js) fr L K':=by
 obtain ⟨e,z,b,u,v,rfl⟩:=qtH hi
 rw [qgf] at h ⊢
 obtain ⟨c,fr',L',e1,hc,h⟩:=h
 exact ⟨c,fr',L',e1,hc,hk _ _ (fun q hq=>quk (hF q hq) (fun e'=>hN (by rw [e'];exact hq)) e1) h⟩
theorem qm1 {i:IOper} {post:List IOper} {K:List AV→Objs→Prop}:∀ (pre:List IOper) (fr:List AV) (L:Objs),(∀ x∈pre,qgh x i=true)→qbI (qaq [i]) fr L→qaa P E Y (pre++i :: post) fr L K→qaa P E Y (i :: (pre++post)) fr L K:=by
 intro pre
 induction pre with
 |nil=>intro fr L _ _ h;exact h
 |cons x pre ih=>
  intro fr L ha hF h
  have hx:=ha x (by simp)
  obtain ⟨h1,h2⟩:=qpM hx
  have hN:∀ d l,isN i=some (d,l)→Zam d fr L:=fun d l hd=>hF d (by simp [qaq,hd])
  rcases h1 with h1|⟨hni,d,e,z,b,u,v,rfl⟩
  rotate_left
  ·refine qlS hx hN ?_
   rw [zT,qgf] at h
   obtain ⟨c,fr',L',e1,hc,h⟩:=h
   rw [qgf]
   exact ⟨c,fr',L',e1,hc,ih _ _ (fun y hy=>ha y (by simp [hy])) (fun d hd=>by simp [qaq,hni] at hd) h⟩
  have h':qaa P E Y (x :: i :: (pre++post)) fr L K:=qge h1 (fun d l hd hm=>by
   cases hq:isN i with
   |none=>simp [qaq,hq] at hm
   |some q=>obtain ⟨e,l'⟩:=q;simp [qaq,hq] at hm;exact h2 d l hd e l' hq hm) hF h (fun fr L hF h=>ih fr L (fun y hy=>ha y (by simp [hy])) hF h)
  exact qlS hx hN h'
def qfg (o:Oper):List Nat:=(o.after.toList.filter fun e=>Region.binds .any e).map (·.on)
def ancB (ops:Array Oper):Nat→Nat→Nat→Bool
 |0,_,_=>false
 |n+1,i,j=>match ops[i]? with
  |some o=>(qfg o).any fun e=>e == j || ancB ops n e j
  |none=>false
def qls (ops:Array Oper) (n:Nat) (i:Nat) (ii:IOper):List (Nat×IOper)→Bool
 |[]=>true
 |(j,jj) :: r=>(qgh jj ii || ancB ops n i j) && qls ops n i ii r
def qoM (ops:Array Oper) (n:Nat):List (Nat×IOper)→List (Nat×IOper)→Bool
 |_,[]=>true
 |seen,(i,ii) :: r=>qls ops n i ii seen && qoM ops n (seen++[(i,ii)]) r
def qbs:List IOper→List Nat
 |[]=>[]
 |i :: is=>if isFz i then (match i.op with|.hole d=>d :: qbs is|_=>qbs is) else []
def qrp (hs:List Nat) (js:List IOper):Bool:=
 (qaq js).isEmpty || (js.all (okBy (qaq js)) && decide (qaq js).Nodup && (qaq js).all fun d=>hs.contains d)
def qrq (ops:Array Oper) (js:List IOper) (k:Nat):Bool:=((zB js.length).zip js).all fun p=>(isN p.2).isNone || ancB ops ops.size k p.1
def qoi (ops:Array Oper) (hs:List Nat) (js:List IOper):Bool:=
 (qaq js).isEmpty || (((zB js.length).zip js).all (fun p=>okBy (qaq js) p.2 || qrq ops js p.1) && decide (qaq js).Nodup && (qaq js).all fun d=>hs.contains d)
def qok (ops:Array Oper) (pm:List Nat) (is:List IOper):Bool:=
 let js:=qev is
 is.all (fun i=>!isRe i) && qrp (qbs is) js && decide pm.Nodup && pm.length == ops.size && (zB ops.size).all (fun k=>pm.contains k) && qoM ops ops.size [] (pm.zip js) &&
 (zB pm.length).all fun k=>match ops[pm.getD k 0]? with|some o=>(qfg o).all fun e=>(pm.take k).contains e|none=>false
def okT (ts:List Nat) (i:IOper):Bool:=
 match i with
 |⟨some d,.alcd _ _,none⟩=>ts.contains d
 |⟨none,.st _ (.t d) x,none⟩=>ts.contains d && (qaT x).all fun s=>!ts.contains s
 |i=>match qaP i with
  |some l=>qiY i.op && l.all (fun s=>!ts.contains s) && (match i.dst with|some d=>!ts.contains d|none=>true)
  |none=>false
def qtT (s y:IOper):Bool:=
 match s with
 |⟨none,.st _ (.t d) v,none⟩=>match y with
  |⟨none,.st _ (.t e) _,none⟩=>d != e
  |y=>match y.dst with|some q=>q != d && !(qaT v).contains q|none=>true
 |_=>false
def qjY (x i:IOper):Bool:=qgh x i || qtT x i || qtT i x
def qpf (ops:Array Oper) (n:Nat) (i:Nat) (ii:IOper):List (Nat×IOper)→Bool
 |[]=>true
 |(j,jj) :: r=>(qjY jj ii || ancB ops n i j) && qpf ops n i ii r
def allT (ops:Array Oper) (n:Nat):List (Nat×IOper)→List (Nat×IOper)→Bool
 |_,[]=>true
 |seen,(i,ii) :: r=>qpf ops n i ii seen && allT ops n (seen++[(i,ii)]) r
def qoj (ops:Array Oper) (is:List IOper):Bool:=
 let js:=qev is
 is.all (fun i=>!isRe i) && (qaq js).all (fun d=>(qbs is).contains d) && js.all (okT (qaq js)) &&
 js.all (fun i=>!isFz i) && js.length == ops.size && allT ops ops.size [] ((zB js.length).zip js) &&
 (zB ops.size).all fun i=>match ops[i]? with|some o=>(qfg o).all fun e=>decide (e < i)|none=>true
def qrr (ops:Array Oper) (is:List IOper):Bool:=
 let js:=qev is
 is.all (fun i=>!isRe i) && qoi ops (qbs is) js &&
 js.all (fun i=>!isFz i) && js.length == ops.size && qoM ops ops.size [] ((zB js.length).zip js) &&
 (zB ops.size).all fun i=>match ops[i]? with|some o=>(qfg o).all fun e=>decide (e < i)|none=>true
def qmZ (ops:Array Oper) (pm:Option (List Nat)) (is:List IOper):Bool:=
 match pm with
 |none=>qrr ops is || qoj ops is
 |some pm=>qok ops pm is
end
end Go.Proofs.YtjgdjinhkgjpeabGreatDoor
