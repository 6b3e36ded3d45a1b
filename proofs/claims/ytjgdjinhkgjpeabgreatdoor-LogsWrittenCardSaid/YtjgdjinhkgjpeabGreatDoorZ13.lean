import Derived.Test.YtjgdjinhkgjpeabGreatDoorZ12
import Derived.Lib.Bytealg
set_option linter.unusedVariables false
set_option linter.unusedSimpArgs false
set_option linter.defProp false
namespace Go.Proofs.YtjgdjinhkgjpeabGreatDoor
open Nat renaming le_refl→zL,le_trans→zt,mul_le_mul_right→zP,reduceAdd→zd,reduceEqDiff→zb,reduceLT→zf,reduceLeDiff→za,reduceMul→ze
open List renaming getElem?_eq_getElem→zk,getElem?_eq_some_iff→zo,length_append→zm,length_cons→zl,length_nil→zr,mem_append→zp,mem_of_getElem?→zn,mem_or_eq_of_mem_set→z8,mem_singleton→zu,take_length→z7,take_of_length_le→zJ,take_succ_eq_append_getElem→zI
open Go.RowKit
abbrev qgL:IC:=(sR [qO 2 (.box 48 (.t 0)),qO 4 (.mov (.c (.bool false)))] (sR [wF 8 0 2,qL 9 8,wF 10 1 2,qL 11 10,qM 12 1,jC 13 97 [.t 9,.t 11,.t 12],qM 7 13,qO 14 (.ext 0 (.t 7)),qO 15 (.ext 1 (.t 7)),qO 5 (.alc 41 [.str [],.int .i64 0,.int .i64 0]),qS 3 5 14,qM 6 15] (sR [qM 16 6,qM 17 16,⟨some 18,.fla 2 (.t 5),(some (17,true))⟩,⟨some 19,.ld 1 false (.t 18),(some (17,true))⟩,⟨some 20,.bin .eql (.t 19) (cI 1),(some (17,true))⟩,⟨some 21,.mov (.t 20),(some (17,true))⟩,⟨some 22,.fla 2 (.t 5),(some (21,false))⟩,⟨some 23,.ld 1 false (.t 22),(some (21,false))⟩,⟨some 24,.bin .eql (.t 23) (cI 3),(some (21,false))⟩,⟨some 25,.pick (.t 21) (.c (.bool true)) (.t 24),(some (17,true))⟩,qO 26 (.pick (.t 17) (.t 25) (.c (.bool false))),qM 4 26] .ret)))
theorem qgY:chkF Tryz.prog Tryz.f91 qgL [.t 4] 27=true:=by kernel_rfl
abbrev qgJ:IC:=(sR [qO 2 (.box 48 (.t 0)),jI 4 0] (sR [wF 8 0 2,qL 9 8,wF 10 1 2,qL 11 10,qM 12 1,jC 13 97 [.t 9,.t 11,.t 12],qM 7 13,qO 14 (.ext 0 (.t 7)),qO 15 (.ext 1 (.t 7)),qO 5 (.alc 41 [.str [],.int .i64 0,.int .i64 0]),qS 3 5 14,qM 6 15] (.seq (.block 0 (sR [wF 17 3 2,qL 18 17,qM 19 1,jC 20 43 [.t 18,.t 19],qM 16 20] (.cond (.t 16) (sR [jI 4 1] .ret) (sR [qM 22 6,qO 23 (.not (.t 22)),qM 24 23,⟨some 25,.fla 1 (.t 5),(some (24,false))⟩,⟨some 26,.ld 1 false (.t 25),(some (24,false))⟩,⟨some 27,.bin .neq (.t 26) (cI 1),(some (24,false))⟩,qO 28 (.pick (.t 24) (.c (.bool true)) (.t 27)),qM 21 28] (jW 21 (sR [jI 4 2] .ret)))))) (sR [jI 4 0] .ret))))
theorem qgW:chkF Tryz.prog Tryz.f90 qgJ [.t 4] 29=true:=by kernel_rfl
def lawB (p:Par):Bool:=decide (p.2.2=1) || decide (p.2.2=3)
def strg (P D:List Par) (x:List UInt8):Bool:=!(qa4 P D x).2 || !decide ((qa4 P D x).1.2.1=1)
def lawy (P D:List Par) (x:List UInt8):Bool:=lawB (qa4 P D x).1
def outF (P D:List Par) (X:List (List UInt8)) (x:List UInt8):Int:=if x∈X then 1 else if strg P D x=true then 2 else 0
theorem qrk {P D:List Par} {x:List UInt8} (h:(qa4 P D x).2=false):(qa4 P D x).1=p00:=by
 unfold qa4 at h ⊢
 cases h1:qf1 P x with
 |some p=>rw [h1] at h;cases h
 |none=>
  rw [h1] at h
  cases h2:refD D (qlQ x).length (qlQ x) with
  |some d=>simp only [h2] at h;cases h
  |none=>rfl
theorem qkR (P D:List Par) (Ts X:List (List UInt8)) (x:List UInt8) (hB:CB P D Ts X) (hx:x.length≤1000000):PCall Tryz.prog E0 91 [.agg (cirV P D Ts X),.str x] (·=.bool (lawy P D x)):=by
 have hno:=qrk (P:=P) (D:=D) (x:=x)
 refine qah mixed Tryz.func91 qgY ?_
 refine zV ?_
 simp only [cirV,ZZ,WW,Ze,reduceCtorEq,zd,ze,za,zf,zb]
 refine use1 (qip P D x hB.h1 hB.h3 hB.h4 hx) rfl (.inl rfl) ?_
 unfold lawy
 generalize qa4 P D x=q at *
 simp only [parA,par]
 refine zS ?_
 cases hq:q.2 with
 |true=>simp [lawB]
 |false=>simp [hno hq,lawB,p00]
theorem qp4 (P D:List Par) (Ts X:List (List UInt8)) (x:List UInt8) (hB:CB P D Ts X) (hx:x.length≤1000000):PCall Tryz.prog E0 90 [.agg (cirV P D Ts X),.str x] (·=int (outF P D X x)):=by
 have hXl:=hB.h7
 refine qah mixed Tryz.func90 qgW ?_
 refine zV ?_
 simp only [cirV,ZZ,WW,Ze,reduceCtorEq,zd,ze,za,zf,zb]
 refine use1 (qip P D x hB.h1 hB.h3 hB.h4 hx) rfl (.inl rfl) ?_
 unfold outF strg
 generalize qa4 P D x=q at *
 simp only [parA,par]
 refine zS ?_
 refine use1 (qa2 X x (by omega)) rfl (.inl rfl) ?_
 refine zS ?_
 refine br ?_ ?_
 ·intro h
  refine zS ?_
  rw [if_pos (of_decide_eq_true h)]
 intro h
 rw [if_neg (of_decide_eq_false h)]
 refine zS ?_
 refine ⟨fun h=>by rw [h];rfl,?_⟩
 refine br ?_ ?_
 ·intro h
  refine zS ?_
  rw [if_pos h]
 intro h
 refine zS ?_
 rw [if_neg (by rw [h];decide)]
def ownT (m:Ltr):List UInt8:=ownS (ownF (qal m.body) (qal m.body).length)
def parT (m:Ltr):List (List UInt8):=endR (stR (qal m.body) (qal m.body).length).1 (stR (qal m.body) (qal m.body).length).2.1
def mkB (Ts:List (List UInt8)) (s:List UInt8):Bool:=decide (0 < ((qch Ts s).length:Int))
def qxl (Ts:List (List UInt8)) (m:Ltr):Bool:=mkB Ts m.sub || mkB Ts (ownT m)
def ptsS (m:Ltr):List (List UInt8):=qj4 (qoc m)
def ql0 (P D:List Par) (Ts X:List (List UInt8)) (m:Ltr):Int×Int:=
 if (ptsS m).any (fun x=>decide (x∈X))=true then (1,1)
 else if (ptsS m).any (strg P D)=true then (1,2)
 else if (ptsS m).any (lawy P D)=false then (1,3)
 else if (lawy P D m.fr.2 || qxl Ts m)=true then (3,4)
 else if (parT m).any (mkB Ts)=true then (2,5) else (1,6)
def cldV (P D:List Par) (Ts X:List (List UInt8)) (m:Ltr):List PV:=[.str m.id,int (ql0 P D Ts X m).1,int (ql0 P D Ts X m).2]
theorem qtj (l:List (List UInt8)):∀ k,k≤l.length→wgt (ownF l k)≤wgt (l.take k):=by
 intro k
 induction k with
 |zero=>intro _;simp [ownF,wgt]
 |succ k ih=>
  intro hk
  obtain ⟨x,hx⟩:∃ x,l[k]?=some x:=⟨_,zk (by omega)⟩
  have h1:=ih (by omega)
  have h2:=qi9 hx
  have h3:=qk2 hx
  rw [qmX]
  split
  ·rw [qqD]
   simp only [wgt]
   omega
  ·omega
theorem qti (m:Ltr):(ownT m).length≤m.body.length+2:=by
 unfold ownT ownS
 split
 ·simp
 ·have h1:=qlE 10 ((ownF (qal m.body) (qal m.body).length).take (endB (ownF (qal m.body) (qal m.body).length) (ownF (qal m.body) (qal m.body).length).length))
  have h2:=qgo (endB (ownF (qal m.body) (qal m.body).length) (ownF (qal m.body) (qal m.body).length).length) (ownF (qal m.body) (qal m.body).length)
  have h3:=qtj (qal m.body) (qal m.body).length (zL _)
  have h4:=qg8 m.body
  rw [z7] at h3
  simp only [zm,zl,zr]
  omega
theorem qu8 (l:List (List UInt8)):∀ k,k≤l.length→∀ x∈(stR l k).1,x.length≤wgt l:=by
 intro k
 induction k with
 |zero=>intro _ x hx;simp [stR] at hx
 |succ k ih=>
  intro hk x hx
  rw [stR] at hx
  simp only at hx
  split at hx
  ·unfold endR at hx
   split at hx
   ·rcases zp.1 hx with hx|hx
    ·exact ih (by omega) x hx
    ·rw [zu] at hx
     subst hx
     exact zt (qnX l k (by omega)) (qgo k l)
   ·exact ih (by omega) x hx
  ·exact ih (by omega) x hx
theorem qtg (m:Ltr):∀ x∈parT m,x.length≤m.body.length+1:=by
 intro x hx
 have h4:=qg8 m.body
 have h5:=qu8 (qal m.body) (qal m.body).length (zL _)
 have h6:=qnX (qal m.body) (qal m.body).length (zL _)
 rw [z7] at h6
 unfold parT endR at hx
 split at hx
 ·rcases zp.1 hx with hx|hx
  ·have:=h5 x hx;omega
  ·rw [zu] at hx;subst hx;omega
 ·have:=h5 x hx;omega
theorem qth (m:Ltr):(parT m).length≤m.body.length+1:=by
 have h1:=qqR (qal m.body) (qal m.body).length
 have h2:=(qei m.body).1
 unfold parT endR
 split
 ·simp;omega
 ·omega
theorem qte {m:Ltr} (hm:LtB m):(ptsS m).length≤1000000:=by
 obtain ⟨b1,b2,b3,b4,b5,b6,b7,b8,b9,b10,b11⟩:=hm
 have h1:=qmD (qoc m)
 have h2:(qoc m).length=m.tos.length+m.ccs.length+1:=by simp [qoc]
 unfold ptsS
 omega
theorem qtd {m:Ltr} (hm:LtB m):∀ x∈ptsS m,x.length≤1000000:=by
 obtain ⟨b1,b2,b3,b4,b5,b6,b7,b8,b9,b10,b11⟩:=hm
 intro s hs
 have hs:=(qks (qoc m) s).1 hs
 rcases List.mem_cons.1 hs with rfl|hs
 ·omega
 ·obtain ⟨a,ha,rfl⟩:=List.mem_map.1 hs
  rcases zp.1 ha with ha|ha
  ·exact (b5 a ha).2
  ·exact (b7 a ha).2
theorem qc7 (ts:List (List UInt8)) (t:List UInt8) (hl:ts.length≤1000000) (hb:∀ x∈ts,x.length≤25000) (ht:t.length≤25000):PCall Tryz.prog E0 95 [.sl 1 (strE ts),.str t] (·=.sl 1 (strE (qch ts t))):=qqu ts t hl hb ht
theorem qko {P:Program} {w w':World} {n:String} {g:Nat} (hg:P.globalNamed n=some g) (hb:w'.heap[g]?=w.heap[g]?):w'.var? P n=w.var? P n:=by
 simp only [World.var?,hg,Option.bind_some,hb]
def E6:Envt where
 ok w:=E0.ok w∧Lib.TabIs Tryz.prog w "internal/strconv.uint64pow10" .u64 Lib.pow10Tab∧Lib.TabIs Tryz.prog w "strings.asciiSpace" .u8 Lib.asciiSpaceTab
 bl b:=E0.bl b∨b=5∨b=1
 mono w w' hb h:=⟨E0.mono w w' (fun b hbb=>hb b (.inl hbb)) h.1,(qko (by kernel_rfl) (hb _ (.inr (.inl rfl)))).trans h.2.1,(qko (by kernel_rfl) (hb _ (.inr (.inr rfl)))).trans h.2.2⟩
theorem qzV {w:World} (h:E6.ok w):Lib.TabIs Tryz.prog w "strings.asciiSpace" .u8 Lib.asciiSpaceTab:=h.2.2
theorem up6 {f:FuncId} {args:List PV} {φ:PV→Prop} (h:PCall Tryz.prog E0 f args φ):PCall Tryz.prog E6 f args φ:=fun w U vs hU hE hEb hA=>h w U vs hU hE.1 (fun c hc=>hEb c (.inl hc)) hA
theorem qpa {w:World} {U:Nat→Prop} {b:Nat}:∀ (l:List (List UInt8)) (off:Nat),(∀ i x,l[i]?=some x→w.cell? ⟨b,off+i,none⟩=some (.string ⟨x.toArray⟩))→PRepE w U b 1 off (strE l)
 |[],off,h=>trivial
 |x :: r,off,h=>by
  refine ⟨rfl,⟨⟨.string ⟨x.toArray⟩,by simpa using h 0 _ rfl,rfl,rfl⟩,trivial⟩,qpa r (off+1) fun i u hu=>?_⟩
  have:=h (i+1) u (by simpa using hu)
  rwa [show off+(i+1)=off+1+i from by omega] at this
theorem qqx (s:List UInt8) (hs:s.length≤1000000) (ha:s.all (fun b=>decide (b.toNat < 128))=true):PCall Tryz.prog E6 104 [.str s] (·=.sl 1 (strE (Lib.fields s))):=by
 intro w U vs hU hE hEb hA
 have:vs=[.string ⟨s.toArray⟩]:=(PRepL.valD rfl).1 hA
 subst this
 have hdt:(⟨s.toArray⟩:ByteArray).data.toList=s:=by simp
 refine (Any.strings_Fields_laid Tryz.layFields ⟨s.toArray⟩ w (by rw [qc5];omega) (fun j b hb=>of_decide_eq_true (List.all_eq_true.1 ha b (zn (by simpa using hb)))) (qzV hE)).mono ?_
 rw [hdt]
 rintro e w' ⟨rfl,rfl⟩
 refine ⟨_,_,rfl,rfl,?_,⟨rfl,rfl,rfl,by simp,fun k hk _=>Lib.alloc_old w _ k hk⟩⟩
 refine ⟨some ⟨w.heap.size,0,none⟩,(Lib.fields s).length,by rw [qac],by rw [qac];exact zL _,fun _=>⟨w.heap.size,0,rfl,by simp,fun h=>by have:=hU _ h;omega,?_⟩⟩
 refine qpa _ 0 fun i x hx=>?_
 rw [Lib.cell_of_heap (heap_alloc_new w _)]
 simp [hx]
section
variable {E:Envt}
set_option maxHeartbeats 2000000 in
theorem qmm (l:List (List UInt8)) (f:FuncId) (ps:List PV) (q:List UInt8→Bool) (hl:l.length≤1000000000) (hfn:Unit→fnB Tryz.prog f=true) (hps:Zl [] (ps.map .p)=true) (hf:∀ x∈l,PCall Tryz.prog E f (.str x :: ps) (·=.bool (q x))) (hn:∀ x,Zbh [] (.p (.str x) :: ps.map .p)=some (.str x :: ps)) (hr:∀ x,Zbj (.p (.str x) :: ps.map .p)=true):PCall Tryz.prog E 147 [.sl 1 (strE l),.clo f ps] (·=int (idxF q l)):=by
 refine qah mixed Tryz.func147 qcO ?_
 refine zV ?_
 simp only [ZZ,WW,Ze,reduceCtorEq,zd,ze,za,zf,zb,qac]
 refine qad (fun n fr L=>∃ (k:Nat),k≤l.length∧n=l.length - k∧(∀ x∈l.take k,q x=false)∧fr=(.p (.sl 1 (strE l))::.p (.clo f ps)::oC (oo::(.p (int (l.length:Nat))::.p (int (k:Nat))::oD (oB []))))∧L=[]) (l.length) (.p (.sl 1 (strE l))::.p (.clo f ps)::oC (oo::(.p (int (l.length:Nat))::.p (int (0:Nat))::oD (oB [])))) [] (by simp only [qac,ZZ,WW,Ze,reduceCtorEq,zd,ze,za,zf,zb];try trivial) zF_ ⟨0,by omega,by omega,by simp,rfl,rfl⟩ ?_
 rintro n fr L ⟨k,hk,rfl,hno,rfl,rfl⟩
 simp only [qa1,ZZ,WW,Ze,reduceCtorEq,zd,ze,za,zf,zb]
 refine br ?_ ?_
 ·intro h
  have hlt:k < l.length:=by have:=of_decide_eq_true h;omega
  obtain ⟨x,hx⟩:∃ x,l[k]?=some x:=⟨_,zk hlt⟩
  have hg:=qaU hx
  simp only [ZZ,WW,Ze,reduceCtorEq,zd,ze,za,zf,zb,hg,qac,hfn ()]
  refine ⟨⟨by omega,by omega⟩,by omega,hps,?_⟩
  refine use1 (hf x (zn hx)) (hn x) (.inl (hr x)) ?_
  refine zS ?_
  refine br ?_ ?_
  ·intro hq
   refine zS ?_
   rw [qpp hx hq hno]
  ·intro hq
   refine zS ?_
   ((with_reducible and_intros)<;>try exact sc_)
   refine qab (l.length - (k+1)) (.p (.sl 1 (strE l))::.p (.clo f ps)::oC (oo::(.p (int (l.length:Nat))::.p (int ((k+1):Nat))::oD (oB [])))) [] (by omega) zF_ zF_ ⟨k+1,by omega,rfl,by rw [zI hlt];intro y hy;rcases zp.1 hy with hy|hy;exact hno y hy;rw [zu] at hy;rw [hy,(zo.1 hx).2];exact hq,rfl,rfl⟩
 ·intro h
  have hge:l.length≤k:=by have:=of_decide_eq_false h;omega
  rw [zJ hge] at hno
  refine zS ?_
  rw [qnd hno]
theorem qi7 (l:List (List UInt8)) (f:FuncId) (ps:List PV) (q:List UInt8→Bool) (hl:l.length≤1000000000) (hfn:Unit→fnB Tryz.prog f=true) (hps:Zl [] (ps.map .p)=true) (hf:∀ x∈l,PCall Tryz.prog E f (.str x :: ps) (·=.bool (q x))) (hn:∀ x,Zbh [] (.p (.str x) :: ps.map .p)=some (.str x :: ps)) (hr:∀ x,Zbj (.p (.str x) :: ps.map .p)=true):PCall Tryz.prog E 92 [.sl 1 (strE l),.clo f ps] (·=.bool (l.any q)):=by
 refine qah mixed Tryz.func92 qca ?_
 refine zV ?_
 refine use1 (qmm l f ps q hl hfn hps hf hn hr) rfl (.inl rfl) ?_
 refine zS ?_
 rw [qpq]
end
def qc3:IC:=(sR [qT 18 .lss 17 16] (.seq (jE 18) (.seq (.block 1 (sR [qX 19 1 15 17,qL 20 19,qM 10 20] (sR [qM 21 6,qM 22 21,⟨some 23,.fla 3 (.t 2),(some (22,false))⟩,⟨some 24,.ld 1 false (.t 23),(some (22,false))⟩,⟨some 25,.mov (.t 10),(some (22,false))⟩,⟨some 26,.call 43 [.t 24,.t 25],(some (22,false))⟩,qO 27 (.pick (.t 22) (.c (.bool true)) (.t 26)),qM 6 27] (sR [qM 28 7,qM 29 28,⟨some 30,.ld 4 true (.t 2),(some (29,false))⟩,⟨some 31,.mov (.t 10),(some (29,false))⟩,⟨some 32,.call 90 [.t 30,.t 31],(some (29,false))⟩,⟨some 33,.bin .eql (.t 32) (cI 2),(some (29,false))⟩,qO 34 (.pick (.t 29) (.c (.bool true)) (.t 33)),qM 7 34] (.reg [qM 35 8,qM 36 35,⟨some 37,.ld 4 true (.t 2),(some (36,false))⟩,⟨some 38,.mov (.t 10),(some (36,false))⟩,⟨some 39,.call 91 [.t 37,.t 38],(some (36,false))⟩,qO 40 (.pick (.t 36) (.c (.bool true)) (.t 39)),qM 8 40]))))) (.reg [qB 41 .add 17 (cI 1),qM 17 41]))))
abbrev qhn:IC:=(sR [qO 2 (.box 48 (.t 0)),qO 3 (.box 103 (.t 1)),⟨none,.re,none⟩,qO 4 (.alc 110 [.str [],.int .i64 0,.int .i64 0])] (sR [qO 13 (.ld 9 true (.t 3)),jC 14 89 [.t 13],qM 5 14] (sR [qO 6 (.mov (.c (.bool false))),qO 7 (.mov (.c (.bool false))),qO 8 (.mov (.c (.bool false)))] (.seq (sR [qM 15 5,qN 16 15,jI 17 0] (.block 0 (.loop qc3))) (sR [wF 42 8 3,qL 43 42,jC 44 93 [.t 43],qO 45 (.mkf 94 [.t 2]),jC 46 92 [.t 44,.t 45],qM 11 46] (.seq (.drg [wF 47 2 2,qL 48 47,wF 49 7 3,qL 50 49,qO 51 (.pcall 0 95 [.t 48,.t 50]),qN 52 51,qB 53 .gtr 52 (cI 0),qM 54 53,⟨some 55,.fla 2 (.t 2),(some (54,false))⟩,⟨some 56,.ld 1 false (.t 55),(some (54,false))⟩,⟨some 57,.fla 8 (.t 3),(some (54,false))⟩,⟨some 58,.ld 1 false (.t 57),(some (54,false))⟩,⟨some 59,.pcall 1 96 [.t 58],(some (54,false))⟩,⟨some 60,.pcall 2 95 [.t 56,.t 59],(some (54,false))⟩,⟨some 61,.len (.t 60),(some (54,false))⟩,⟨some 62,.bin .gtr (.t 61) (cI 0),(some (54,false))⟩,qO 63 (.pick (.t 54) (.c (.bool true)) (.t 62)),qM 12 63]) (.seq (.block 2 (sR [qM 65 6,qM 64 65] (.cond (.t 64) (sR [wF 66 0 3,qL 67 66,qO 68 (.bld [.str [],.int .i64 0,.int .i64 0] [(0,1,.t 67),(1,1,.c (.int .i64 1)),(2,1,.c (.int .i64 1))]),qS 3 4 68] .ret) (sR [qM 70 7,qM 69 70] (.cond (.t 69) (sR [wF 71 0 3,qL 72 71,qO 73 (.bld [.str [],.int .i64 0,.int .i64 0] [(0,1,.t 72),(1,1,.c (.int .i64 1)),(2,1,.c (.int .i64 2))]),qS 3 4 73] .ret) (sR [qM 75 8,qO 76 (.not (.t 75)),qM 74 76] (.cond (.t 74) (sR [wF 77 0 3,qL 78 77,qO 79 (.bld [.str [],.int .i64 0,.int .i64 0] [(0,1,.t 78),(1,1,.c (.int .i64 1)),(2,1,.c (.int .i64 3))]),qS 3 4 79] .ret) (sR [qO 81 (.ld 4 true (.t 2)),wF 82 2 3,wF 83 1 82,qL 84 83,jC 85 91 [.t 81,.t 84],qM 86 85,⟨some 87,.mov (.t 12),(some (86,false))⟩,qO 88 (.pick (.t 86) (.c (.bool true)) (.t 87)),qM 80 88] (.cond (.t 80) (sR [wF 89 0 3,qL 90 89,qO 91 (.bld [.str [],.int .i64 0,.int .i64 0] [(0,1,.t 90),(1,1,.c (.int .i64 3)),(2,1,.c (.int .i64 4))]),qS 3 4 91] .ret) (sR [qM 93 11,qM 92 93] (jW 92 (sR [wF 94 0 3,qL 95 94,qO 96 (.bld [.str [],.int .i64 0,.int .i64 0] [(0,1,.t 95),(1,1,.c (.int .i64 2)),(2,1,.c (.int .i64 5))]),qS 3 4 96] .ret)))))))))))) (sR [wF 97 0 3,qL 98 97,qO 99 (.bld [.str [],.int .i64 0,.int .i64 0] [(0,1,.t 98),(1,1,.c (.int .i64 1)),(2,1,.c (.int .i64 6))]),qS 3 4 99] .ret))))))))
theorem qhx:chkF Tryz.prog Tryz.f55 qhn [.c 4 3 true] 100=true:=by kernel_rfl
abbrev qfY:IC:=(sR [qO 3 (.mov (.c (.bool false)))] (sR [wF 4 2 1,qL 5 4,qM 6 0,jC 7 95 [.t 5,.t 6],qN 8 7,qB 9 .gtr 8 (cI 0),qM 3 9] .ret))
theorem qgc:chkF Tryz.prog Tryz.f94 qfY [.t 3] 10=true:=by kernel_rfl
theorem qqi (P D:List Par) (Ts X:List (List UInt8)) (s:List UInt8) (hB:CB P D Ts X) (hs:s.length≤25000):PCall Tryz.prog E6 94 [.str s,.ptr [.sl 3 (parE P),.sl 3 (parE D),.sl 1 (strE Ts),.sl 1 (strE X)]] (·=.bool (mkB Ts s)):=by
 refine qah mixed Tryz.func94 qgc ?_
 refine zV ?_
 refine use1 (up6 (qc7 Ts s hB.h5 hB.h6 hs)) rfl (.inl rfl) ?_
 simp only [ZZ,WW,Ze,reduceCtorEq,zd,ze,za,zf,zb,qac]
 rfl
abbrev qnV:Nat:=110
theorem ql9 {α:Type} {l:List α} {k:Nat} {x:α} (q:α→Bool) (h:l[k]?=some x):(l.take (k+1)).any q=((l.take k).any q || q x):=by
 rw [List.take_add_one,h,List.any_append]
 simp
theorem qtk {P D:List Par} {X:List (List UInt8)} {x:List UInt8}:decide (outF P D X x=2)=(!decide (x∈X) && strg P D x):=by
 unfold outF
 by_cases h:x∈X
 ·simp [h]
 ·cases h2:strg P D x<;>simp [h]
theorem qul (A:List (List UInt8)) (f g:List UInt8→Bool) (h:A.any f=false):A.any (fun x=>!f x && g x)=A.any g:=by
 induction A with
 |nil=>rfl
 |cons x r ih=>
  rw [List.any_cons,Bool.or_eq_false_iff] at h
  rw [List.any_cons,List.any_cons,ih h.2,h.1]
  rfl
set_option maxHeartbeats 8000000 in
set_option maxRecDepth 100000 in
theorem qqA (P D:List Par) (Ts X:List (List UInt8)) (m:Ltr) (hB:CB P D Ts X) (hm:LtB m) (hbd:m.body.length≤20000) (hsub:m.sub.length≤25000):PCall Tryz.prog E6 55 [.agg (cirV P D Ts X),.agg (ltV m)] (·=.agg (cldV P D Ts X m)):=by
 have hpa:PCall Tryz.prog E6 89 [.agg (ltV m)] (·=.sl 1 (strE (ptsS m))):=qnJ m hm
 have hown:PCall Tryz.prog E0 96 [.str m.body] (·=.str (ownT m)):=quq m.body (by omega)
 have hpar:PCall Tryz.prog E0 93 [.str m.body] (·=.sl 1 (strE (parT m))):=qj2 m.body hbd
 have hXl:=hB.h7
 have hAl:=qte hm
 have hAm:=qtd hm
 have hol:=qti m
 have hpm:=qtg m
 have hpl:=qth m
 have hfr:m.fr.2.length≤1000000:=hm.2.2.1
 have hcl:∀ q,ql0 P D Ts X m=q→cldV P D Ts X m=[.str m.id,int q.1,int q.2]:=fun q h=>by rw [cldV,h]
 unfold ql0 at hcl
 unfold qxl at hcl
 have hcal:=fun s hs=>qqi P D Ts X s hB hs
 have hout:=fun x hx=>qp4 P D Ts X x hB hx
 have hcou:=fun x hx=>qkR P D Ts X x hB hx
 generalize cldV P D Ts X m=res at *
 generalize ptsS m=A at *
 generalize ownT m=ow at *
 generalize parT m=pa at *
 simp only [ltV] at hpa
 simp only [cirV] at hout hcou
 refine qah mixed Tryz.func55 qhx ?_
 refine zV ?_
 simp only [cirV,ltV,ZZ,WW,Ze,reduceCtorEq,zd,ze,za,zf,zb]
 rw [qky]
 refine ⟨_,_,ReOk.trans (quJ (k:=.l 2) (cs:=[.sl 3 (parE P),.sl 3 (parE D),.sl 1 (strE Ts),.sl 1 (strE X)]) rfl) (quJ (k:=.l 3) (cs:=[.str m.id,int m.at_,.str m.fr.1,.str m.fr.2,.sl 2 (adrE m.tos),.sl 2 (adrE m.ccs),.sl 1 (strE m.refs),.str m.sub,.str m.body]) rfl),?_⟩
 refine zS ?_
 refine use1 hpa rfl (.inl rfl) ?_
 simp only [ZZ,WW,Ze,reduceCtorEq,zd,ze,za,zf,zb,qac]
 refine qad (fun n fr L=>∃ (k:Nat) (p:Bool) (a:Bool) (b:Bool),k≤A.length∧n=A.length - k∧(p=(A.take k).any (fun x=>decide (x∈X)))∧(a=(A.take k).any (fun x=>!decide (x∈X) && strg P D x))∧(b=(A.take k).any (lawy P D))∧fr=(oo::oo::.p (.ptr [.sl 3 (parE P),.sl 3 (parE D),.sl 1 (strE Ts),.sl 1 (strE X)])::.p (.ptr [.str m.id,int m.at_,.str m.fr.1,.str m.fr.2,.sl 2 (adrE m.tos),.sl 2 (adrE m.ccs),.sl 1 (strE m.refs),.str m.sub,.str m.body])::.adr (.l 4) 0::oo::.p (.bool p)::.p (.bool a)::.p (.bool b)::oC (oB (.p (.sl 1 (strE A))::.p (int (A.length:Nat))::.p (int (k:Nat))::oG (oE (oB [])))))∧L=[(.l 4,.box [.p (.str []),.p (int 0),.p (int 0)] qnV)]) (A.length) (oo::oo::.p (.ptr [.sl 3 (parE P),.sl 3 (parE D),.sl 1 (strE Ts),.sl 1 (strE X)])::.p (.ptr [.str m.id,int m.at_,.str m.fr.1,.str m.fr.2,.sl 2 (adrE m.tos),.sl 2 (adrE m.ccs),.sl 1 (strE m.refs),.str m.sub,.str m.body])::.adr (.l 4) 0::oo::.p (.bool false)::.p (.bool false)::.p (.bool false)::oC (oB (.p (.sl 1 (strE A))::.p (int (A.length:Nat))::.p (int (0:Nat))::oG (oE (oB []))))) [(.l 4,.box [.p (.str []),.p (int 0),.p (int 0)] qnV)] (by simp only [ZZ,WW,Ze,reduceCtorEq,zd,ze,za,zf,zb,qac];try trivial) zF_ ⟨0,false,false,false,by omega,by omega,by simp,by simp,by simp,rfl,rfl⟩ ?_
 rintro n fr L ⟨k,p,a,b,hk,rfl,hp,ha,hb,rfl,rfl⟩
 simp only [qc3,ZZ,WW,Ze,reduceCtorEq,zd,ze,za,zf,zb]
 refine br ?_ ?_
 ·intro h
  have hlt:k < A.length:=by have:=of_decide_eq_true h;omega
  obtain ⟨x,hx⟩:∃ x,A[k]?=some x:=⟨_,zk hlt⟩
  have hg:=qaU hx
  have hxl:=hAm x (zn hx)
  have t1:=ql9 (fun x=>decide (x∈X)) hx
  have t2:=ql9 (fun x=>!decide (x∈X) && strg P D x) hx
  have t3:=ql9 (lawy P D) hx
  simp only [ZZ,WW,Ze,reduceCtorEq,zd,ze,za,zf,zb,hg,qac]
  ((with_reducible and_intros)<;>try exact sc_)
  refine useG (fun _=>up6 (qa2 X x (by omega))) rfl (.inl rfl) ?_
  refine zS ?_
  ((with_reducible and_intros)<;>try exact sc_)
  refine useG (fun _=>up6 (hout x hxl)) rfl (.inl rfl) ?_
  refine zS ?_
  ((with_reducible and_intros)<;>try exact sc_)
  refine useG (fun _=>up6 (hcou x hxl)) rfl (.inl rfl) ?_
  refine zS ?_
  ((with_reducible and_intros)<;>try exact sc_)
  refine qab (A.length - (k+1)) [oo,oo,.p (.ptr [.sl 3 (parE P),.sl 3 (parE D),.sl 1 (strE Ts),.sl 1 (strE X)]),.p (.ptr [.str m.id,int m.at_,.str m.fr.1,.str m.fr.2,.sl 2 (adrE m.tos),.sl 2 (adrE m.ccs),.sl 1 (strE m.refs),.str m.sub,.str m.body]),.adr (.l 4) 0,oo,.p (.bool ((p || decide (x∈X)))),.p (.bool ((a || decide (outF P D X x=2)))),.p (.bool ((b || lawy P D x))),oo,oo,oo,oo,oo,oo,.p (.sl 1 (strE A)),.p (int (A.length:Nat)),.p (int ((k+1):Nat)),oo,oo,oo,oo,oo,oo,oo,oo,oo,oo,oo,oo,oo,oo,oo,oo,oo,oo,oo,oo,oo,oo,oo,oo,oo,oo,oo,oo,oo,oo,oo,oo,oo,oo,oo,oo,oo,oo,oo,oo,oo,oo,oo,oo,oo,oo,oo,oo,oo,oo,oo,oo,oo,oo,oo,oo,oo,oo,oo,oo,oo,oo,oo,oo,oo,oo,oo,oo,oo,oo,oo,oo,oo,oo,oo,oo,oo,oo,oo,oo,oo,oo] [(.l 4,.box [.p (.str []),.p (int 0),.p (int 0)] qnV)] (by omega) zF_ zF_ ⟨k+1,(p || decide (x∈X)),(a || decide (outF P D X x=2)),(b || lawy P D x),by omega,rfl,by rw [t1,← hp],by rw [t2,← ha,qtk],by rw [t3,← hb],rfl,rfl⟩
 intro h
 have hge:A.length≤k:=by have:=of_decide_eq_false h;omega
 rw [zJ hge] at hp ha hb
 subst hp ha hb
 refine zS ?_
 refine use1 (up6 hpar) rfl (.inl rfl) ?_
 refine zS ?_
 refine use1 (qi7 pa 94 [.ptr [.sl 3 (parE P),.sl 3 (parE D),.sl 1 (strE Ts),.sl 1 (strE X)]] (mkB Ts) (by omega) (fun _=>by kernel_rfl) rfl (fun z hz=>hcal z (by have:=hpm z hz;omega)) (fun _=>rfl) (fun _=>rfl)) rfl (.inr rfl) ?_
 refine zS ?_
 refine drg3 (x1:=.sl 1 (strE (qch Ts m.sub))) (x2:=.str ow) (x3:=.sl 1 (strE (qch Ts ow))) ?_
 simp only [ZZ,WW,Ze,reduceCtorEq,zd,ze,za,zf,zb,qac]
 ((repeat' (with_reducible apply And.intro))<;>try (first|exact usep (up6 (qc7 Ts m.sub hB.h5 hB.h6 (by omega))) rfl (.inl rfl)|exact usep (up6 hown) rfl (.inl rfl)|exact usep (up6 (qc7 Ts ow hB.h5 hB.h6 (by omega))) rfl (.inl rfl)|exact fun h=>⟨h,usep (up6 hown) rfl (.inl rfl)⟩|exact fun h=>⟨h,usep (up6 (qc7 Ts ow hB.h5 hB.h6 (by omega))) rfl (.inl rfl)⟩|(exact sc_)))
 refine br ?_ ?_
 ·intro h1
  have hcl:=hcl (1,1) (by rw [if_pos h1])
  refine zS ?_
  rw [hcl]
 intro h1
 rw [if_neg (by rw [h1];decide)] at hcl
 rw [qul A (fun x=>decide (x∈X)) (strg P D) h1]
 refine zS ?_
 refine br ?_ ?_
 ·intro h
  have hcl:=hcl (1,2) (by rw [if_pos h])
  refine zS ?_
  rw [hcl]
 intro h
 rw [if_neg (by rw [h];decide)] at hcl
 refine zS ?_
 refine br ?_ ?_
 ·intro h2
  have hcl:=hcl (1,3) (by rw [if_pos (by simpa using h2)])
  refine zS ?_
  rw [hcl]
 intro h2
 rw [if_neg (by simpa using h2)] at hcl
 refine zS ?_
 refine use1 (up6 (hcou m.fr.2 hfr)) rfl (.inl rfl) ?_
 refine zS ?_
 have hcnd:(lawy P D m.fr.2 || (mkB Ts m.sub || mkB Ts ow))=(lawy P D m.fr.2 || (decide (0 < ((qch Ts m.sub).length:Int)) || decide (0 < ((qch Ts ow).length:Int)))):=rfl
 rw [hcnd] at hcl
 refine ⟨fun h=>by rw [h];rfl,?_⟩
 refine br ?_ ?_
 ·intro h3
  have hcl:=hcl (3,4) (by rw [if_pos h3])
  refine zS ?_
  rw [hcl]
 intro h3
 rw [if_neg (by rw [h3];decide)] at hcl
 refine zS ?_
 refine br ?_ ?_
 ·intro h4
  have hcl:=hcl (2,5) (by rw [if_pos h4])
  refine zS ?_
  rw [hcl]
 intro h4
 have hcl:=hcl (1,6) (by rw [if_neg (by rw [h4];decide)])
 refine zS ?_
 rw [hcl]
def qbv:IC:=(.seq (sR [qM 20 7,qB 21 .gtr 20 (cI 0)] (.cond (.t 21) .skip (.exit 2))) (.seq (.block 3 (sR [qM 24 0,qM 25 7,qB 26 .add 25 (cI 1),jC 27 17 [.t 24,.t 26],qM 8 27] (.drg [qM 28 5,qM 29 7,qM 30 5,qM 31 8,qM 32 5,qM 33 8,qX 34 1 32 33,qL 35 34,qM 36 5,qM 37 7,qX 38 1 36 37,qL 39 38,qX 40 1 28 29,qS 1 40 35,qX 41 1 30 31,qS 1 41 39]))) (.reg [qM 22 7,qB 23 .sub 22 (cI 1),qM 7 23])))
def qbw:IC:=(sR [qT 11 .lss 10 9] (.seq (jE 11) (.seq (.block 1 (sR [qM 12 10,qM 6 12] (.reg [qM 13 5,qM 14 6,qO 15 (.bsl 1 [.t 14]),qO 16 (.app 3 1 8 (.t 13) (.t 15)),qM 5 16]))) (.reg [qB 17 .add 10 (cI 1),qM 10 17]))))
abbrev qd9:IC:=(sR [qO 4 (.mov (.c (.nl 1)))] (sR [qO 5 (.nilr 3 1)] (.seq (sR [qM 9 1,jI 10 0] (.block 0 (.loop qbw))) (.seq (sR [qM 18 1,qB 19 .sub 18 (cI 1),qM 7 19] (.block 2 (.loop qbv))) (sR [qM 42 5,qM 4 42] .ret)))))
theorem qec:chkF Tryz.prog Tryz.f59 qd9 [.t 4] 43=true:=by kernel_rfl
abbrev qho:IC:=(sR [qO 0 (.mov (.c (.nl 1)))] (sR [qO 1 (.bsl 1 [.c (.str [97,110,110,64,102,105,114,109,46,100,101]),.c (.str [98,111,64,102,105,114,109,46,100,101]),.c (.str [108,97,119,64,111,117,114,115,46,100,101]),.c (.str [97,105,100,64,111,117,114,115,46,100,101]),.c (.str [99,121,64,101,108,115,101,46,100,101]),.c (.str [97,108,108,64,102,105,114,109,46,100,101]),.c (.str [100,101,101,64,120,46,102,105,114,109,46,100,101])]),qM 0 1] .ret))
theorem qhy:chkF Tryz.prog Tryz.f102 qho [.t 0] 2=true:=by kernel_rfl
section
variable {E:Envt}
abbrev qii:Nat:=3
def inR (n:Nat) (o:List Int):Prop:=∀ x∈o,0≤x∧x < n
theorem qhX {o:List Int} {k:Nat} {x:Int} (h:o[k]?=some x):(inE1 o).getD k []=[int x]:=qaR h
theorem qpn (o:List Int) (k:Nat) (x:Int):(inE1 o).set k [int x]=inE1 (o.set k x):=by simp [inE1]
set_option maxHeartbeats 2000000 in
theorem qpP (l:List Int) (k:Nat) (z:Nat) (hk:k≤900000) (hl:l.length≤9223372036854775807) (hn:z≤1000) :
  qih Tryz.prog E 59 T (stm l k) [int (z:Nat)] qii 1 (fun es cs'=>∃ (o:List Int) (k':Nat),es=inE1 o∧o.length=z∧inR z o∧cs'=stm l k'∧k'≤k+z):=by
 unfold qih
 refine qf0 mixed Tryz.func59 qec ?_
 refine zV ?_
 have hR0:([]:List (List PV))=inE1 []:=rfl
 rw [hR0]
 refine qad (fun n fr L=>∃ (i:Nat) (o:List Int),i≤z∧n=z - i∧(o.length=i)∧(inR z o)∧fr=(.adr (.b 0) 0::.p (int (z:Nat))::oo::oo::oo::.row (.l 5)::oo::oo::oo::.p (int (z:Nat))::.p (int (i:Nat))::oF [])∧L=[(.b 0,.box ((stm l k).map .p) T),(.l 5,.row (inE1 o) qii 1 true)]) (z) (.adr (.b 0) 0::.p (int (z:Nat))::oo::oo::oo::.row (.l 5)::oo::oo::oo::.p (int (z:Nat))::.p (int (0:Nat))::oF []) [(.b 0,.box ((stm l k).map .p) T),(.l 5,.row (inE1 []) qii 1 true)] zF_ zF_ ⟨0,[],by omega,by omega,rfl,(fun x hx=>by cases hx),rfl,rfl⟩ ?_
 rintro n fr L ⟨i,o,hi,rfl,ho,hr,rfl,rfl⟩
 simp only [qbw,ZZ,WW,Ze,reduceCtorEq,zd,ze,za,zf,zb]
 refine br ?_ ?_
 ·intro h
  have hlt:i < z:=by have:=of_decide_eq_true h;omega
  simp only [ZZ,WW,Ze,reduceCtorEq,zd,ze,za,zf,zb,qd1,ho]
  ((with_reducible and_intros)<;>try exact sc_)
  rw [qtL]
  refine qab (z - (i+1)) (.adr (.b 0) 0::.p (int (z:Nat))::oo::oo::oo::.row (.l 5)::oo::oo::oo::.p (int (z:Nat))::.p (int ((i+1):Nat))::oF []) [(.b 0,.box ((stm l k).map .p) T),(.l 5,.row (inE1 (o++[(i:Int)])) qii 1 true)] (by omega) zF_ zF_ ⟨i+1,o++[(i:Int)],by omega,rfl,by simp [ho],by intro x hx;rcases zp.1 hx with hx|hx;exact hr x hx;rw [zu] at hx;subst hx;omega,rfl,rfl⟩
 intro h
 have hge:z=i:=by have:=of_decide_eq_false h;omega
 subst hge
 refine zS ?_
 ((with_reducible and_intros)<;>try exact sc_)
 refine qad (fun n fr L=>∃ (j:Nat) (k':Nat) (u:List Int),j=n∧(j≤z)∧(k'+j≤k+z)∧(u.length=z)∧(inR z u)∧fr=(.adr (.b 0) 0::oo::oo::oo::oo::.row (.l 5)::oo::.p (int ((j:Nat) - 1))::oF (oB (oo::[])))∧L=[(.b 0,.box ((stm l k').map .p) T),(.l 5,.row (inE1 u) qii 1 true)]) (z) (.adr (.b 0) 0::oo::oo::oo::oo::.row (.l 5)::oo::.p (int ((z:Nat) - 1))::oF (oB (oo::[]))) [(.b 0,.box ((stm l k).map .p) T),(.l 5,.row (inE1 o) qii 1 true)] zF_ zF_ ⟨z,k,o,rfl,zL _,zL _,ho,hr,rfl,rfl⟩ ?_
 rintro n fr L ⟨j,k',u,rfl,hj,hk',hu,hur,rfl,rfl⟩
 simp only [qbv,ZZ,WW,Ze,reduceCtorEq,zd,ze,za,zf,zb]
 refine br ?_ ?_
 ·intro h
  have h2:2≤j:=by have:=of_decide_eq_true h;omega
  obtain ⟨i,rfl⟩:∃ i,j=i+1:=⟨j - 1,by omega⟩
  have e1:(((i+1:Nat):Int) - 1)=(i:Int):=by omega
  simp only [ZZ,WW,Ze,reduceCtorEq,zd,ze,za,zf,zb,e1]
  ((with_reducible and_intros)<;>try exact sc_)
  refine useS (qc6 l k' _ (by omega) hl (by omega)) rfl rfl rfl zE_ ?_
  rintro x cs' ⟨y,rfl,rfl⟩
  have q1:=qd2 y ((i:Int)+1)
  have q2:=qd3 y ((i:Int)+1) (by omega)
  obtain ⟨p,hp⟩:∃ p:Nat,qeE y ((i:Int)+1)=(p:Nat):=⟨(qeE y ((i:Int)+1)).toNat,by omega⟩
  rw [hp] at q1 q2 ⊢
  clear hp
  obtain ⟨s,hs⟩:∃ s,u[i]?=some s:=⟨_,zk (by omega)⟩
  obtain ⟨t,ht⟩:∃ t,u[p]?=some t:=⟨_,zk (by omega)⟩
  have g1:=qhX hs
  have g2:=qhX ht
  refine zS ?_
  refine drg0 ?_
  simp only [ZZ,WW,Ze,reduceCtorEq,zd,ze,za,zf,zb,g1,g2,qd1,hu]
  have g3:((inE1 u).set i [int t]).set p ((((inE1 u).set i [int t]).getD p []).set 0 (int s))=inE1 ((u.set i t).set p s):=by
   rw [qpn]
   obtain ⟨v,hv⟩:∃ v,(u.set i t)[p]?=some v:=⟨_,zk (by rw [List.length_set];omega)⟩
   rw [qhX hv]
   exact qpn _ _ _
  have g4:((inE1 u).set i [int t]).length=z:=by rw [List.length_set,qd1,hu]
  have g5:=hur s (zn hs)
  have g6:=hur t (zn ht)
  rw [g3,g4]
  refine ⟨⟨by omega,by omega⟩,by omega,⟨by omega,by omega⟩,by omega,⟨by omega,by omega⟩,by omega,⟨by omega,by omega⟩,by omega,qai (by omega) (by omega),?_⟩
  refine qab ((i)) (.adr (.b 0) 0::oo::oo::oo::oo::.row (.l 5)::oo::.p (int (((i):Nat) - 1))::oF (oB (oo::[]))) [(.b 0,.box ((stm l (k'+1)).map .p) T),(.l 5,.row (inE1 ((u.set i t).set p s)) qii 1 true)] (by omega) zF_ zF_ ⟨i,k'+1,(u.set i t).set p s,rfl,by omega,by omega,by simp [hu],by intro x hx;rcases z8 hx with hx|rfl;(rcases z8 hx with hx|rfl;(exact hur x hx);(exact g6));exact g5,rfl,rfl⟩
 intro h
 refine zS ?_
 exact qf2 5 _ (stm l k') rfl rfl rfl ⟨u,k',rfl,hu,hur,rfl,by omega⟩
def peA:List (List UInt8):=[[97,110,110,64,102,105,114,109,46,100,101],[98,111,64,102,105,114,109,46,100,101],[108,97,119,64,111,117,114,115,46,100,101],[97,105,100,64,111,117,114,115,46,100,101],[99,121,64,101,108,115,101,46,100,101],[97,108,108,64,102,105,114,109,46,100,101],[100,101,101,64,120,46,102,105,114,109,46,100,101]]
theorem qjF:∀ s∈peA,s.length≤60:=by decide
theorem qfG:PCall Tryz.prog E 102 [] (·=strs peA):=by
 refine qah mixed Tryz.func102 qhy ?_
 refine zV ?_
 rfl
end
structure LtM (N:Nat) (m:Ltr):Prop where
 b1:m.id.length≤30000
 b2:m.fr.1.length≤30000
 b3:m.fr.2.length≤30000
 b4:m.tos.length≤N
 b5:∀ a∈m.tos,a.1.length≤30000∧a.2.length≤30000
 b6:m.ccs.length≤N
 b7:∀ a∈m.ccs,a.1.length≤30000∧a.2.length≤30000
 b8:m.refs.length≤N
 b9:∀ r∈m.refs,r.length≤30000
 b10:m.sub.length≤25000
 b11:m.body.length≤19900+N
 b12:-1000000000≤m.at_∧m.at_≤1000000000
theorem LtM.big {N:Nat} {m:Ltr} (h:LtM N m) (hN:N≤100000):LtB m:=
 ⟨by have:=h.b1;omega,by have:=h.b2;omega,by have:=h.b3;omega,by have:=h.b4;omega,fun a ha=>by have:=h.b5 a ha;omega,by have:=h.b6;omega,fun a ha=>by have:=h.b7 a ha;omega,by have:=h.b8;omega,fun a ha=>by have:=h.b9 a ha;omega,by have:=h.b10;omega,by have:=h.b11;omega⟩
theorem LtM.le {N M:Nat} {m:Ltr} (h:LtM N m) (hN:N≤M):LtM M m:=
 ⟨h.b1,h.b2,h.b3,zt h.b4 hN,h.b5,zt h.b6 hN,h.b7,zt h.b8 hN,h.b9,h.b10,zt h.b11 (by omega),h.b12⟩
section
variable {E:Envt}
end
def rlwL:List (List UInt8):=[[],[108,97,119,121,101,114],[99,108,105,101,110,116],[104,101,108,112,101,114],[111,116,104,101,114]]
def rwd (n:Nat):List UInt8:=rlwL.getD n []
theorem qn2 (n:Nat):(rwd n).length≤6:=by
 have:∀ x∈rlwL,x.length≤6:=by decide
 unfold rwd
 rw [List.getD_eq_getElem?_getD]
 cases h:rlwL[n]? with
 |none=>simp
 |some x=>exact this x (zn h)
def rolC (f:AdT→Int) (n:Nat) (R:List (List UInt8)) (a:AdT):Bool:=decide (f a=(n:Nat)) && !decide (rwd n∈R)
def rol1 (f:AdT→Int) (n:Nat) (R:List (List UInt8)) (a:AdT):List (List UInt8):=if rolC f n R a=true then R++[rwd n] else R
def rolS (f:AdT→Int) (n:Nat) (R:List (List UInt8)) (A:List AdT):List (List UInt8):=A.foldl (rol1 f n) R
def rolN (f:AdT→Int) (A:List AdT):Nat→List (List UInt8)
 |0=>[]
 |n+1=>rolS f (n+1) (rolN f A n) A
theorem qra {f:AdT→Int} {n:Nat} {R:List (List UInt8)} {A:List AdT} {k:Nat} {a:AdT} (h:A[k]?=some a):rolS f n R (A.take (k+1))=rol1 f n (rolS f n R (A.take k)) a:=by
 obtain ⟨hk,e⟩:=zo.1 h
 rw [zI hk,rolS,List.foldl_append,e]
 rfl
theorem qn8 (f:AdT→Int) (n:Nat):∀ (A:List AdT) (R:List (List UInt8)),(∀ s∈R,s.length≤6)→(rolS f n R A).length≤R.length+A.length∧∀ s∈rolS f n R A,s.length≤6
 |[],R,h=>⟨by simp [rolS],h⟩
 |a :: A,R,h=>by
  have e:rolS f n R (a :: A)=rolS f n (rol1 f n R a) A:=rfl
  have h1:(rol1 f n R a).length≤R.length+1∧∀ s∈rol1 f n R a,s.length≤6:=by
   unfold rol1
   split
   ·refine ⟨by simp,fun s hs=>?_⟩
    rcases zp.1 hs with hs|hs
    ·exact h s hs
    ·rw [zu] at hs
     rw [hs]
     exact qn2 n
   ·exact ⟨by omega,h⟩
  have h2:=qn8 f n A (rol1 f n R a) h1.2
  rw [e]
  refine ⟨?_,h2.2⟩
  have:=h2.1
  have:=h1.1
  simp only [zl]
  omega
theorem qlg (f:AdT→Int) (A:List AdT) (hA:A.length≤200):∀ n,(rolN f A n).length≤200 * n∧∀ s∈rolN f A n,s.length≤6
 |0=>⟨by simp [rolN],fun s hs=>by cases hs⟩
 |n+1=>by
  have h:=qlg f A hA n
  have h2:=qn8 f (n+1) A (rolN f A n) h.2
  refine ⟨?_,h2.2⟩
  have:=h2.1
  have:=h.1
  show (rolS f (n+1) (rolN f A n) A).length≤_
  omega
def trm1 (g:List UInt8→Bool) (R:List (List UInt8)) (t:List UInt8):List (List UInt8):=if (g t && decide ((R.length:Int) < 3))=true then R++[t] else R
def trmS (g:List UInt8→Bool) (T:List (List UInt8)):List (List UInt8):=T.foldl (trm1 g) []
theorem qmx {g:List UInt8→Bool} {T:List (List UInt8)} {k:Nat} {t:List UInt8} (h:T[k]?=some t):trmS g (T.take (k+1))=trm1 g (trmS g (T.take k)) t:=by
 obtain ⟨hk,e⟩:=zo.1 h
 rw [zI hk,trmS,List.foldl_append,e]
 rfl
theorem qnS (g:List UInt8→Bool) (T:List (List UInt8)):∀ k,k≤T.length→(trmS g (T.take k)).length≤3∧∀ s∈trmS g (T.take k),s∈T
 |0,_=>⟨by simp [trmS],fun s hs=>by cases hs⟩
 |k+1,hk=>by
  have ih:=qnS g T k (by omega)
  have hx:T[k]?=some T[k]:=zk (by omega)
  rw [qmx hx]
  unfold trm1
  split
  ·rename_i h
   rw [Bool.and_eq_true,decide_eq_true_eq] at h
   refine ⟨by rw [zm];simp only [zl,zr];omega,fun s hs=>?_⟩
   rcases zp.1 hs with hs|hs
   ·exact ih.2 s hs
   ·rw [zu] at hs
    rw [hs]
    exact List.getElem_mem _
  ·exact ih
def desG (Ts:List (List UInt8)) (m:Ltr) (t:List UInt8):Bool:=decide ((0:Int) < ((qch [t] m.sub).length:Int)+((qch [t] m.body).length:Int))
def desR (P D:List Par) (m:Ltr):List (List UInt8):=rolN (fun a=>(qa4 P D a.2).1.2.2) (m.tos++m.ccs) 4
def desB (P D:List Par) (m:Ltr):List (List UInt8):=if (((desR P D m).length:Nat):Int)=0 then [[110,111,98,111,100,121]] else desR P D m
def desO (P D:List Par) (m:Ltr):List UInt8:=if lawy P D m.fr.2=true then [97,100,118,105,99,101] else [114,101,113,117,101,115,116]
def desS (P D:List Par) (m:Ltr):List UInt8:=desO P D m++((([32,102,114,111,109,32]++rwd (qa4 P D m.fr.2).1.2.2.toNat)++[32,116,111,32])++Lib.join (desB P D m) [44,32])
def desT (Ts:List (List UInt8)) (m:Ltr):List (List UInt8):=trmS (desG Ts m) Ts
def desF (P D:List Par) (Ts:List (List UInt8)) (m:Ltr):List UInt8:=if (0:Int) < ((desT Ts m).length:Nat) then desS P D m++([32,114,101,32]++Lib.join (desT Ts m) [44,32]) else desS P D m
theorem qji (m:Nat) (l:List (List UInt8)) (h:∀ x∈l,x.length≤m):(Lib.join l [44,32]).length≤l.length * (m+2):=by
 have h1:=qlB m l h
 cases l with
 |nil=>simp [Lib.join]
 |cons x r=>
  rw [Lib.join_length]
  simp only [zl,zr] at *
  have:(r.length+1) * (m+2)=(r.length+1) * m+(r.length+1) * 2:=Nat.mul_add _ _ _
  omega
theorem qr1 (P D:List Par) (m:Ltr) (hA:(m.tos++m.ccs).length≤200):(desB P D m).length≤800∧∀ s∈desB P D m,s.length≤6:=by
 have h:=qlg (fun a=>(qa4 P D a.2).1.2.2) (m.tos++m.ccs) hA 4
 unfold desB
 split
 ·exact ⟨by simp,by simp⟩
 ·exact ⟨h.1,h.2⟩
theorem qpz (P D:List Par) (m:Ltr) (hA:(m.tos++m.ccs).length≤200):(desS P D m).length≤10000:=by
 have h:=qr1 P D m hA
 have h2:=qji 6 (desB P D m) h.2
 have h3:=qn2 (qa4 P D m.fr.2).1.2.2.toNat
 have h4:(desO P D m).length≤7:=by unfold desO;split<;>decide
 have h1:=h.1
 simp only [desS,zm,zl,zr]
 omega
theorem qr0 (Ts:List (List UInt8)) (m:Ltr):(desT Ts m).length≤3∧∀ s∈desT Ts m,s∈Ts:=by
 have h:=qnS (desG Ts m) Ts Ts.length (zL _)
 rw [z7] at h
 exact h
theorem qtZ (P D:List Par) (Ts:List (List UInt8)) (m:Ltr) (hA:(m.tos++m.ccs).length≤200) (hT:∀ t∈Ts,t.length≤25000):(desF P D Ts m).length≤200000:=by
 have h1:=qpz P D m hA
 have h2:=qr0 Ts m
 have h3:=qji 25000 (desT Ts m) (fun x hx=>hT x (h2.2 x hx))
 have h4:(desT Ts m).length * (25000+2)≤3 * (25000+2):=zP _ h2.1
 unfold desF
 split
 ·simp only [zm,zl,zr]
  omega
 ·omega
abbrev qfV:IC:=(sR [qO 2 (.mov (.c (.str [])))] (sR [qO 3 (.bsl 1 [.c (.str []),.c (.str [108,97,119,121,101,114]),.c (.str [99,108,105,101,110,116]),.c (.str [104,101,108,112,101,114]),.c (.str [111,116,104,101,114])]),qM 4 0,qX 5 1 3 4,qL 6 5,qM 2 6] .ret))
theorem qf9:chkF Tryz.prog Tryz.f98 qfV [.t 2] 7=true:=by kernel_rfl
def qbR:IC:=(sR [qT 93 .lss 92 91] (.seq (.cond (.t 93) .skip (.exit 4)) (.seq (.block 5 (sR [qX 94 1 90 92,qL 95 94,qM 16 95] (.seq (.drg [qM 96 16,qO 97 (.bsl 1 [.t 96]),wF 98 7 3,qL 99 98,qO 100 (.pcall 0 95 [.t 97,.t 99]),qN 101 100,qM 102 16,qO 103 (.bsl 1 [.t 102]),wF 104 8 3,qL 105 104,qO 106 (.pcall 1 95 [.t 103,.t 105]),qN 107 106,qT 108 .add 101 107,qB 109 .gtr 108 (cI 0),qM 110 109,⟨some 111,.mov (.t 14),(some (110,true))⟩,⟨some 112,.len (.t 111),(some (110,true))⟩,⟨some 113,.bin .lss (.t 112) (cI 3),(some (110,true))⟩,qO 114 (.pick (.t 110) (.t 113) (.c (.bool false)))]) (jW 114 (.reg [qM 115 14,qM 116 16,qO 117 (.bsl 1 [.t 116]),qO 118 (.app 9 1 16 (.t 115) (.t 117)),qM 14 118]))))) (.cut (.reg [qB 119 .add 92 (cI 1),qM 92 119])))))
def qbS:IC:=(sR [qT 45 .lss 44 43] (.seq (.cond (.t 45) .skip (.exit 2)) (.seq (.block 3 (sR [qX 46 2 42 44,qO 47 (.ld 2 true (.t 46)),qO 11 (.alc 100 [.str [],.str []]),qS 2 11 47] (sR [wF 49 0 2,qL 50 49,wF 51 1 2,qL 52 51,wF 53 1 11,qL 54 53,jC 55 97 [.t 50,.t 52,.t 54],qM 48 55,qO 56 (.ext 0 (.t 48)),qO 57 (.ext 1 (.t 48)),qO 12 (.alc 41 [.str [],.int .i64 0,.int .i64 0]),qS 3 12 56,qM 13 57] (sR [wF 58 2 12,qL 59 58,qM 60 9,qT 61 .eql 59 60,qM 62 61,⟨some 63,.mov (.t 8),(some (62,true))⟩,⟨some 64,.mov (.t 9),(some (62,true))⟩,⟨some 65,.call 98 [.t 64],(some (62,true))⟩,⟨some 66,.call 43 [.t 63,.t 65],(some (62,true))⟩,⟨some 67,.not (.t 66),(some (62,true))⟩,qO 68 (.pick (.t 62) (.t 67) (.c (.bool false)))] (jW 68 (.reg [qM 69 8,qM 70 9,jC 71 98 [.t 70],qO 72 (.bsl 1 [.t 71]),qO 73 (.app 9 1 16 (.t 69) (.t 72)),qM 8 73])))))) (.cut (.reg [qB 74 .add 44 (cI 1),qM 44 74])))))
def qbT:IC:=(.seq (sR [qM 33 9,qB 34 .leq 33 (cI 4)] (jE 34)) (.seq (.block 1 (sR [wF 37 4 3,qL 38 37,wF 39 5 3,qL 40 39,qO 41 (.bsl 1 [.t 38,.t 40]),jC 42 57 [.t 41],qN 43 42,jI 44 0] (.block 2 (.loop qbS)))) (.reg [qM 35 9,qB 36 .add 35 (cI 1),qM 9 36])))
abbrev qeT:IC:=(sR [qO 2 (.box 48 (.t 0)),qO 3 (.box 103 (.t 1)),qO 4 (.mov (.c (.str [])))] (sR [wF 18 0 2,qL 19 18,wF 20 1 2,qL 21 20,wF 22 2 3,wF 23 1 22,qL 24 23,jC 25 97 [.t 19,.t 21,.t 24],qM 17 25,qO 26 (.ext 0 (.t 17)),qO 27 (.ext 1 (.t 17)),qO 5 (.alc 41 [.str [],.int .i64 0,.int .i64 0]),qS 3 5 26,qM 6 27] (sR [qO 7 (.mov (.c (.str [114,101,113,117,101,115,116])))] (.seq (sR [qO 28 (.ld 4 true (.t 2)),wF 29 2 3,wF 30 1 29,qL 31 30,jC 32 91 [.t 28,.t 31]] (jW 32 (.reg [qO 7 (.mov (.c (.str [97,100,118,105,99,101])))]))) (.cut (sR [qO 8 (.nilr 9 1)] (.seq (sR [jI 9 1] (.block 0 (.loop qbT))) (.seq (sR [qM 75 8,qN 76 75,qB 77 .eql 76 (cI 0)] (jW 77 (.reg [qO 78 (.bsr 9 1 [.c (.str [110,111,98,111,100,121])]),qM 8 78]))) (.cut (sR [qM 79 7,wF 80 2 5,qL 81 80,jC 82 98 [.t 81],qO 83 (.bin .add (.c (.str [32,102,114,111,109,32])) (.t 82)),qB 84 .add 83 (.c (.str [32,116,111,32])),qM 85 8,jC 86 33 [.t 85,.c (.str [44,32])],qT 87 .add 84 86,qT 88 .add 79 87,qM 7 88] (sR [qO 14 (.nilr 9 1)] (.seq (sR [wF 89 2 2,qL 90 89,qN 91 90,jI 92 0] (.block 4 (.loop qbR))) (.seq (sR [qM 120 14,qN 121 120,qB 122 .gtr 121 (cI 0)] (jW 122 (.reg [qM 123 7,qM 124 14,jC 125 33 [.t 124,.c (.str [44,32])],qO 126 (.bin .add (.c (.str [32,114,101,32])) (.t 125)),qT 127 .add 123 126,qM 7 127]))) (.cut (sR [qM 128 7,qM 4 128] .ret)))))))))))))))
theorem qe0:chkF Tryz.prog Tryz.f56 qeT [.t 4] 129=true:=by kernel_rfl
theorem qjB {E:Envt} (n:Int) (h0:0≤n) (h4:n≤4):PCall Tryz.prog E 98 [int n] (·=.str (rwd n.toNat)):=by
 refine qah mixed Tryz.func98 qf9 ?_
 refine zV ?_
 obtain ⟨k,rfl⟩:∃ k:Nat,n=(k:Nat):=⟨n.toNat,by omega⟩
 have hk:k < 5:=by omega
 match k,hk with
 |0,_|1,_|2,_|3,_|4,_=>
  refine zS ?_
  exact ⟨⟨by decide,by decide⟩,rfl⟩
theorem qm2 (x t:List UInt8):(qch [x] t).length≤1:=by
 have h:∀ l:List (List UInt8),(qch l t).length≤l.length:=fun l=>by unfold qch;exact List.length_filter_le _ _
 exact h [x]
def DoM1 (P D:List Par) (Ts X:List (List UInt8)) (m:Ltr) (q:Par) (fr:List AV) (L:Objs):Prop:=fr=(oo::oo::.adr (.l 2) 0::.adr (.l 3) 0::oo::.adr (.l 5) 0::oo::.p (.str (desO P D m))::oG (oF (oE (oD (oo::[])))))∧L=[(.l 2,.box [.p (.sl 3 (parE P)),.p (.sl 3 (parE D)),.p (.sl 1 (strE Ts)),.p (.sl 1 (strE X))] qaN),(.l 3,.box [.p (.str m.id),.p (int m.at_),.p (.str m.fr.1),.p (.str m.fr.2),.p (.sl 2 (adrE m.tos)),.p (.sl 2 (adrE m.ccs)),.p (.sl 1 (strE m.refs)),.p (.str m.sub),.p (.str m.body)] qax),(.l 5,.box [.p (.str q.1),.p (int q.2.1),.p (int q.2.2)] 41)]
def DoM2 (P D:List Par) (Ts X:List (List UInt8)) (m:Ltr) (q:Par) (fr:List AV) (L:Objs):Prop:=fr=(oo::oo::.adr (.l 2) 0::.adr (.l 3) 0::oo::.adr (.l 5) 0::oo::.p (.str (desO P D m))::.p (.sl 1 (strE (desB P D m)))::oG (oF (oE (oD []))))∧L=[(.l 2,.box [.p (.sl 3 (parE P)),.p (.sl 3 (parE D)),.p (.sl 1 (strE Ts)),.p (.sl 1 (strE X))] qaN),(.l 3,.box [.p (.str m.id),.p (int m.at_),.p (.str m.fr.1),.p (.str m.fr.2),.p (.sl 2 (adrE m.tos)),.p (.sl 2 (adrE m.ccs)),.p (.sl 1 (strE m.refs)),.p (.str m.sub),.p (.str m.body)] qax),(.l 5,.box [.p (.str q.1),.p (int q.2.1),.p (int q.2.2)] 41)]
set_option maxRecDepth 100000 in
set_option maxHeartbeats 8000000 in
theorem qmp (P D:List Par) (Ts X:List (List UInt8)) (m:Ltr) (hB:CB P D Ts X) (hm:LtM 100 m) (hbd:m.body.length≤25000) (hR:∀ x,0≤(qa4 P D x).1.2.2∧(qa4 P D x).1.2.2≤4):PCall Tryz.prog E0 56 [.agg (cirV P D Ts X),.agg (ltV m)] (·=.str (desF P D Ts m)):=by
 obtain ⟨b1,b2,b3,b4,b5,b6,b7,b8,b9,b10,b11,b12⟩:=hm
 have hcou:=qkR P D Ts X m.fr.2 hB (by omega)
 simp only [cirV] at hcou
 have hpo:=fun x hx=>qip P D x hB.h1 hB.h3 hB.h4 hx
 have hT5:=hB.h5
 have hAl:(m.tos++m.ccs).length≤200:=by simp;omega
 have hdb:=qr1 P D m hAl
 have hds:=qpz P D m hAl
 refine qah mixed Tryz.func56 qe0 ?_
 refine zV ?_
 simp only [cirV,ltV,ZZ,WW,Ze,reduceCtorEq,zd,ze,za,zf,zb]
 refine use1 (hpo m.fr.2 (by omega)) rfl (.inl rfl) ?_
 have hq:=hR m.fr.2
 generalize hqe:(qa4 P D m.fr.2).1=q at *
 generalize (qa4 P D m.fr.2).2=qb
 simp only [ZZ,WW,Ze,reduceCtorEq,zd,ze,za,zf,zb,parA,par]
 refine use1 hcou rfl (.inl rfl) ?_
 refine zS ?_
 refine qe3 (DoM1 P D Ts X m q) ?_ ?_ ?_
 ·intro h
  have hd:desO P D m=[97,100,118,105,99,101]:=by unfold desO;rw [if_pos h]
  refine zS ?_
  exact qc9 (oo::oo::.adr (.l 2) 0::.adr (.l 3) 0::oo::.adr (.l 5) 0::oo::.p (.str [97,100,118,105,99,101])::oG (oF (oE (oD (oo::[]))))) [(.l 2,.box [.p (.sl 3 (parE P)),.p (.sl 3 (parE D)),.p (.sl 1 (strE Ts)),.p (.sl 1 (strE X))] qaN),(.l 3,.box [.p (.str m.id),.p (int m.at_),.p (.str m.fr.1),.p (.str m.fr.2),.p (.sl 2 (adrE m.tos)),.p (.sl 2 (adrE m.ccs)),.p (.sl 1 (strE m.refs)),.p (.str m.sub),.p (.str m.body)] qax),(.l 5,.box [.p (.str q.1),.p (int q.2.1),.p (int q.2.2)] 41)] zF_ zE_ ⟨by rw [hd],rfl⟩
 ·intro h
  have hd:desO P D m=[114,101,113,117,101,115,116]:=by unfold desO;rw [if_neg (by rw [h];decide)]
  refine zS ?_
  exact qc9 (oo::oo::.adr (.l 2) 0::.adr (.l 3) 0::oo::.adr (.l 5) 0::oo::.p (.str [114,101,113,117,101,115,116])::oG (oF (oE (oD (oo::[]))))) [(.l 2,.box [.p (.sl 3 (parE P)),.p (.sl 3 (parE D)),.p (.sl 1 (strE Ts)),.p (.sl 1 (strE X))] qaN),(.l 3,.box [.p (.str m.id),.p (int m.at_),.p (.str m.fr.1),.p (.str m.fr.2),.p (.sl 2 (adrE m.tos)),.p (.sl 2 (adrE m.ccs)),.p (.sl 1 (strE m.refs)),.p (.str m.sub),.p (.str m.body)] qax),(.l 5,.box [.p (.str q.1),.p (int q.2.1),.p (int q.2.2)] 41)] zF_ zE_ ⟨by rw [hd],rfl⟩
 rintro fr L ⟨rfl,rfl⟩
 have hb:∀ a∈m.tos++m.ccs,a.1.length≤1000000∧a.2.length≤1000000:=fun a ha=>(zp.1 ha).elim (fun h=>by have:=b5 a h;omega) (fun h=>by have:=b7 a h;omega)
 have hcat:=qiE (E:=E0) [m.tos,m.ccs] (by simp) (by simp [qgE];omega)
 rw [cat2] at hcat
 have hRB:∃ f:AdT→Int,f=fun a=>(qa4 P D a.2).1.2.2:=⟨_,rfl⟩
 obtain ⟨f,hf⟩:=hRB
 have hdR:desR P D m=rolN f (m.tos++m.ccs) 4:=by rw [hf];rfl
 have hdB:desB P D m=if (((desR P D m).length:Nat):Int)=0 then [[110,111,98,111,100,121]] else desR P D m:=rfl
 rw [hdR] at hdB
 clear hdR
 generalize m.tos++m.ccs=A at *
 have hR0:([]:List (List PV))=strE []:=rfl
 generalize hob:desO P D m=ob at *
 refine zS ?_
 rw [hR0]
 refine qad (fun n fr L=>∃ (rl:Nat) (R:List (List UInt8)),5 - rl=n∧(1≤rl∧rl≤5)∧(R=rolN f A (rl - 1))∧fr=(oo::oo::.adr (.l 2) 0::.adr (.l 3) 0::oo::.adr (.l 5) 0::oo::.p (.str ob)::.row (.l 8)::.p (int (rl:Nat))::oG (oF (oE (oC (oB (oo::[]))))))∧L=[(.l 2,.box [.p (.sl 3 (parE P)),.p (.sl 3 (parE D)),.p (.sl 1 (strE Ts)),.p (.sl 1 (strE X))] qaN),(.l 3,.box [.p (.str m.id),.p (int m.at_),.p (.str m.fr.1),.p (.str m.fr.2),.p (.sl 2 (adrE m.tos)),.p (.sl 2 (adrE m.ccs)),.p (.sl 1 (strE m.refs)),.p (.str m.sub),.p (.str m.body)] qax),(.l 5,.box [.p (.str q.1),.p (int q.2.1),.p (int q.2.2)] 41),(.l 8,.row (strE R) tStr 1 true)]) (5 - 1) (oo::oo::.adr (.l 2) 0::.adr (.l 3) 0::oo::.adr (.l 5) 0::oo::.p (.str ob)::.row (.l 8)::.p (int (1:Nat))::oG (oF (oE (oC (oB (oo::[])))))) [(.l 2,.box [.p (.sl 3 (parE P)),.p (.sl 3 (parE D)),.p (.sl 1 (strE Ts)),.p (.sl 1 (strE X))] qaN),(.l 3,.box [.p (.str m.id),.p (int m.at_),.p (.str m.fr.1),.p (.str m.fr.2),.p (.sl 2 (adrE m.tos)),.p (.sl 2 (adrE m.ccs)),.p (.sl 1 (strE m.refs)),.p (.str m.sub),.p (.str m.body)] qax),(.l 5,.box [.p (.str q.1),.p (int q.2.1),.p (int q.2.2)] 41),(.l 8,.row (strE []) tStr 1 true)] zF_ zF_ ⟨1,[],rfl,by omega,rfl,rfl,rfl⟩ ?_
 rintro n fr L ⟨rl,R,rfl,hr1,hre,rfl,rfl⟩
 simp only [qbT,ZZ,WW,Ze,reduceCtorEq,zd,ze,za,zf,zb]
 refine br ?_ ?_
 ·intro h
  have h4:rl≤4:=by have:=of_decide_eq_true h;omega
  have hRb:=qlg f A hAl (rl - 1)
  rw [← hre] at hRb
  refine zS ?_
  refine useF hcat rfl rfl ?_
  rintro es rfl
  simp only [ZZ,WW,Ze,reduceCtorEq,zd,ze,za,zf,zb,qaY]
  refine qis (fun n fr L=>∃ (k:Nat) (S:List (List UInt8)),k≤A.length∧n=A.length - k∧(S=rolS f rl R (A.take k))∧fr=(oo::oo::.adr (.l 2) 0::.adr (.l 3) 0::oo::.adr (.l 5) 0::oo::.p (.str ob)::.row (.l 8)::.p (int (rl:Nat))::oF (.p (.sl 2 (adrE A))::.p (int (A.length:Nat))::.p (int (k:Nat))::oG (oE (oC []))))∧L=[(.l 2,.box [.p (.sl 3 (parE P)),.p (.sl 3 (parE D)),.p (.sl 1 (strE Ts)),.p (.sl 1 (strE X))] qaN),(.l 3,.box [.p (.str m.id),.p (int m.at_),.p (.str m.fr.1),.p (.str m.fr.2),.p (.sl 2 (adrE m.tos)),.p (.sl 2 (adrE m.ccs)),.p (.sl 1 (strE m.refs)),.p (.str m.sub),.p (.str m.body)] qax),(.l 5,.box [.p (.str q.1),.p (int q.2.1),.p (int q.2.2)] 41),(.l 8,.row (strE S) tStr 1 true)]) (A.length) (oo::oo::.adr (.l 2) 0::.adr (.l 3) 0::oo::.adr (.l 5) 0::oo::.p (.str ob)::.row (.l 8)::.p (int (rl:Nat))::oF (.p (.sl 2 (adrE A))::.p (int (A.length:Nat))::.p (int (0:Nat))::oG (oE (oC [])))) [(.l 2,.box [.p (.sl 3 (parE P)),.p (.sl 3 (parE D)),.p (.sl 1 (strE Ts)),.p (.sl 1 (strE X))] qaN),(.l 3,.box [.p (.str m.id),.p (int m.at_),.p (.str m.fr.1),.p (.str m.fr.2),.p (.sl 2 (adrE m.tos)),.p (.sl 2 (adrE m.ccs)),.p (.sl 1 (strE m.refs)),.p (.str m.sub),.p (.str m.body)] qax),(.l 5,.box [.p (.str q.1),.p (int q.2.1),.p (int q.2.2)] 41),(.l 8,.row (strE R) tStr 1 true)] (ReOk.trans (qdx (k:=.l 42) rfl) (by simp only [ZZ,WW,Ze,reduceCtorEq,zd,ze,za,zf,zb];exact qbq zF_ zE_)) ⟨0,R,by omega,by omega,by simp [rolS],rfl,rfl⟩ ?_
  rintro n fr L ⟨k,S,hk,rfl,hse,rfl,rfl⟩
  simp only [qbS,ZZ,WW,Ze,reduceCtorEq,zd,ze,za,zf,zb]
  have hSb:=qn8 f rl (A.take k) R hRb.2
  rw [← hse] at hSb
  have hSl:S.length≤2000:=by have:=hSb.1;have:=hRb.1;have:(A.take k).length≤200:=(by simp;omega);omega
  refine br ?_ ?_
  ·intro h7
   have hlt:k < A.length:=by have:=of_decide_eq_true h7;omega
   obtain ⟨x,hx⟩:∃ x,A[k]?=some x:=⟨_,zk hlt⟩
   have hg:=qmh hx
   have hbx:=hb x (zn hx)
   have hnx:=qra (f:=f) (n:=rl) (R:=R) hx
   rw [← hse] at hnx
   have hfx:f x=(qa4 P D x.2).1.2.2:=by rw [hf]
   simp only [ZZ,WW,Ze,reduceCtorEq,zd,ze,za,zf,zb,hg,qaY]
   ((with_reducible and_intros)<;>try exact sc_)
   refine use1 (hpo x.2 hbx.2) rfl (.inl rfl) ?_
   have hp:=hR x.2
   generalize (qa4 P D x.2).1=p at *
   generalize (qa4 P D x.2).2=pb
   simp only [ZZ,WW,Ze,reduceCtorEq,zd,ze,za,zf,zb,parA,par]
   have hrw:=qjB (E:=E0) (rl:Nat) (by omega) (by omega)
   rw [Int.toNat_natCast] at hrw
   refine useG (fun _=>hrw) rfl (.inl rfl) ?_
   refine zS ?_
   refine useG (fun _=>qa2 S (rwd rl) (by omega)) rfl (.inr rfl) ?_
   refine zS ?_
   have hcc:rolC f rl S x=(decide (p.2.2=(rl:Nat)) && !decide (rwd rl∈S)):=by unfold rolC;rw [hfx]
   refine br ?_ ?_
   ·intro h8
    refine zS ?_
    refine use1 hrw rfl (.inl rfl) ?_
    simp only [ZZ,WW,Ze,reduceCtorEq,zd,ze,za,zf,zb,qac]
    refine ⟨by omega,?_⟩
    rw [show strE S++[[PV.str (rwd rl)]]=strE (S++[rwd rl]) from by rw [qdV];rfl]
    refine qae zE_ ?_
    refine zS ?_
    refine ⟨qai (by omega) (by omega),?_⟩
    refine qab (A.length - (k+1)) (oo::oo::.adr (.l 2) 0::.adr (.l 3) 0::oo::.adr (.l 5) 0::oo::.p (.str ob)::.row (.l 8)::.p (int (rl:Nat))::oF (.p (.sl 2 (adrE A))::.p (int (A.length:Nat))::.p (int ((k+1):Nat))::oG (oE (oC [])))) [(.l 2,.box [.p (.sl 3 (parE P)),.p (.sl 3 (parE D)),.p (.sl 1 (strE Ts)),.p (.sl 1 (strE X))] qaN),(.l 3,.box [.p (.str m.id),.p (int m.at_),.p (.str m.fr.1),.p (.str m.fr.2),.p (.sl 2 (adrE m.tos)),.p (.sl 2 (adrE m.ccs)),.p (.sl 1 (strE m.refs)),.p (.str m.sub),.p (.str m.body)] qax),(.l 5,.box [.p (.str q.1),.p (int q.2.1),.p (int q.2.2)] 41),(.l 8,.row (strE (S++[rwd rl])) tStr 1 true)] (by omega) zF_ zF_ ⟨k+1,S++[rwd rl],by omega,rfl,by rw [hnx,rol1,if_pos (by rw [hcc,h8])],rfl,rfl⟩
   ·intro h8
    refine zS ?_
    refine qae zE_ ?_
    refine zS ?_
    refine ⟨qai (by omega) (by omega),?_⟩
    refine qab (A.length - (k+1)) (oo::oo::.adr (.l 2) 0::.adr (.l 3) 0::oo::.adr (.l 5) 0::oo::.p (.str ob)::.row (.l 8)::.p (int (rl:Nat))::oF (.p (.sl 2 (adrE A))::.p (int (A.length:Nat))::.p (int ((k+1):Nat))::oG (oE (oC [])))) [(.l 2,.box [.p (.sl 3 (parE P)),.p (.sl 3 (parE D)),.p (.sl 1 (strE Ts)),.p (.sl 1 (strE X))] qaN),(.l 3,.box [.p (.str m.id),.p (int m.at_),.p (.str m.fr.1),.p (.str m.fr.2),.p (.sl 2 (adrE m.tos)),.p (.sl 2 (adrE m.ccs)),.p (.sl 1 (strE m.refs)),.p (.str m.sub),.p (.str m.body)] qax),(.l 5,.box [.p (.str q.1),.p (int q.2.1),.p (int q.2.2)] 41),(.l 8,.row (strE S) tStr 1 true)] (by omega) zF_ zF_ ⟨k+1,S,by omega,rfl,by rw [hnx,rol1,if_neg (by rw [hcc,h8];decide)],rfl,rfl⟩
  ·intro h7
   have hge:A.length≤k:=by have:=of_decide_eq_false h7;omega
   have hkk:A.take k=A:=zJ hge
   rw [hkk,hre] at hse
   refine zS ?_
   refine ⟨qai (by omega) (by omega),?_⟩
   refine qab (5 - (rl+1)) (oo::oo::.adr (.l 2) 0::.adr (.l 3) 0::oo::.adr (.l 5) 0::oo::.p (.str ob)::.row (.l 8)::.p (int ((rl+1):Nat))::oG (oF (oE (oC (oB (oo::[])))))) [(.l 2,.box [.p (.sl 3 (parE P)),.p (.sl 3 (parE D)),.p (.sl 1 (strE Ts)),.p (.sl 1 (strE X))] qaN),(.l 3,.box [.p (.str m.id),.p (int m.at_),.p (.str m.fr.1),.p (.str m.fr.2),.p (.sl 2 (adrE m.tos)),.p (.sl 2 (adrE m.ccs)),.p (.sl 1 (strE m.refs)),.p (.str m.sub),.p (.str m.body)] qax),(.l 5,.box [.p (.str q.1),.p (int q.2.1),.p (int q.2.2)] 41),(.l 8,.row (strE (S)) tStr 1 true)] (by omega) zF_ zF_ ⟨rl+1,S,rfl,by omega,by rw [hse];obtain ⟨n,rfl⟩:∃ n,rl=n+1:=⟨rl - 1,by omega⟩;rfl,rfl,rfl⟩
 intro h
 have h5:rl=5:=by have:=of_decide_eq_false h;omega
 subst h5
 have hre:R=rolN f A 4:=hre
 rw [← hre] at hdB
 have hRb:=qlg f A hAl 4
 rw [← hre] at hRb
 simp only [ZZ,WW,Ze,reduceCtorEq,zd,ze,za,zf,zb,qac]
 refine qe3 (DoM2 P D Ts X m q) ?_ ?_ ?_
 ·intro h6
  rw [if_pos (of_decide_eq_true h6)] at hdB
  refine zS ?_
  exact ⟨_,_,ReOk.trans (qdx (k:=.l 78) rfl) (by simp only [ZZ,WW,Ze,reduceCtorEq,zd,ze,za,zf,zb];exact qbq (fr':=(oo::oo::.adr (.l 2) 0::.adr (.l 3) 0::oo::.adr (.l 5) 0::oo::.p (.str ob)::.p (.sl 1 (strE [[110,111,98,111,100,121]]))::oG (oF (oE (oD []))))) (L':=[(.l 2,.box [.p (.sl 3 (parE P)),.p (.sl 3 (parE D)),.p (.sl 1 (strE Ts)),.p (.sl 1 (strE X))] qaN),(.l 3,.box [.p (.str m.id),.p (int m.at_),.p (.str m.fr.1),.p (.str m.fr.2),.p (.sl 2 (adrE m.tos)),.p (.sl 2 (adrE m.ccs)),.p (.sl 1 (strE m.refs)),.p (.str m.sub),.p (.str m.body)] qax),(.l 5,.box [.p (.str q.1),.p (int q.2.1),.p (int q.2.2)] 41)]) zF_ zE_),⟨by rw [hdB,hob],rfl⟩⟩
 ·intro h6
  rw [if_neg (of_decide_eq_false h6)] at hdB
  refine zS ?_
  exact ⟨_,_,ReOk.trans (qdx (k:=.l 8) rfl) (by simp only [ZZ,WW,Ze,reduceCtorEq,zd,ze,za,zf,zb];exact qbq (fr':=(oo::oo::.adr (.l 2) 0::.adr (.l 3) 0::oo::.adr (.l 5) 0::oo::.p (.str ob)::.p (.sl 1 (strE R))::oG (oF (oE (oD []))))) (L':=[(.l 2,.box [.p (.sl 3 (parE P)),.p (.sl 3 (parE D)),.p (.sl 1 (strE Ts)),.p (.sl 1 (strE X))] qaN),(.l 3,.box [.p (.str m.id),.p (int m.at_),.p (.str m.fr.1),.p (.str m.fr.2),.p (.sl 2 (adrE m.tos)),.p (.sl 2 (adrE m.ccs)),.p (.sl 1 (strE m.refs)),.p (.str m.sub),.p (.str m.body)] qax),(.l 5,.box [.p (.str q.1),.p (int q.2.1),.p (int q.2.2)] 41)]) zF_ zE_),⟨by rw [hdB,hob],rfl⟩⟩
 rintro fr L ⟨rfl,rfl⟩
 rw [hob]
 refine zS ?_
 have hrl:=qn2 q.2.2.toNat
 have hjb:=qji 6 (desB P D m) hdb.2
 have hjc:(desB P D m).length * (6+2)≤800 * (6+2):=zP _ hdb.1
 have hdS:desS P D m=ob++((([32,102,114,111,109,32]++rwd q.2.2.toNat)++[32,116,111,32])++Lib.join (desB P D m) [44,32]):=by unfold desS;rw [hob,hqe]
 have hobl:ob.length≤7:=by rw [← hob];unfold desO;split<;>decide
 refine use1 (qjB q.2.2 hq.1 hq.2) rfl (.inl rfl) ?_
 refine zS ?_
 refine ⟨by omega,by omega,?_⟩
 refine use1 (qef (desB P D m) [44,32] (by omega) (by omega)) rfl (.inl rfl) ?_
 refine zS ?_
 refine ⟨by simp only [zm,zl,zr];omega,by simp only [zm,zl,zr];omega,?_⟩
 rw [show ob++32 :: 102 :: 114 :: 111 :: 109 :: 32 :: (rwd q.2.2.toNat++[32,116,111,32]++Lib.join (desB P D m) [44,32])=desS P D m from by rw [hdS];simp]
 clear hdS hjb hjc
 have hdF:desF P D Ts m=if (0:Int) < ((desT Ts m).length:Nat) then desS P D m++([32,114,101,32]++Lib.join (desT Ts m) [44,32]) else desS P D m:=rfl
 have hTb:=qr0 Ts m
 have hT6:=hB.h6
 have hdT:desT Ts m=trmS (desG Ts m) Ts:=rfl
 generalize desS P D m=sS at *
 simp only [ZZ,WW,Ze,reduceCtorEq,zd,ze,za,zf,zb,qac]
 rw [hR0]
 refine qad (fun n fr L=>∃ (k:Nat) (S:List (List UInt8)),k≤Ts.length∧n=Ts.length - k∧(S=trmS (desG Ts m) (Ts.take k))∧fr=(oo::oo::.adr (.l 2) 0::.adr (.l 3) 0::oo::oo::oo::.p (.str sS)::oC (oB (.row (.l 14)::oG (oD (oB (oo::(.p (.sl 1 (strE Ts))::.p (int (Ts.length:Nat))::.p (int (k:Nat))::oF (oC []))))))))∧L=[(.l 2,.box [.p (.sl 3 (parE P)),.p (.sl 3 (parE D)),.p (.sl 1 (strE Ts)),.p (.sl 1 (strE X))] qaN),(.l 3,.box [.p (.str m.id),.p (int m.at_),.p (.str m.fr.1),.p (.str m.fr.2),.p (.sl 2 (adrE m.tos)),.p (.sl 2 (adrE m.ccs)),.p (.sl 1 (strE m.refs)),.p (.str m.sub),.p (.str m.body)] qax),(.l 14,.row (strE S) tStr 1 true)]) (Ts.length) (oo::oo::.adr (.l 2) 0::.adr (.l 3) 0::oo::oo::oo::.p (.str sS)::oC (oB (.row (.l 14)::oG (oD (oB (oo::(.p (.sl 1 (strE Ts))::.p (int (Ts.length:Nat))::.p (int (0:Nat))::oF (oC [])))))))) [(.l 2,.box [.p (.sl 3 (parE P)),.p (.sl 3 (parE D)),.p (.sl 1 (strE Ts)),.p (.sl 1 (strE X))] qaN),(.l 3,.box [.p (.str m.id),.p (int m.at_),.p (.str m.fr.1),.p (.str m.fr.2),.p (.sl 2 (adrE m.tos)),.p (.sl 2 (adrE m.ccs)),.p (.sl 1 (strE m.refs)),.p (.str m.sub),.p (.str m.body)] qax),(.l 14,.row (strE []) tStr 1 true)] (by simp only [ZZ,WW,Ze,reduceCtorEq,zd,ze,za,zf,zb,qac];try trivial) zF_ ⟨0,[],by omega,by omega,rfl,rfl,rfl⟩ ?_
 rintro n fr L ⟨k,S,hk,rfl,hse,rfl,rfl⟩
 simp only [qbR,ZZ,WW,Ze,reduceCtorEq,zd,ze,za,zf,zb]
 have hSb:=qnS (desG Ts m) Ts k hk
 rw [← hse] at hSb
 refine br ?_ ?_
 ·intro h7
  have hlt:k < Ts.length:=by have:=of_decide_eq_true h7;omega
  obtain ⟨x,hx⟩:∃ x,Ts[k]?=some x:=⟨_,zk hlt⟩
  have hg:=qaU hx
  have hbx:=hT6 x (zn hx)
  have hnx:=qmx (g:=desG Ts m) hx
  rw [← hse] at hnx
  have hx1:∀ t∈[x],t.length≤25000:=fun t ht=>by rw [zu] at ht;rw [ht];exact hbx
  have m1:PCall Tryz.prog E0 95 [.sl 1 [[.str x]],.str m.sub] (·=.sl 1 (strE (qch [x] m.sub))):=qc7 [x] m.sub (by simp) hx1 (by omega)
  have m2:PCall Tryz.prog E0 95 [.sl 1 [[.str x]],.str m.body] (·=.sl 1 (strE (qch [x] m.body))):=qc7 [x] m.body (by simp) hx1 hbd
  have hgx:desG Ts m x=decide ((0:Int) < ((qch [x] m.sub).length:Int)+((qch [x] m.body).length:Int)):=rfl
  simp only [ZZ,WW,Ze,reduceCtorEq,zd,ze,za,zf,zb,hg,qac]
  refine ⟨⟨by omega,by omega⟩,by omega,?_⟩
  refine drg2 (x1:=.sl 1 (strE (qch [x] m.sub))) (x2:=.sl 1 (strE (qch [x] m.body))) ?_
  simp only [ZZ,WW,Ze,reduceCtorEq,zd,ze,za,zf,zb,qac]
  have l1:=qm2 x m.sub
  have l2:=qm2 x m.body
  refine ⟨usep m1 rfl (.inl rfl),usep m2 rfl (.inl rfl),qai (by omega) (by omega),?_⟩
  rw [← hgx]
  refine br ?_ ?_
  ·intro h8
   simp only [ZZ,WW,Ze,reduceCtorEq,zd,ze,za,zf,zb,qac]
   refine ⟨by omega,?_⟩
   rw [show strE S++[[PV.str x]]=strE (S++[x]) from by rw [qdV];rfl]
   refine qae zE_ ?_
   refine zS ?_
   refine ⟨qai (by omega) (by omega),?_⟩
   refine qab (Ts.length - (k+1)) (oo::oo::.adr (.l 2) 0::.adr (.l 3) 0::oo::oo::oo::.p (.str sS)::oC (oB (.row (.l 14)::oG (oD (oB (oo::(.p (.sl 1 (strE Ts))::.p (int (Ts.length:Nat))::.p (int ((k+1):Nat))::oF (oC [])))))))) [(.l 2,.box [.p (.sl 3 (parE P)),.p (.sl 3 (parE D)),.p (.sl 1 (strE Ts)),.p (.sl 1 (strE X))] qaN),(.l 3,.box [.p (.str m.id),.p (int m.at_),.p (.str m.fr.1),.p (.str m.fr.2),.p (.sl 2 (adrE m.tos)),.p (.sl 2 (adrE m.ccs)),.p (.sl 1 (strE m.refs)),.p (.str m.sub),.p (.str m.body)] qax),(.l 14,.row (strE (S++[x])) tStr 1 true)] (by omega) zF_ zF_ ⟨k+1,S++[x],by omega,rfl,by rw [hnx,trm1,if_pos h8],rfl,rfl⟩
  ·intro h8
   refine zS ?_
   refine qae zE_ ?_
   refine zS ?_
   refine ⟨qai (by omega) (by omega),?_⟩
   refine qab (Ts.length - (k+1)) (oo::oo::.adr (.l 2) 0::.adr (.l 3) 0::oo::oo::oo::.p (.str sS)::oC (oB (.row (.l 14)::oG (oD (oB (oo::(.p (.sl 1 (strE Ts))::.p (int (Ts.length:Nat))::.p (int ((k+1):Nat))::oF (oC [])))))))) [(.l 2,.box [.p (.sl 3 (parE P)),.p (.sl 3 (parE D)),.p (.sl 1 (strE Ts)),.p (.sl 1 (strE X))] qaN),(.l 3,.box [.p (.str m.id),.p (int m.at_),.p (.str m.fr.1),.p (.str m.fr.2),.p (.sl 2 (adrE m.tos)),.p (.sl 2 (adrE m.ccs)),.p (.sl 1 (strE m.refs)),.p (.str m.sub),.p (.str m.body)] qax),(.l 14,.row (strE S) tStr 1 true)] (by omega) zF_ zF_ ⟨k+1,S,by omega,rfl,by rw [hnx,trm1,if_neg (by rw [h8];decide)],rfl,rfl⟩
 ·intro h7
  have hge:Ts.length≤k:=by have:=of_decide_eq_false h7;omega
  rw [zJ hge,← hdT] at hse
  rw [hse]
  have hj2:=qji 25000 (desT Ts m) (fun x hx=>hT6 x (hTb.2 x hx))
  have hj3:(desT Ts m).length * (25000+2)≤3 * (25000+2):=zP _ hTb.1
  simp only [ZZ,WW,Ze,reduceCtorEq,zd,ze,za,zf,zb,qac]
  refine br ?_ ?_
  ·intro h8
   rw [if_pos (of_decide_eq_true h8)] at hdF
   simp only [ZZ,WW,Ze,reduceCtorEq,zd,ze,za,zf,zb,qac]
   refine use1 (qef (desT Ts m) [44,32] (by omega) (by omega)) rfl (.inr rfl) ?_
   refine zS ?_
   refine ⟨by omega,by omega,?_⟩
   refine qae zE_ ?_
   refine zS ?_
   rw [hdF]
   simp
  ·intro h8
   rw [if_neg (of_decide_eq_false h8)] at hdF
   refine zS ?_
   refine qae zE_ ?_
   refine zS ?_
   rw [hdF]
end Go.Proofs.YtjgdjinhkgjpeabGreatDoor
namespace Go.Proofs.YtjgdjinhkgjpeabGreatDoor
open List renaming mem_cons→zG
structure OrdP {α:Type} (lt:α→α→Bool):Prop where
 asym:∀ x y,lt x y=true→lt y x=false
 ntr:∀ x y z,lt x y=false→lt y z=false→lt x z=false
def SrtP {α:Type} (lt:α→α→Bool) (l:List α):Prop:=l.Pairwise fun u v=>lt v u=false
section
variable {α:Type} {lt:α→α→Bool}
theorem qpm {A B:List α} {x:α} (hO:OrdP lt) (h1:SrtP lt (A++B)) (h2:∀ b∈B,lt x b=true) (h3:A=[]∨∃ A' y,A=A'++[y]∧lt x y=false):SrtP lt (A++x :: B):=by
 unfold SrtP at *
 rw [List.pairwise_append] at h1 ⊢
 obtain ⟨hA,hB,hAB⟩:=h1
 refine ⟨hA,List.pairwise_cons.2 ⟨fun b hb=>hO.asym _ _ (h2 b hb),hB⟩,fun u hu v hv=>?_⟩
 rcases zG.1 hv with rfl|hv
 ·rcases h3 with rfl|⟨A',y,rfl,hy⟩
  ·cases hu
  ·rcases List.mem_append.1 hu with hu|hu
   ·exact hO.ntr _ y _ hy ((List.pairwise_append.1 hA).2.2 u hu y (by simp))
   ·rw [List.mem_singleton] at hu
    subst hu
    exact hy
 ·exact hAB u hu v hv
theorem qsG {β:Type} (f:α→β) (A R:List α) (x y:α):(((A++y :: x :: R).map f).set (A.length+1) (f y)).set A.length (f x)=(A++x :: y :: R).map f:=by
 simp [List.set_append]
theorem qsH {β:Type} (f:α→β) (A R:List α) (x y:α) (d:β):((A++y :: x :: R).map f).getD (A.length+1) d=f x∧((A++y :: x :: R).map f).getD A.length d=f y:=by
 constructor<;>simp [List.getD]
theorem qtJ {A B:List α} {x y:α} (h1:SrtP lt ((A++[y])++B)) (h2:∀ b∈B,lt x b=true) (h:lt x y=true):SrtP lt (A++(y :: B))∧∀ b∈y :: B,lt x b=true:=by
 refine ⟨by simpa using h1,fun b hb=>?_⟩
 rcases zG.1 hb with rfl|hb
 ·exact h
 ·exact h2 b hb
end
structure CmpP {α:Type} (c:α→α→Int):Prop where
 anti:∀ x y,c x y < 0↔0 < c y x
 tr:∀ x y z,c x y≤0→c y z≤0→c x z≤0
def ltC {α:Type} (c:α→α→Int) (x y:α):Bool:=decide (c x y < 0)
def orC {α:Type} (c d:α→α→Int) (x y:α):Int:=if c x y=0 then d x y else c x y
section
variable {α β:Type} {c d:α→α→Int}
theorem CmpP.ord (h:CmpP c):OrdP (ltC c) where
 asym x y h1:=by
  simp only [ltC,decide_eq_true_eq,decide_eq_false_iff_not] at *
  have:=h.anti x y
  omega
 ntr x y z h1 h2:=by
  simp only [ltC,decide_eq_false_iff_not] at *
  have a1:=h.anti x y
  have a2:=h.anti y z
  have a3:=h.anti x z
  have a4:=h.anti y x
  have a5:=h.anti z y
  have:=h.tr z y x
  omega
theorem CmpP.or (h:CmpP c) (k:CmpP d):CmpP (orC c d) where
 anti x y:=by
  have a1:=h.anti x y
  have a2:=h.anti y x
  have a3:=k.anti x y
  unfold orC
  split<;>split<;>omega
 tr x y z:=by
  have a1:=h.anti x y
  have a2:=h.anti y x
  have a3:=h.anti y z
  have a4:=h.anti z y
  have a5:=h.anti x z
  have a6:=h.anti z x
  have t1:=h.tr x y z
  have t2:=h.tr y z x
  have t3:=h.tr z x y
  have t4:=h.tr z y x
  have t5:=k.tr x y z
  unfold orC
  intro h1 h2
  split at h1<;>split at h2<;>split<;>omega
theorem CmpP.zero:CmpP (fun (_ _:α)=>(0:Int)):=⟨fun _ _=>by omega,fun _ _ _ _ _=>by omega⟩
theorem CmpP.on (f:β→α) (h:CmpP c):CmpP (fun x y=>c (f x) (f y)):=⟨fun _ _=>h.anti _ _,fun _ _ _=>h.tr _ _ _⟩
theorem CmpP.sub:CmpP (fun (x y:Int)=>x - y):=⟨fun _ _=>by omega,fun _ _ _ _ _=>by omega⟩
end
theorem qr7:∀ a b:List UInt8,Lib.compareBytes a b=- Lib.compareBytes b a
 |[],[]=>rfl
 |[],_ :: _=>rfl
 |_ :: _,[]=>rfl
 |a :: r,b :: s=>by
  have ih:=qr7 r s
  simp only [Lib.compareBytes,UInt8.lt_iff_toNat_lt]
  by_cases p1:a.toNat < b.toNat<;>by_cases p2:b.toNat < a.toNat<;>simp only [p1,p2,if_true,if_false]<;>omega
theorem qx8:∀ a b c:List UInt8,Lib.compareBytes a b≤0→Lib.compareBytes b c≤0→Lib.compareBytes a c≤0
 |[],_,[],_,_=>by decide
 |[],_,_ :: _,_,_=>by simp [Lib.compareBytes]
 |_ :: _,[],_,h,_=>by simp [Lib.compareBytes] at h
 |_ :: _,_ :: _,[],_,h=>by simp [Lib.compareBytes] at h
 |a :: r,b :: s,c :: t,h1,h2=>by
  have ih:=qx8 r s t
  simp only [Lib.compareBytes,UInt8.lt_iff_toNat_lt] at h1 h2 ⊢
  by_cases p1:a.toNat < b.toNat<;>by_cases p2:b.toNat < a.toNat<;>by_cases q1:b.toNat < c.toNat<;>by_cases q2:c.toNat < b.toNat<;>by_cases r1:a.toNat < c.toNat<;>by_cases r2:c.toNat < a.toNat<;>simp only [p1,p2,q1,q2,r1,r2,if_true,if_false] at h1 h2 ⊢<;>first|omega|exact ih h1 h2
theorem CmpP.cb:CmpP Lib.compareBytes:=⟨fun x y=>by have:=qr7 x y;omega,qx8⟩
end Go.Proofs.YtjgdjinhkgjpeabGreatDoor
