import Derived.Test.YtinffddgojhdfaaGreatDoorZ12
set_option linter.unusedVariables false
set_option linter.unusedSimpArgs false
set_option linter.defProp false
namespace Go.Proofs.YtinffddgojhdfaaGreatDoor
open Nat renaming reduceAdd→zd,reduceEqDiff→zb,reduceLT→zf,reduceLeDiff→za,reduceMul→ze,reduceSub→zu
open List renaming cons_append→zo,getElem?_eq_getElem→zp,length_cons→zm,length_nil→zr,map_cons→zl,map_nil→zt,mem_cons→zG,mem_of_getElem?→zH,mem_or_eq_of_mem_set→z7,nil_append→zq,not_mem_nil→zR,replicate_succ→zk,replicate_zero→zn
open Go.RowKit
def qbA:IC:=(.seq (.reg [qO 23 (.bin .lss (.t 22) (.t 21))]) (.seq (.cond (.t 23) .skip (.exit 0)) (.seq (.block 1 (.seq (.reg [qM 24 0,qO 25 (.call 17 [.t 24,.c (.int .i64 3)]),qM 5 25]) (.seq (.reg [qM 26 0,qO 27 (.call 17 [.t 26,.c (.int .i64 6)])]) (.block 2 (.seq (.reg [qO 62 (.bin .eql (.t 27) (.c (.int .i64 0))),qM 61 62]) (.cond (.t 61) (.seq (.drg [qM 64 4,qM 65 5,qO 66 (.ixa 1 (.t 64) (.t 65)),qO 67 (.ldl 1 false (.t 66)),qM 68 4,qM 69 0,qO 70 (.dcall true 17 [.t 69,.c (.int .i64 3)]),qO 71 (.ixa 1 (.t 68) (.t 70)),qO 72 (.ldl 1 false (.t 71)),qO 73 (.pcall 0 32 [.t 67,.t 72]),qM 63 73,qO 74 (.ext 0 (.t 63)),qO 75 (.ext 1 (.t 63)),qM 6 74,qM 7 75]) (.seq (.reg [qM 76 7,qO 77 (.bin .eql (.t 76) (.c (.int .i64 0)))]) (.cond (.t 77) (.reg [qM 78 4,qM 79 5,qM 80 6,qO 81 (.ixa 1 (.t 78) (.t 79)),⟨none,.st 1 (.t 81) (.t 80),none⟩]) .skip))) (.seq (.seq (.reg [qO 83 (.bin .eql (.t 27) (.c (.int .i64 1))),qM 82 83]) (.cond (.t 82) .skip (.reg [qO 84 (.bin .eql (.t 27) (.c (.int .i64 2))),qM 82 84]))) (.cut (.cond (.t 82) (.seq (.seq (.reg [qM 85 4,qM 86 5,qO 87 (.ixa 1 (.t 85) (.t 86)),qO 88 (.ld 1 false (.t 87)),qO 89 (.len (.t 88)),qO 90 (.bin .eql (.t 89) (.c (.int .i64 0)))]) (.cond (.t 90) (.exit 1) .skip)) (.seq (.drg [⟨none,.fz (.t 101),none⟩,qM 92 4,qM 93 5,qO 94 (.ixa 1 (.t 92) (.t 93)),qO 95 (.ldl 1 false (.t 94)),qM 96 3,qM 97 5,qO 98 (.ixa 1 (.t 96) (.t 97)),qO 99 (.ldl 1 false (.t 98)),qM 100 0,qO 101 (.dcall true 17 [.t 100,.c (.int .i64 50)]),qM 102 4,qM 103 5,qO 104 (.ixa 1 (.t 102) (.t 103)),qO 105 (.ldl 1 false (.t 104)),qM 106 0,qM 107 4,qM 108 5,qO 109 (.ixa 1 (.t 107) (.t 108)),qO 110 (.ldl 1 false (.t 109)),qO 111 (.len (.t 110)),qO 112 (.dcall true 17 [.t 106,.t 111]),qO 113 (.ixa 12 (.t 105) (.t 112)),qO 114 (.fla 0 (.t 113)),qO 115 (.ldl 2 true (.t 114)),qO 116 (.pcall 0 22 [.t 95,.t 99,.t 101,.t 115]),qM 91 116,qO 117 (.ext 0 (.t 91)),qO 118 (.ext 1 (.t 91)),qM 8 117,qM 9 118]) (.seq (.reg [qM 119 9,qO 120 (.bin .eql (.t 119) (.c (.int .i64 0)))]) (.cond (.t 120) (.reg [qM 121 4,qM 122 5,qM 123 8,qO 124 (.ixa 1 (.t 121) (.t 122)),⟨none,.st 1 (.t 124) (.t 123),none⟩]) .skip)))) (.seq (.reg [qM 29 0,qO 30 (.call 14 [.t 29]),qM 28 30,qO 31 (.ext 0 (.t 28)),qO 32 (.ext 1 (.t 28)),qO 33 (.ext 2 (.t 28)),qO 34 (.ext 3 (.t 28)),qO 35 (.ext 4 (.t 28)),qO 36 (.ext 5 (.t 28)),qO 15 (.alc 37 [.int .i64 0,.int .i64 0]),qM 10 31,qM 11 32,qM 12 33,qM 13 34,qM 14 35,⟨none,.st 2 (.t 15) (.t 36),none⟩]) (.seq (.drg [⟨none,.fz (.t 10),none⟩,qM 38 4,qM 39 5,qO 40 (.ixa 1 (.t 38) (.t 39)),qO 41 (.ld 1 false (.t 40)),qM 42 3,qM 43 5,qO 44 (.ixa 1 (.t 42) (.t 43)),qO 45 (.ld 1 false (.t 44)),qM 46 10,qM 47 11,qM 48 12,qM 49 13,qM 50 14,qO 51 (.ld 2 true (.t 15)),qO 52 (.pcall 0 21 [.t 41,.t 45,.t 46,.t 47,.t 48,.t 49,.t 50,.t 51]),qM 37 52,qO 53 (.ext 0 (.t 37)),qO 54 (.ext 1 (.t 37)),qM 16 53,qM 17 54]) (.seq (.reg [qM 55 17,qO 56 (.bin .eql (.t 55) (.c (.int .i64 0)))]) (.cond (.t 56) (.reg [qM 57 4,qM 58 5,qM 59 16,qO 60 (.ixa 1 (.t 57) (.t 58)),⟨none,.st 1 (.t 60) (.t 59),none⟩]) .skip))))))))))))) (.cut (.reg [qO 125 (.bin .add (.t 22) (.c (.int .i64 1))),qM 22 125])))))
def qb1:IC:=(.seq (.reg [qO 2 (.mov (.c (.nl 1)))]) (.seq (.reg [qO 18 (.bsl 1 [.c (.str [97]),.c (.str [98]),.c (.str [99])]),qM 3 18]) (.seq (.reg [qO 19 (.mks 26 1 24 [.nl 12] (.c (.int .i64 3)) (.c (.int .i64 3))),qM 4 19]) (.seq (.seq (.reg [qM 20 0,qO 21 (.call 17 [.t 20,.c (.int .i64 18)]),qO 22 (.mov (.c (.int .i64 0)))]) (.block 0 (.loop qbA))) (.seq (.reg [qM 126 4,qM 2 126]) .ret)))))
def qbU:List IRes:=[.t 2]
theorem qel:chkF Tryz.prog Tryz.f26 qb1 qbU 127=true:=by kernel_rfl
def qbC:IC:=(.seq (.reg [qO 12 (.bin .lss (.t 11) (.t 10))]) (.seq (.cond (.t 12) .skip (.exit 0)) (.seq (.block 1 (.seq (.reg [qO 13 (.ixa 1 (.t 9) (.t 11)),qO 14 (.ld 1 false (.t 13)),qM 5 14]) (.seq (.reg [qM 16 3,qM 17 5,qO 18 (.call 32 [.t 16,.t 17]),qM 15 18,qO 19 (.ext 0 (.t 15)),qO 20 (.ext 1 (.t 15)),qM 6 19,qM 7 20]) (.seq (.reg [qM 21 7,qO 22 (.bin .eql (.t 21) (.c (.int .i64 0)))]) (.cond (.t 22) (.reg [qM 23 6,qM 3 23]) .skip))))) (.cut (.reg [qO 24 (.bin .add (.t 11) (.c (.int .i64 1))),qM 11 24])))))
def qb4:IC:=(.seq (.reg [qO 2 (.mov (.c (.nl 12)))]) (.seq (.reg [qO 3 (.mov (.c (.nl 12)))]) (.seq (.seq (.reg [qM 8 0,qO 9 (.call 26 [.t 8]),qO 10 (.len (.t 9)),qO 11 (.mov (.c (.int .i64 0)))]) (.block 0 (.loop qbC))) (.seq (.reg [qM 25 3,qM 2 25]) .ret))))
def qbX:List IRes:=[.t 2]
theorem qeo:chkF Tryz.prog Tryz.f6 qb4 qbX 26=true:=by kernel_rfl
theorem qiW {i:Nat} {Q1 Q2:AQ} (hq:∀ e fr L,Q1 e fr L→Q2 e fr L) (e:Exit) (fr:List AV) (L:Objs) (h:qbI i Q1 e fr L):qbI i Q2 e fr L:=by
 cases e with
 |normal=>exact hq _ fr L h
 |exit j=>
  simp only [qbI] at h ⊢
  split
  ·rename_i hj;rw [if_pos hj] at h;exact hq _ fr L h
  ·rename_i hj;rw [if_neg hj] at h;exact hq _ fr L h
 |_=>exact hq _ fr L h
theorem qpF {P:Program} {E:Envt} {fr:List AV} {L:Objs} {Q:AQ} {b:Bool} {x y r:IC} {i j:Nat} (M:List AV→Objs→Prop) (h1:b=true→awp P E x fr L (qbI i (qbI j (midQ E M Q)))) (h2:b=false→awp P E y fr L (qbI i (qbI j (midQ E M Q)))) (hM:∀ fr L,M fr L→awp P E r fr L Q):BrC P E b x y fr L (qbI i (qbI j (qis P E (.cut r) Q))):=by
 have hn:∀ e fr L,midQ E M Q e fr L→qis P E (.cut r) Q e fr L:=by
  intro e fr L h
  cases e with
  |normal=>
   obtain ⟨fr',L',a1,a3⟩:=h
   exact ⟨fr',L',a1,hM fr' L' a3⟩
  |_=>exact h
 have hq:=qiW (i:=i) (qiW (i:=j) hn)
 exact ⟨fun e=>qf1 x fr L _ _ hq (h1 e),fun e=>qf1 y fr L _ _ hq (h2 e)⟩
abbrev tDL:Nat:=26
def SlD (x:PV) (l:List Dd):Prop:=(x=.nl 12∧l=[])∨x=.sl 12 (ddE l)
def StO (c:Int) (s:List (List Dd)):Prop:=s.length=3∧∀ l∈s,RD c l
def stE (s:List (List Dd)):List (List PV):=s.map fun l=>[.sl 12 (ddE l)]
theorem qdi (s:List (List Dd)):(stE s).length=s.length:=by simp [stE]
theorem qmc {s:List (List Dd)} {k:Nat} {l:List Dd} (h:s[k]?=some l):(stE s).getD k []=[.sl 12 (ddE l)]:=qb5 h
theorem qmb (s:List (List Dd)) (k:Nat) (l:List Dd):(stE s).set k [.sl 12 (ddE l)]=stE (s.set k l):=by simp [stE]
theorem StO.le {c c':Int} {s:List (List Dd)} (h:StO c s) (hc:c≤c'):StO c' s:=⟨h.1,fun x hx=>(h.2 x hx).le hc⟩
theorem StO.set {c:Int} {s:List (List Dd)} (h:StO c s) (k:Nat) {l:List Dd} (hl:RD c l):StO c (s.set k l):=by
 refine ⟨by simp [h.1],fun x hx=>?_⟩
 rcases z7 hx with hx|rfl
 ·exact h.2 x hx
 ·exact hl
theorem qvm {s os:List UInt8} {t k on:Int} (hs:s.length≤1000) (ho:os.length≤1000) (ht:0≤t∧t < 50) (hk:k=3∨k=6) (hn:-1000000000000≤on∧on≤1000000000000):DdB (undD s t k os on):=
 ⟨hs,by simp [undD],by simp [undD],by simp [undD],ho,by simp [undD],by simp [undD],by simp only [undD];omega,by simp only [undD];omega,by simp [undD],by simp [undD],hn⟩
set_option maxRecDepth 100000 in
set_option maxHeartbeats 4000000 in
theorem qrm (l:List Int) (k:Nat) (hk:k≤500000) (hl:l.length≤9223372036854775807) :
  qpM Tryz.prog ED 26 T (stm l k) [] tDL 1 (fun es cs'=>∃ (s:List (List Dd)) (k':Nat),es=stE s∧StO 100 s∧cs'=stm l k'∧k'≤k+1000):=by
 unfold qpM
 refine qnx mixed Tryz.func26 qel ?_
 simp only [a0,l0,OS.ao,zl,zt,zm,zr,zo,zq,zu,zd,zk,zn,qb1,qbU,ZZ,WW,Ze,reduceCtorEq,zd,ze,za,zf,zb]
 refine ⟨by omega,?_⟩
 refine useS (qcb l k 18 (by omega) hl (by decide)) rfl rfl rfl zE_ ?_
 rintro x cs' ⟨y,rfl,rfl⟩
 have b1:=qcX y 18
 have b2:=qcY y 18 (by decide)
 obtain ⟨q,hq⟩:∃ q:Nat,qdY y 18=(q:Int):=⟨(qdY y 18).toNat,by omega⟩
 rw [hq] at b2 ⊢
 clear hq
 obtain ⟨nm,hnm⟩:∃ nm:List (List PV),nm=[[.str [97]],[.str [98]],[.str [99]]]:=⟨_,rfl⟩
 rw [← hnm]
 have hnl:nm.length=3:=by rw [hnm];rfl
 have hng:∀ j,j < 3→∃ s:List UInt8,nm.getD j []=[.str s]∧s.length≤1000:=by
  intro j hj
  rw [hnm]
  rcases j with _|_|_|j
  ·exact ⟨_,rfl,by decide⟩
  ·exact ⟨_,rfl,by decide⟩
  ·exact ⟨_,rfl,by decide⟩
  ·omega
 clear hnm
 simp only [ZZ,WW,Ze,reduceCtorEq,zd,ze,za,zf,zb]
 refine qaf (fun n fr L=>∃ (i:Nat) (k':Nat) (s:List (List Dd)),i≤q∧n=q - i∧(k'≤k+1+20 * i)∧(StO i s)∧fr=[.adr (.b 0) 0,oo,oo,.p (.sl 1 nm),.row (.l 19),oo,oo,oo,oo,oo,oo,oo,oo,oo,oo,oo,oo,oo,oo,oo,oo,.p (int (q:Nat)),.p (int (i:Nat)),oo,oo,oo,oo,oo,oo,oo,oo,oo,oo,oo,oo,oo,oo,oo,oo,oo,oo,oo,oo,oo,oo,oo,oo,oo,oo,oo,oo,oo,oo,oo,oo,oo,oo,oo,oo,oo,oo,oo,oo,oo,oo,oo,oo,oo,oo,oo,oo,oo,oo,oo,oo,oo,oo,oo,oo,oo,oo,oo,oo,oo,oo,oo,oo,oo,oo,oo,oo,oo,oo,oo,oo,oo,oo,oo,oo,oo,oo,oo,oo,oo,oo,oo,oo,oo,oo,oo,oo,oo,oo,oo,oo,oo,oo,oo,oo,oo,oo,oo,oo,oo,oo,oo,oo]∧L=[(.b 0,.box ((stm l k').map .p) T),(.l 19,.row (stE s) tDL 1 true)]) (q) [.adr (.b 0) 0,oo,oo,.p (.sl 1 nm),.row (.l 19),oo,oo,oo,oo,oo,oo,oo,oo,oo,oo,oo,oo,oo,oo,oo,oo,.p (int (q:Nat)),.p (int (0:Nat)),oo,oo,oo,oo,oo,oo,oo,oo,oo,oo,oo,oo,oo,oo,oo,oo,oo,oo,oo,oo,oo,oo,oo,oo,oo,oo,oo,oo,oo,oo,oo,oo,oo,oo,oo,oo,oo,oo,oo,oo,oo,oo,oo,oo,oo,oo,oo,oo,oo,oo,oo,oo,oo,oo,oo,oo,oo,oo,oo,oo,oo,oo,oo,oo,oo,oo,oo,oo,oo,oo,oo,oo,oo,oo,oo,oo,oo,oo,oo,oo,oo,oo,oo,oo,oo,oo,oo,oo,oo,oo,oo,oo,oo,oo,oo,oo,oo,oo,oo,oo,oo,oo,oo,oo] [(.b 0,.box ((stm l (k+1)).map .p) T),(.l 19,.row (stE ([[],[],[]])) tDL 1 true)] (by (simp only [ZZ,WW,Ze,reduceCtorEq,zd,ze,za,zf,zb];try trivial)) (by simp only [ZZ,WW,Ze,reduceCtorEq,zd,ze,za,zf,zb];try rfl) ⟨0,k+1,[[],[],[]],by omega,by omega,by omega,(⟨rfl,fun x hx=>(show x=[] by simpa using hx) ▸ RD.nil _⟩),rfl,rfl⟩ ?_
 rintro n fr L ⟨i,k',s,hi,rfl,hk',hS,rfl,rfl⟩
 simp only [qbA,ZZ,WW,Ze,reduceCtorEq,zd,ze,za,zf,zb]
 refine br ?_ ?_
 rotate_left
 ·intro h
  have hge:q≤i:=by have:=of_decide_eq_false h;omega
  simp only [ZZ,WW,Ze,reduceCtorEq,zd,ze,za,zf,zb]
  exact quU 19 _ (stm l k') rfl rfl rfl ⟨s,k',rfl,hS.le (by omega),rfl,by omega⟩
 intro h
 have hlt:i < q:=by have:=of_decide_eq_true h;omega
 have hs3:=hS.1
 simp only [ZZ,WW,Ze,reduceCtorEq,zd,ze,za,zf,zb]
 refine useS (qcb l k' 3 (by omega) hl (by decide)) rfl rfl rfl zE_ ?_
 rintro x cs' ⟨y1,rfl,rfl⟩
 obtain ⟨j,hj,hy1⟩:=qdX y1 3 (by omega)
 rw [show ((3:Nat):Int)=3 from rfl] at hy1
 rw [hy1]
 obtain ⟨l0,hx0⟩:∃ l0,s[j]?=some l0:=⟨_,zp (by omega)⟩
 have hR0:=hS.2 l0 (zH hx0)
 have hg0:=qmc hx0
 obtain ⟨sn,hsn,hsl⟩:=hng j hj
 simp only [ZZ,WW,Ze,reduceCtorEq,zd,ze,za,zf,zb]
 refine useS (qcb l (k'+1) 6 (by omega) hl (by decide)) rfl rfl rfl zE_ ?_
 rintro x cs' ⟨y2,rfl,rfl⟩
 generalize qdY y2 6=w
 simp only [ZZ,WW,Ze,reduceCtorEq,zd,ze,za,zf,zb]
 refine qpF (fun fr L=>∃ (k2:Nat) (s2:List (List Dd)),k2≤k'+20∧StO (i+1) s2∧fr=[.adr (.b 0) 0,oo,oo,.p (.sl 1 nm),.row (.l 19),oo,oo,oo,oo,oo,oo,oo,oo,oo,oo,oo,oo,oo,oo,oo,oo,.p (int (q:Nat)),.p (int (i:Nat)),oo,oo,oo,oo,oo,oo,oo,oo,oo,oo,oo,oo,oo,oo,oo,oo,oo,oo,oo,oo,oo,oo,oo,oo,oo,oo,oo,oo,oo,oo,oo,oo,oo,oo,oo,oo,oo,oo,oo,oo,oo,oo,oo,oo,oo,oo,oo,oo,oo,oo,oo,oo,oo,oo,oo,oo,oo,oo,oo,oo,oo,oo,oo,oo,oo,oo,oo,oo,oo,oo,oo,oo,oo,oo,oo,oo,oo,oo,oo,oo,oo,oo,oo,oo,oo,oo,oo,oo,oo,oo,oo,oo,oo,oo,oo,oo,oo,oo,oo,oo,oo,oo,oo,oo]∧L=[(.b 0,.box ((stm l k2).map .p) T),(.l 19,.row (stE s2) tDL 1 true)]) ?_ ?_ ?_
 ·intro _
  simp only [ZZ,WW,Ze,reduceCtorEq,zd,ze,za,zf,zb]
  obtain ⟨j2,hj2,hv2⟩:=qdX (nxV l (k'+1+1)) 3 (by omega)
  rw [show ((3:Nat):Int)=3 from rfl] at hv2
  obtain ⟨l1,hx1⟩:∃ l1,s[j2]?=some l1:=⟨_,zp (by omega)⟩
  have hR1:=hS.2 l1 (zH hx1)
  have hg1:=qmc hx1
  have e0:=hR0.len
  have e1:=hR1.len
  refine drg1 (x1:=.tup [.sl 12 (ddE (mrgV l0 l1).1),int (mrgV l0 l1).2]) ?_
  simp only [ZZ,WW,Ze,reduceCtorEq,zd,ze,za,zf,zb,hg0,qdi]
  refine ⟨⟨by omega,by omega⟩,by omega,?_⟩
  refine useD (qmX l (k'+1+1) 3 (by omega) hl (by decide)) ⟨_,_,rfl,rfl⟩ rfl rfl rfl zE_ (fun _=>⟨0,rfl⟩) ?_
  rintro x cs' ⟨rfl,rfl⟩
  rw [hv2]
  simp only [ZZ,WW,Ze,reduceCtorEq,zd,ze,za,zf,zb,hg1,qdi]
  refine ⟨⟨by omega,by omega⟩,by omega,usep (qeY l0 l1 (by omega) (by omega) hR0.b hR1.b) rfl (.inl rfl),?_⟩
  refine br ?_ ?_
  ·intro _
   simp only [ZZ,WW,Ze,reduceCtorEq,zd,ze,za,zf,zb,qdi]
   refine ⟨⟨by omega,by omega⟩,by omega,?_⟩
   exact qan [.adr (.b 0) 0,oo,oo,.p (.sl 1 nm),.row (.l 19),oo,oo,oo,oo,oo,oo,oo,oo,oo,oo,oo,oo,oo,oo,oo,oo,.p (int (q:Nat)),.p (int (i:Nat)),oo,oo,oo,oo,oo,oo,oo,oo,oo,oo,oo,oo,oo,oo,oo,oo,oo,oo,oo,oo,oo,oo,oo,oo,oo,oo,oo,oo,oo,oo,oo,oo,oo,oo,oo,oo,oo,oo,oo,oo,oo,oo,oo,oo,oo,oo,oo,oo,oo,oo,oo,oo,oo,oo,oo,oo,oo,oo,oo,oo,oo,oo,oo,oo,oo,oo,oo,oo,oo,oo,oo,oo,oo,oo,oo,oo,oo,oo,oo,oo,oo,oo,oo,oo,oo,oo,oo,oo,oo,oo,oo,oo,oo,oo,oo,oo,oo,oo,oo,oo,oo,oo,oo,oo] [(.b 0,.box ((stm l (k'+1+1+1)).map .p) T),(.l 19,.row (stE (s.set j (mrgV l0 l1).1)) tDL 1 true)] (by (simp only [ZZ,WW,Ze,reduceCtorEq,zd,ze,za,zf,zb];try trivial)) (by rw [hg0,List.set_cons_zero,qmb];simp only [ZZ,WW,Ze,reduceCtorEq,zd,ze,za,zf,zb]) ⟨_,_,by omega,(hS.set j (hR0.merge hR1)).le (by omega),rfl,rfl⟩
  ·intro _
   simp only [ZZ,WW,Ze,reduceCtorEq,zd,ze,za,zf,zb]
   exact qan [.adr (.b 0) 0,oo,oo,.p (.sl 1 nm),.row (.l 19),oo,oo,oo,oo,oo,oo,oo,oo,oo,oo,oo,oo,oo,oo,oo,oo,.p (int (q:Nat)),.p (int (i:Nat)),oo,oo,oo,oo,oo,oo,oo,oo,oo,oo,oo,oo,oo,oo,oo,oo,oo,oo,oo,oo,oo,oo,oo,oo,oo,oo,oo,oo,oo,oo,oo,oo,oo,oo,oo,oo,oo,oo,oo,oo,oo,oo,oo,oo,oo,oo,oo,oo,oo,oo,oo,oo,oo,oo,oo,oo,oo,oo,oo,oo,oo,oo,oo,oo,oo,oo,oo,oo,oo,oo,oo,oo,oo,oo,oo,oo,oo,oo,oo,oo,oo,oo,oo,oo,oo,oo,oo,oo,oo,oo,oo,oo,oo,oo,oo,oo,oo,oo,oo,oo,oo,oo,oo,oo] [(.b 0,.box ((stm l (k'+1+1+1)).map .p) T),(.l 19,.row (stE s) tDL 1 true)] (by (simp only [ZZ,WW,Ze,reduceCtorEq,zd,ze,za,zf,zb];try trivial)) zE_ ⟨_,_,by omega,hS.le (by omega),rfl,rfl⟩
 ·intro _
  simp only [ZZ,WW,Ze,reduceCtorEq,zd,ze,za,zf,zb]
  refine qeq (fun fr L=>fr=[.adr (.b 0) 0,oo,oo,.p (.sl 1 nm),.row (.l 19),.p (int (j:Nat)),oo,oo,oo,oo,oo,oo,oo,oo,oo,oo,oo,oo,oo,oo,oo,.p (int (q:Nat)),.p (int (i:Nat)),oo,oo,oo,oo,oo,oo,oo,oo,oo,oo,oo,oo,oo,oo,oo,oo,oo,oo,oo,oo,oo,oo,oo,oo,oo,oo,oo,oo,oo,oo,oo,oo,oo,oo,oo,oo,oo,oo,oo,oo,oo,oo,oo,oo,oo,oo,oo,oo,oo,oo,oo,oo,oo,oo,oo,oo,oo,oo,oo,.p (.bool (decide (w=1) || decide (w=2))),oo,oo,oo,oo,oo,oo,oo,oo,oo,oo,oo,oo,oo,oo,oo,oo,oo,oo,oo,oo,oo,oo,oo,oo,oo,oo,oo,oo,oo,oo,oo,oo,oo,oo,oo,oo,oo,oo,oo,oo,oo,oo,oo,oo]∧L=[(.b 0,.box ((stm l (k'+1+1)).map .p) T),(.l 19,.row (stE s) tDL 1 true)]) ?_ ?_ ?_
  ·intro h1
   simp only [ZZ,WW,Ze,reduceCtorEq,zd,ze,za,zf,zb]
   exact qan [.adr (.b 0) 0,oo,oo,.p (.sl 1 nm),.row (.l 19),.p (int (j:Nat)),oo,oo,oo,oo,oo,oo,oo,oo,oo,oo,oo,oo,oo,oo,oo,.p (int (q:Nat)),.p (int (i:Nat)),oo,oo,oo,oo,oo,oo,oo,oo,oo,oo,oo,oo,oo,oo,oo,oo,oo,oo,oo,oo,oo,oo,oo,oo,oo,oo,oo,oo,oo,oo,oo,oo,oo,oo,oo,oo,oo,oo,oo,oo,oo,oo,oo,oo,oo,oo,oo,oo,oo,oo,oo,oo,oo,oo,oo,oo,oo,oo,oo,.p (.bool (decide (w=1) || decide (w=2))),oo,oo,oo,oo,oo,oo,oo,oo,oo,oo,oo,oo,oo,oo,oo,oo,oo,oo,oo,oo,oo,oo,oo,oo,oo,oo,oo,oo,oo,oo,oo,oo,oo,oo,oo,oo,oo,oo,oo,oo,oo,oo,oo,oo] [(.b 0,.box ((stm l (k'+1+1)).map .p) T),(.l 19,.row (stE s) tDL 1 true)] (by rw [h1];(simp only [ZZ,WW,Ze,reduceCtorEq,zd,ze,za,zf,zb];try trivial)) zE_ ⟨rfl,rfl⟩
  ·intro h1
   simp only [ZZ,WW,Ze,reduceCtorEq,zd,ze,za,zf,zb]
   exact qan [.adr (.b 0) 0,oo,oo,.p (.sl 1 nm),.row (.l 19),.p (int (j:Nat)),oo,oo,oo,oo,oo,oo,oo,oo,oo,oo,oo,oo,oo,oo,oo,.p (int (q:Nat)),.p (int (i:Nat)),oo,oo,oo,oo,oo,oo,oo,oo,oo,oo,oo,oo,oo,oo,oo,oo,oo,oo,oo,oo,oo,oo,oo,oo,oo,oo,oo,oo,oo,oo,oo,oo,oo,oo,oo,oo,oo,oo,oo,oo,oo,oo,oo,oo,oo,oo,oo,oo,oo,oo,oo,oo,oo,oo,oo,oo,oo,oo,oo,.p (.bool (decide (w=1) || decide (w=2))),oo,oo,oo,oo,oo,oo,oo,oo,oo,oo,oo,oo,oo,oo,oo,oo,oo,oo,oo,oo,oo,oo,oo,oo,oo,oo,oo,oo,oo,oo,oo,oo,oo,oo,oo,oo,oo,oo,oo,oo,oo,oo,oo,oo] [(.b 0,.box ((stm l (k'+1+1)).map .p) T),(.l 19,.row (stE s) tDL 1 true)] (by rw [h1];(simp only [ZZ,WW,Ze,reduceCtorEq,zd,ze,za,zf,zb];try trivial)) zE_ ⟨rfl,rfl⟩
  rintro fr L ⟨rfl,rfl⟩
  simp only [ZZ,WW,Ze,reduceCtorEq,zd,ze,za,zf,zb]
  refine br ?_ ?_
  ·intro _
   simp only [ZZ,WW,Ze,reduceCtorEq,zd,ze,za,zf,zb,hg0,qdi,qac]
   refine ⟨⟨by omega,by omega⟩,by omega,?_⟩
   refine br ?_ ?_
   ·intro _
    simp only [ZZ,WW,Ze,reduceCtorEq,zd,ze,za,zf,zb]
    exact qan [.adr (.b 0) 0,oo,oo,.p (.sl 1 nm),.row (.l 19),oo,oo,oo,oo,oo,oo,oo,oo,oo,oo,oo,oo,oo,oo,oo,oo,.p (int (q:Nat)),.p (int (i:Nat)),oo,oo,oo,oo,oo,oo,oo,oo,oo,oo,oo,oo,oo,oo,oo,oo,oo,oo,oo,oo,oo,oo,oo,oo,oo,oo,oo,oo,oo,oo,oo,oo,oo,oo,oo,oo,oo,oo,oo,oo,oo,oo,oo,oo,oo,oo,oo,oo,oo,oo,oo,oo,oo,oo,oo,oo,oo,oo,oo,oo,oo,oo,oo,oo,oo,oo,oo,oo,oo,oo,oo,oo,oo,oo,oo,oo,oo,oo,oo,oo,oo,oo,oo,oo,oo,oo,oo,oo,oo,oo,oo,oo,oo,oo,oo,oo,oo,oo,oo,oo,oo,oo,oo,oo] [(.b 0,.box ((stm l (k'+1+1)).map .p) T),(.l 19,.row (stE s) tDL 1 true)] (by (simp only [ZZ,WW,Ze,reduceCtorEq,zd,ze,za,zf,zb];try trivial)) zE_ ⟨_,_,by omega,hS.le (by omega),rfl,rfl⟩
   intro h0
   have h0:0 < l0.length:=by have:=of_decide_eq_false h0;omega
   simp only [ZZ,WW,Ze,reduceCtorEq,zd,ze,za,zf,zb]
   have t1:=qcX (nxV l (k'+1+1)) 50
   have t2:=qcY (nxV l (k'+1+1)) 50 (by decide)
   obtain ⟨t,ht⟩:∃ t,qdY (nxV l (k'+1+1)) 50=t:=⟨_,rfl⟩
   rw [ht] at t1 t2
   obtain ⟨j2,hj2,hv2⟩:=qdX (nxV l (k'+1+1+1)) l0.length h0
   obtain ⟨d,hd⟩:∃ d,l0[j2]?=some d:=⟨_,zp hj2⟩
   have hgd:=qa0 hd
   have dB:=hR0.b.get hd
   have uB:∀ k:Int,k=3∨k=6→DdB (undD sn t k d.site d.no):=fun k hk=>qvm hsl dB.b1 ⟨t1,t2⟩ hk dB.c1
   have hU:=ql1 l0 sn t d.site d.no (hR0.le (by omega)) (uB 3 (.inl rfl))
   have e0:=hR0.len
   refine drg1 (x1:=.tup [.sl 12 (ddE (undV l0 sn t d.site d.no).1),int (undV l0 sn t d.site d.no).2]) ?_
   simp only [ZZ,WW,Ze,reduceCtorEq,zd,ze,za,zf,zb,hg0,hsn,qdi,hnl]
   refine ⟨⟨by omega,by omega⟩,by omega,⟨by omega,by omega⟩,by omega,?_⟩
   refine useD (qmX l (k'+1+1) 50 (by omega) hl (by decide)) ⟨_,_,rfl,rfl⟩ rfl rfl rfl zE_ (fun _=>⟨0,rfl⟩) ?_
   rintro x cs' ⟨rfl,rfl⟩
   rw [ht]
   simp only [ZZ,WW,Ze,reduceCtorEq,zd,ze,za,zf,zb,hg0,qdi,qac]
   refine ⟨⟨by omega,by omega⟩,by omega,⟨by omega,by omega⟩,by omega,?_⟩
   refine useD (qmX l (k'+1+1+1) (l0.length:Nat) (by omega) hl (by omega)) ⟨_,_,rfl,rfl⟩ rfl rfl rfl zE_ (fun _=>⟨0,rfl⟩) ?_
   rintro x cs' ⟨rfl,rfl⟩
   rw [hv2]
   simp only [ZZ,WW,Ze,reduceCtorEq,zd,ze,za,zf,zb,hgd,qac,ddC]
   refine ⟨⟨by omega,by omega⟩,by omega,usep hU rfl (.inl rfl),?_⟩
   refine br ?_ ?_
   ·intro _
    simp only [ZZ,WW,Ze,reduceCtorEq,zd,ze,za,zf,zb,qdi]
    refine ⟨⟨by omega,by omega⟩,by omega,?_⟩
    exact qan [.adr (.b 0) 0,oo,oo,.p (.sl 1 nm),.row (.l 19),oo,oo,oo,oo,oo,oo,oo,oo,oo,oo,oo,oo,oo,oo,oo,oo,.p (int (q:Nat)),.p (int (i:Nat)),oo,oo,oo,oo,oo,oo,oo,oo,oo,oo,oo,oo,oo,oo,oo,oo,oo,oo,oo,oo,oo,oo,oo,oo,oo,oo,oo,oo,oo,oo,oo,oo,oo,oo,oo,oo,oo,oo,oo,oo,oo,oo,oo,oo,oo,oo,oo,oo,oo,oo,oo,oo,oo,oo,oo,oo,oo,oo,oo,oo,oo,oo,oo,oo,oo,oo,oo,oo,oo,oo,oo,oo,oo,oo,oo,oo,oo,oo,oo,oo,oo,oo,oo,oo,oo,oo,oo,oo,oo,oo,oo,oo,oo,oo,oo,oo,oo,oo,oo,oo,oo,oo,oo,oo] [(.b 0,.box ((stm l (k'+1+1+1+1)).map .p) T),(.l 19,.row (stE (s.set j (undV l0 sn t d.site d.no).1)) tDL 1 true)] (by (simp only [ZZ,WW,Ze,reduceCtorEq,zd,ze,za,zf,zb];try trivial)) (by rw [hg0,List.set_cons_zero,qmb];simp only [ZZ,WW,Ze,reduceCtorEq,zd,ze,za,zf,zb]) ⟨_,_,by omega,(hS.le (c':=(i:Int)+1) (by omega)).set j (hR0.undVr (by omega) (by omega) uB (by omega)),rfl,rfl⟩
   ·intro _
    simp only [ZZ,WW,Ze,reduceCtorEq,zd,ze,za,zf,zb]
    exact qan [.adr (.b 0) 0,oo,oo,.p (.sl 1 nm),.row (.l 19),oo,oo,oo,oo,oo,oo,oo,oo,oo,oo,oo,oo,oo,oo,oo,oo,.p (int (q:Nat)),.p (int (i:Nat)),oo,oo,oo,oo,oo,oo,oo,oo,oo,oo,oo,oo,oo,oo,oo,oo,oo,oo,oo,oo,oo,oo,oo,oo,oo,oo,oo,oo,oo,oo,oo,oo,oo,oo,oo,oo,oo,oo,oo,oo,oo,oo,oo,oo,oo,oo,oo,oo,oo,oo,oo,oo,oo,oo,oo,oo,oo,oo,oo,oo,oo,oo,oo,oo,oo,oo,oo,oo,oo,oo,oo,oo,oo,oo,oo,oo,oo,oo,oo,oo,oo,oo,oo,oo,oo,oo,oo,oo,oo,oo,oo,oo,oo,oo,oo,oo,oo,oo,oo,oo,oo,oo,oo,oo] [(.b 0,.box ((stm l (k'+1+1+1+1)).map .p) T),(.l 19,.row (stE s) tDL 1 true)] (by (simp only [ZZ,WW,Ze,reduceCtorEq,zd,ze,za,zf,zb];try trivial)) zE_ ⟨_,_,by omega,hS.le (by omega),rfl,rfl⟩
  ·intro _
   simp only [ZZ,WW,Ze,reduceCtorEq,zd,ze,za,zf,zb]
   refine useS (qnR l (k'+1+1) (by omega) hl) rfl rfl rfl zE_ ?_
   rintro x cs' ⟨t,kd,id,f,v,a,b,k3,rfl,hDo,rfl,hk3⟩
   simp only [ZZ,WW,Ze,reduceCtorEq,zd,ze,za,zf,zb]
   have hA:=qnS l0 sn t kd id f v a b (by have:=hR0.len;omega) hR0.b (hR0.le (c':=100000) (by omega)).n (hDo.dd hsl) (hR0.fresh _)
   refine drg1 (x1:=.tup [.sl 12 (ddE (addV l0 sn t kd id f v a b).1),int (addV l0 sn t kd id f v a b).2]) ?_
   simp only [ZZ,WW,Ze,reduceCtorEq,zd,ze,za,zf,zb,hg0,hsn,qdi,hnl]
   refine ⟨⟨by omega,by omega⟩,by omega,⟨by omega,by omega⟩,by omega,usep hA rfl (.inl rfl),?_⟩
   refine br ?_ ?_
   ·intro h0
    have h0:(addV l0 sn t kd id f v a b).2=0:=of_decide_eq_true h0
    simp only [ZZ,WW,Ze,reduceCtorEq,zd,ze,za,zf,zb,qdi]
    refine ⟨⟨by omega,by omega⟩,by omega,?_⟩
    exact qan [.adr (.b 0) 0,oo,oo,.p (.sl 1 nm),.row (.l 19),oo,oo,oo,oo,oo,oo,oo,oo,oo,oo,oo,oo,oo,oo,oo,oo,.p (int (q:Nat)),.p (int (i:Nat)),oo,oo,oo,oo,oo,oo,oo,oo,oo,oo,oo,oo,oo,oo,oo,oo,oo,oo,oo,oo,oo,oo,oo,oo,oo,oo,oo,oo,oo,oo,oo,oo,oo,oo,oo,oo,oo,oo,oo,oo,oo,oo,oo,oo,oo,oo,oo,oo,oo,oo,oo,oo,oo,oo,oo,oo,oo,oo,oo,oo,oo,oo,oo,oo,oo,oo,oo,oo,oo,oo,oo,oo,oo,oo,oo,oo,oo,oo,oo,oo,oo,oo,oo,oo,oo,oo,oo,oo,oo,oo,oo,oo,oo,oo,oo,oo,oo,oo,oo,oo,oo,oo,oo,oo] [(.b 0,.box ((stm l k3).map .p) T),(.l 19,.row (stE (s.set j (addV l0 sn t kd id f v a b).1)) tDL 1 true)] (by (simp only [ZZ,WW,Ze,reduceCtorEq,zd,ze,za,zf,zb];try trivial)) (by rw [hg0,List.set_cons_zero,qmb];simp only [ZZ,WW,Ze,reduceCtorEq,zd,ze,za,zf,zb]) ⟨_,_,by omega,(hS.le (c':=(i:Int)+1) (by omega)).set j (hR0.addVr (by omega) (by omega) (hDo.dd hsl) h0 (by have:=hDo.c1;omega)),rfl,rfl⟩
   ·intro _
    simp only [ZZ,WW,Ze,reduceCtorEq,zd,ze,za,zf,zb]
    exact qan [.adr (.b 0) 0,oo,oo,.p (.sl 1 nm),.row (.l 19),oo,oo,oo,oo,oo,oo,oo,oo,oo,oo,oo,oo,oo,oo,oo,oo,.p (int (q:Nat)),.p (int (i:Nat)),oo,oo,oo,oo,oo,oo,oo,oo,oo,oo,oo,oo,oo,oo,oo,oo,oo,oo,oo,oo,oo,oo,oo,oo,oo,oo,oo,oo,oo,oo,oo,oo,oo,oo,oo,oo,oo,oo,oo,oo,oo,oo,oo,oo,oo,oo,oo,oo,oo,oo,oo,oo,oo,oo,oo,oo,oo,oo,oo,oo,oo,oo,oo,oo,oo,oo,oo,oo,oo,oo,oo,oo,oo,oo,oo,oo,oo,oo,oo,oo,oo,oo,oo,oo,oo,oo,oo,oo,oo,oo,oo,oo,oo,oo,oo,oo,oo,oo,oo,oo,oo,oo,oo,oo] [(.b 0,.box ((stm l k3).map .p) T),(.l 19,.row (stE s) tDL 1 true)] (by (simp only [ZZ,WW,Ze,reduceCtorEq,zd,ze,za,zf,zb];try trivial)) zE_ ⟨_,_,by omega,hS.le (by omega),rfl,rfl⟩
 rintro fr L ⟨k2,s2,hk2,hS2,rfl,rfl⟩
 simp only [ZZ,WW,Ze,reduceCtorEq,zd,ze,za,zf,zb]
 ((repeat' (with_reducible apply And.intro))<;>try ((exact sc_)))
 refine qae (q - (i+1)) [.adr (.b 0) 0,oo,oo,.p (.sl 1 nm),.row (.l 19),oo,oo,oo,oo,oo,oo,oo,oo,oo,oo,oo,oo,oo,oo,oo,oo,.p (int (q:Nat)),.p (int ((i+1):Nat)),oo,oo,oo,oo,oo,oo,oo,oo,oo,oo,oo,oo,oo,oo,oo,oo,oo,oo,oo,oo,oo,oo,oo,oo,oo,oo,oo,oo,oo,oo,oo,oo,oo,oo,oo,oo,oo,oo,oo,oo,oo,oo,oo,oo,oo,oo,oo,oo,oo,oo,oo,oo,oo,oo,oo,oo,oo,oo,oo,oo,oo,oo,oo,oo,oo,oo,oo,oo,oo,oo,oo,oo,oo,oo,oo,oo,oo,oo,oo,oo,oo,oo,oo,oo,oo,oo,oo,oo,oo,oo,oo,oo,oo,oo,oo,oo,oo,oo,oo,oo,oo,oo,oo,oo] [(.b 0,.box ((stm l (k2)).map .p) T),(.l 19,.row (stE (s2)) tDL 1 true)] (by omega) (by (simp only [ZZ,WW,Ze,reduceCtorEq,zd,ze,za,zf,zb];try trivial)) (by (simp only [ZZ,WW,Ze,reduceCtorEq,zd,ze,za,zf,zb];try trivial)) ⟨i+1,k2,s2,by omega,rfl,by omega,hS2,rfl,rfl⟩
set_option maxRecDepth 100000 in
set_option maxHeartbeats 4000000 in
theorem qrx (l:List Int) (k:Nat) (hk:k≤500000) (hl:l.length≤9223372036854775807) :
  qdh Tryz.prog ED 6 T (stm l k) [] (fun x cs'=>∃ (o:List Dd) (k':Nat),x=.sl 12 (ddE o)∧RD 100 o∧cs'=stm l k'∧k'≤k+1000):=by
 unfold qdh
 refine qfe mixed Tryz.func6 qeo ?_
 simp only [a0,l0,OS.ao,zl,zt,zm,zr,zo,zq,zu,zd,zk,zn,qb4,qbX,ZZ,WW,Ze,reduceCtorEq,zd,ze,za,zf,zb]
 refine qvi (qrm l k hk hl) rfl rfl rfl zE_ ?_
 rintro es cs' ⟨s,k1,rfl,hS,rfl,hk1⟩
 have hs3:=hS.1
 simp only [ZZ,WW,Ze,reduceCtorEq,zd,ze,za,zf,zb,qdi]
 refine qaf (fun n fr L=>∃ (i:Nat) (x:PV),i≤s.length∧n=s.length - i∧(∃ o,SlD x o∧RD 100 o)∧fr=[.adr (.b 0) 0,oo,oo,.p x,oo,oo,oo,oo,oo,.row (.l 9),.p (int (s.length:Nat)),.p (int (i:Nat)),oo,oo,oo,oo,oo,oo,oo,oo,oo,oo,oo,oo,oo,oo]∧L=[(.b 0,.box ((stm l k1).map .p) T),(.l 9,.row (stE s) tDL 1 true)]) (s.length) [.adr (.b 0) 0,oo,oo,.p (PV.nl 12),oo,oo,oo,oo,oo,.row (.l 9),.p (int (s.length:Nat)),.p (int (0:Nat)),oo,oo,oo,oo,oo,oo,oo,oo,oo,oo,oo,oo,oo,oo] [(.b 0,.box ((stm l k1).map .p) T),(.l 9,.row (stE s) tDL 1 true)] (by (simp only [ZZ,WW,Ze,reduceCtorEq,zd,ze,za,zf,zb];try trivial)) (by (simp only [ZZ,WW,Ze,reduceCtorEq,zd,ze,za,zf,zb];try trivial)) ⟨0,PV.nl 12,by omega,by omega,⟨[],.inl ⟨rfl,rfl⟩,RD.nil _⟩,rfl,rfl⟩ ?_
 rintro n fr L ⟨i,x,hi,rfl,hx,rfl,rfl⟩
 simp only [qbC,ZZ,WW,Ze,reduceCtorEq,zd,ze,za,zf,zb]
 refine br ?_ ?_
 ·intro h
  have hlt:i < s.length:=by have:=of_decide_eq_true h;omega
  obtain ⟨l1,hd⟩:∃ l1,s[i]?=some l1:=⟨_,zp hlt⟩
  have hg:=qmc hd
  have hR1:=hS.2 l1 (zH hd)
  obtain ⟨o,hx,hR⟩:=hx
  rcases hx with ⟨rfl,rfl⟩|rfl
  ·simp only [ZZ,WW,Ze,reduceCtorEq,zd,ze,za,zf,zb,hg,qdi]
   refine ⟨⟨by omega,by omega⟩,by omega,?_⟩
   refine use1 (qeY [] l1 (by have:=hR.len;omega) (by have:=hR1.len;omega) hR.b hR1.b) rfl (.inl rfl) ?_
   simp only [ZZ,WW,Ze,reduceCtorEq,zd,ze,za,zf,zb]
   refine br ?_ ?_
   ·intro _
    simp only [ZZ,WW,Ze,reduceCtorEq,zd,ze,za,zf,zb]
    refine qai zE_ ?_
    simp only [ZZ,WW,Ze,reduceCtorEq,zd,ze,za,zf,zb]
    ((repeat' (with_reducible apply And.intro))<;>try ((exact sc_)))
    refine qae (s.length - (i+1)) [.adr (.b 0) 0,oo,oo,.p (.sl 12 (ddE (mrgV [] l1).1)),oo,oo,oo,oo,oo,.row (.l 9),.p (int (s.length:Nat)),.p (int ((i+1):Nat)),oo,oo,oo,oo,oo,oo,oo,oo,oo,oo,oo,oo,oo,oo] [(.b 0,.box ((stm l k1).map .p) T),(.l 9,.row (stE s) tDL 1 true)] (by omega) (by (simp only [ZZ,WW,Ze,reduceCtorEq,zd,ze,za,zf,zb];try trivial)) (by (simp only [ZZ,WW,Ze,reduceCtorEq,zd,ze,za,zf,zb];try trivial)) ⟨i+1,.sl 12 (ddE (mrgV [] l1).1),by omega,rfl,⟨_,.inr rfl,hR.merge hR1⟩,rfl,rfl⟩
   ·intro _
    simp only [ZZ,WW,Ze,reduceCtorEq,zd,ze,za,zf,zb]
    refine qai zE_ ?_
    simp only [ZZ,WW,Ze,reduceCtorEq,zd,ze,za,zf,zb]
    ((repeat' (with_reducible apply And.intro))<;>try ((exact sc_)))
    refine qae (s.length - (i+1)) [.adr (.b 0) 0,oo,oo,.p (.nl 12),oo,oo,oo,oo,oo,.row (.l 9),.p (int (s.length:Nat)),.p (int ((i+1):Nat)),oo,oo,oo,oo,oo,oo,oo,oo,oo,oo,oo,oo,oo,oo] [(.b 0,.box ((stm l k1).map .p) T),(.l 9,.row (stE s) tDL 1 true)] (by omega) (by (simp only [ZZ,WW,Ze,reduceCtorEq,zd,ze,za,zf,zb];try trivial)) (by (simp only [ZZ,WW,Ze,reduceCtorEq,zd,ze,za,zf,zb];try trivial)) ⟨i+1,.nl 12,by omega,rfl,⟨_,.inl ⟨rfl,rfl⟩,hR⟩,rfl,rfl⟩
  ·simp only [ZZ,WW,Ze,reduceCtorEq,zd,ze,za,zf,zb,hg,qdi]
   refine ⟨⟨by omega,by omega⟩,by omega,?_⟩
   refine use1 (qeY o l1 (by have:=hR.len;omega) (by have:=hR1.len;omega) hR.b hR1.b) rfl (.inl rfl) ?_
   simp only [ZZ,WW,Ze,reduceCtorEq,zd,ze,za,zf,zb]
   refine br ?_ ?_
   ·intro _
    simp only [ZZ,WW,Ze,reduceCtorEq,zd,ze,za,zf,zb]
    refine qai zE_ ?_
    simp only [ZZ,WW,Ze,reduceCtorEq,zd,ze,za,zf,zb]
    ((repeat' (with_reducible apply And.intro))<;>try ((exact sc_)))
    refine qae (s.length - (i+1)) [.adr (.b 0) 0,oo,oo,.p (.sl 12 (ddE (mrgV o l1).1)),oo,oo,oo,oo,oo,.row (.l 9),.p (int (s.length:Nat)),.p (int ((i+1):Nat)),oo,oo,oo,oo,oo,oo,oo,oo,oo,oo,oo,oo,oo,oo] [(.b 0,.box ((stm l k1).map .p) T),(.l 9,.row (stE s) tDL 1 true)] (by omega) (by (simp only [ZZ,WW,Ze,reduceCtorEq,zd,ze,za,zf,zb];try trivial)) (by (simp only [ZZ,WW,Ze,reduceCtorEq,zd,ze,za,zf,zb];try trivial)) ⟨i+1,.sl 12 (ddE (mrgV o l1).1),by omega,rfl,⟨_,.inr rfl,hR.merge hR1⟩,rfl,rfl⟩
   ·intro _
    simp only [ZZ,WW,Ze,reduceCtorEq,zd,ze,za,zf,zb]
    refine qai zE_ ?_
    simp only [ZZ,WW,Ze,reduceCtorEq,zd,ze,za,zf,zb]
    ((repeat' (with_reducible apply And.intro))<;>try ((exact sc_)))
    refine qae (s.length - (i+1)) [.adr (.b 0) 0,oo,oo,.p (.sl 12 (ddE o)),oo,oo,oo,oo,oo,.row (.l 9),.p (int (s.length:Nat)),.p (int ((i+1):Nat)),oo,oo,oo,oo,oo,oo,oo,oo,oo,oo,oo,oo,oo,oo] [(.b 0,.box ((stm l k1).map .p) T),(.l 9,.row (stE s) tDL 1 true)] (by omega) (by (simp only [ZZ,WW,Ze,reduceCtorEq,zd,ze,za,zf,zb];try trivial)) (by (simp only [ZZ,WW,Ze,reduceCtorEq,zd,ze,za,zf,zb];try trivial)) ⟨i+1,.sl 12 (ddE o),by omega,rfl,⟨_,.inr rfl,hR⟩,rfl,rfl⟩
 ·intro h
  obtain ⟨o,hx,hR⟩:=hx
  rcases hx with ⟨rfl,rfl⟩|rfl
  ·simp only [ZZ,WW,Ze,reduceCtorEq,zd,ze,za,zf,zb]
   exact qfI (stm l k1) rfl ⟨[],k1,rfl,hR,rfl,hk1⟩
  ·simp only [ZZ,WW,Ze,reduceCtorEq,zd,ze,za,zf,zb]
   exact qfI (stm l k1) rfl ⟨o,k1,rfl,hR,rfl,hk1⟩
def qaV:IC:=(.seq (.reg [qO 141 (.bin .lss (.t 140) (.t 139))]) (.seq (.cond (.t 141) .skip (.exit 1)) (.seq (.block 2 (.seq (.reg [qM 142 140,qO 143 (.ixa 12 (.t 138) (.t 140)),qO 144 (.ld 12 true (.t 143)),qO 10 (.alc 45 [.str [],.int .i64 0,.int .i64 0,.int .i64 0,.str [],.str [],.str [],.int .i64 0,.int .i64 0,.str [],.int .i64 0,.str []]),qM 9 142,⟨none,.st 12 (.t 10) (.t 144),none⟩]) (.seq (.reg [qM 145 5,qM 146 9,qM 147 8,qO 148 (.fla 0 (.t 10)),qO 149 (.fla 0 (.t 148)),qO 150 (.ld 1 false (.t 149)),qO 151 (.mpl false (.str []) (.t 147) (.t 150)),qO 152 (.ld 12 true (.t 10)),qO 153 (.call 39 [.t 151,.t 152]),qO 154 (.ixa 12 (.t 145) (.t 146)),qO 155 (.fla 11 (.t 154)),⟨none,.st 1 (.t 155) (.t 153),none⟩]) (.drg [qM 156 8,qO 157 (.fla 0 (.t 10)),qO 158 (.fla 0 (.t 157)),qO 159 (.ldn 137 1 false (.t 158)),qM 160 5,qM 161 9,qO 162 (.ixa 12 (.t 160) (.t 161)),qO 163 (.fla 11 (.t 162)),qO 164 (.ldn 137 1 false (.t 163)),⟨none,.mpk 137 (.t 156) (.t 159) (.t 164),none⟩])))) (.reg [qO 165 (.bin .add (.t 140) (.c (.int .i64 1))),qM 140 165]))))
def qbi:IC:=(.seq (.reg [qO 4 (.mov (.c (.nl 12)))]) (.seq (.reg [qM 11 1,qO 12 (.call 35 [.t 11]),qM 5 12]) (.seq (.seq (.reg [qM 13 5,qO 14 (.len (.t 13)),qO 15 (.bin .eql (.t 14) (.c (.int .i64 0)))]) (.cond (.t 15) (.seq (.reg [qM 16 5,qM 17 0,qO 18 (.bsl 1 [.c (.str [97]),.c (.str [65])]),qO 19 (.call 36 [.t 17,.t 18]),qM 20 0,qO 21 (.call 16 [.t 20,.c (.int .i64 0),.c (.int .i64 2)]),⟨none,.fz (.t 19),none⟩,⟨none,.fz (.t 21),none⟩,qO 22 (.bld [.str [],.int .i64 0] [(0,1,.t 19),(1,1,.t 21)]),qO 23 (.bld [.str [],.int .i64 0,.int .i64 0,.int .i64 0,.str [],.str [],.str [],.int .i64 0,.int .i64 0,.str [],.int .i64 0,.str []] [(0,2,.t 22),(3,1,.c (.int .i64 2)),(4,1,.c (.str [105,97])),(6,1,.c (.str [104,111,116]))]),qO 24 (.bsl 12 [.t 23]),qO 25 (.app 45 12 144 (.t 16) (.t 24)),qM 4 25]) .ret) .skip)) (.seq (.reg [qM 26 0,qM 27 5,qO 28 (.len (.t 27)),qO 29 (.call 17 [.t 26,.t 28]),qM 6 29]) (.seq (.reg [qM 30 5,qM 31 6,qO 32 (.ixa 12 (.t 30) (.t 31)),qM 7 32]) (.seq (.seq (.reg [qM 33 0,qO 34 (.call 17 [.t 33,.c (.int .i64 11)])]) (.block 0 (.seq (.reg [qO 41 (.bin .eql (.t 34) (.c (.int .i64 0))),qM 40 41]) (.cond (.t 40) (.reg [qM 42 7,qM 43 0,qO 44 (.bsl 1 [.c (.str []),.c (.str [97]),.c (.str [122]),.c (.str [65])]),qO 45 (.call 36 [.t 43,.t 44]),qO 46 (.nck (.t 42)),qO 47 (.fla 0 (.t 46)),qO 48 (.fla 0 (.t 47)),⟨none,.st 1 (.t 48) (.t 45),none⟩]) (.seq (.reg [qO 50 (.bin .eql (.t 34) (.c (.int .i64 1))),qM 49 50]) (.cond (.t 49) (.drg [qM 51 7,qO 52 (.nck (.t 51)),qO 53 (.fla 0 (.t 52)),qO 54 (.fla 1 (.t 53)),qO 55 (.ldl 1 false (.t 54)),qM 56 0,qO 57 (.dcall true 16 [.t 56,.c (.int .i64 (-1)),.c (.int .i64 1)]),qO 58 (.bin .add (.t 55) (.t 57)),qO 59 (.nck (.t 51)),qO 60 (.fla 0 (.t 59)),qO 61 (.fla 1 (.t 60)),⟨none,.st 1 (.t 61) (.t 58),none⟩]) (.seq (.reg [qO 63 (.bin .eql (.t 34) (.c (.int .i64 2))),qM 62 63]) (.cond (.t 62) (.reg [qM 64 7,qM 65 0,qM 66 7,qO 67 (.nck (.t 66)),qO 68 (.fla 2 (.t 67)),qO 69 (.ld 1 false (.t 68)),qO 70 (.bin .add (.t 69) (.c (.int .i64 1))),qO 71 (.bsl 1 [.c (.int .i64 (-1)),.c (.int .i64 5761440),.t 70]),qO 72 (.call 37 [.t 65,.t 71]),qO 73 (.nck (.t 64)),qO 74 (.fla 2 (.t 73)),⟨none,.st 1 (.t 74) (.t 72),none⟩]) (.seq (.reg [qO 76 (.bin .eql (.t 34) (.c (.int .i64 3))),qM 75 76]) (.cond (.t 75) (.reg [qM 77 7,qM 78 0,qO 79 (.call 16 [.t 78,.c (.int .i64 0),.c (.int .i64 7)]),qO 80 (.nck (.t 77)),qO 81 (.fla 3 (.t 80)),⟨none,.st 1 (.t 81) (.t 79),none⟩]) (.seq (.reg [qO 83 (.bin .eql (.t 34) (.c (.int .i64 4))),qM 82 83]) (.cond (.t 82) (.reg [qM 84 7,qM 85 0,qO 86 (.bsl 1 [.c (.str []),.c (.str [105,98]),.c (.str [73])]),qO 87 (.call 36 [.t 85,.t 86]),qO 88 (.nck (.t 84)),qO 89 (.fla 4 (.t 88)),⟨none,.st 1 (.t 89) (.t 87),none⟩]) (.seq (.reg [qO 91 (.bin .eql (.t 34) (.c (.int .i64 5))),qM 90 91]) (.cond (.t 90) (.reg [qM 92 7,qM 93 0,qO 94 (.bsl 1 [.c (.str []),.c (.str [119,97,110,116]),.c (.str [70])]),qO 95 (.call 36 [.t 93,.t 94]),qO 96 (.nck (.t 92)),qO 97 (.fla 5 (.t 96)),⟨none,.st 1 (.t 97) (.t 95),none⟩]) (.seq (.reg [qO 99 (.bin .eql (.t 34) (.c (.int .i64 6))),qM 98 99]) (.cond (.t 98) (.reg [qM 100 7,qM 101 0,qO 102 (.bsl 1 [.c (.str []),.c (.str [121,101,115]),.c (.str [32,120])]),qO 103 (.call 36 [.t 101,.t 102]),qO 104 (.nck (.t 100)),qO 105 (.fla 6 (.t 104)),⟨none,.st 1 (.t 105) (.t 103),none⟩]) (.seq (.reg [qO 107 (.bin .eql (.t 34) (.c (.int .i64 7))),qM 106 107]) (.cond (.t 106) (.reg [qM 108 7,qM 109 0,qO 110 (.call 17 [.t 109,.c (.int .i64 3)]),qM 111 0,qO 112 (.call 17 [.t 111,.c (.int .i64 9)]),⟨none,.fz (.t 110),none⟩,⟨none,.fz (.t 112),none⟩,qO 113 (.bld [.int .i64 0,.int .i64 0] [(0,1,.t 110),(1,1,.t 112)]),qO 114 (.nck (.t 108)),qO 115 (.fla 7 (.t 114)),⟨none,.st 2 (.t 115) (.t 113),none⟩]) (.seq (.reg [qO 117 (.bin .eql (.t 34) (.c (.int .i64 8))),qM 116 117]) (.cond (.t 116) (.reg [qM 118 7,qM 119 0,qO 120 (.bsl 1 [.c (.str []),.c (.str [97]),.c (.str [98])]),qO 121 (.call 36 [.t 119,.t 120]),qM 122 0,qO 123 (.call 17 [.t 122,.c (.int .i64 4)]),⟨none,.fz (.t 121),none⟩,⟨none,.fz (.t 123),none⟩,qO 124 (.bld [.str [],.int .i64 0] [(0,1,.t 121),(1,1,.t 123)]),qO 125 (.nck (.t 118)),qO 126 (.fla 9 (.t 125)),⟨none,.st 2 (.t 126) (.t 124),none⟩]) (.seq (.reg [qO 128 (.bin .eql (.t 34) (.c (.int .i64 9))),qM 127 128]) (.cond (.t 127) (.reg [qM 129 7,qM 130 0,qO 131 (.bsl 1 [.c (.str []),.c (.str [48,49,50,51,52,53,54,55,56,57,97,98,99,100,101,102])]),qO 132 (.call 36 [.t 130,.t 131]),qO 133 (.nck (.t 129)),qO 134 (.fla 11 (.t 133)),⟨none,.st 1 (.t 134) (.t 132),none⟩]) (.reg [qM 35 5,qM 36 6,qM 37 6,qO 38 (.bin .add (.t 37) (.c (.int .i64 1))),qO 39 (.call 38 [.t 35,.t 36,.t 38]),qM 5 39]))))))))))))))))))))))) (.cut (.seq (.seq (.reg [qM 135 0,qO 136 (.call 7 [.t 135,.c (.int .i64 2)])]) (.cond (.t 136) (.seq (.reg [qO 137 (.mkm 9 9),qM 8 137]) (.seq (.reg [qM 138 5,qO 139 (.len (.t 138)),qO 140 (.mov (.c (.int .i64 0)))]) (.block 1 (.loop qaV)))) .skip)) (.cut (.seq (.reg [qM 166 5,qM 4 166]) .ret))))))))))
def qbf:List IRes:=[.t 4]
theorem qcL:chkF Tryz.prog Tryz.f8 qbi qbf 167=true:=by kernel_rfl
theorem qdV (o:List Dd) (j:Nat) (d:Dd):(ddE o).set j (ddC d)=ddE (o.set j d):=by simp [ddE]
theorem qtu (o:List Dd) (j:Nat):(ddE o).take j++(ddE o).drop (j+1)=ddE (o.take j++o.drop (j+1)):=by simp [ddE,List.map_take,List.map_drop]
theorem spB {q:List Dd} (h:DdsB q) {i:Nat} {d:Dd} (hd:DdB d):DdsB (q.set i d):=fun x hx=>by
 rcases z7 hx with hx|rfl
 ·exact h x hx
 ·exact hd
theorem spK {kv:List (List UInt8×PV)} (h:∀ s:List UInt8,∃ b:List UInt8,mpD kv s (.str [])=.str b∧b.length≤1000) {k v:List UInt8} (hv:v.length≤1000) (s:List UInt8):∃ b:List UInt8,mpD (mpS kv k (.str v)) s (.str [])=.str b∧b.length≤1000:=by
 unfold mpD
 rw [qkn]
 by_cases e:k=s
 ·rw [if_pos (by first|exact e|exact e.symm)]
  exact ⟨v,rfl,hv⟩
 ·rw [if_neg (by first|exact e|exact fun h=>e h.symm)]
  exact h s
def SpN (l:List Int) (k:Nat) (fr:List AV) (L:Objs):Prop:=∃ (q:List Dd) (k2:Nat),DdsB q∧q.length≤2001∧k2≤k+10∧fr=[.adr (.b 0) 0,oo,oo,oo,oo,.row (.l 12),oo,oo,oo,oo,oo,oo,oo,oo,oo,oo,oo,oo,oo,oo,oo,oo,oo,oo,oo,oo,oo,oo,oo,oo,oo,oo,oo,oo,oo,oo,oo,oo,oo,oo,oo,oo,oo,oo,oo,oo,oo,oo,oo,oo,oo,oo,oo,oo,oo,oo,oo,oo,oo,oo,oo,oo,oo,oo,oo,oo,oo,oo,oo,oo,oo,oo,oo,oo,oo,oo,oo,oo,oo,oo,oo,oo,oo,oo,oo,oo,oo,oo,oo,oo,oo,oo,oo,oo,oo,oo,oo,oo,oo,oo,oo,oo,oo,oo,oo,oo,oo,oo,oo,oo,oo,oo,oo,oo,oo,oo,oo,oo,oo,oo,oo,oo,oo,oo,oo,oo,oo,oo,oo,oo,oo,oo,oo,oo,oo,oo,oo,oo,oo,oo,oo,oo,oo,oo,oo,oo,oo,oo,oo,oo,oo,oo,oo,oo,oo,oo,oo,oo,oo,oo,oo,oo,oo,oo,oo,oo,oo]∧L=[(.b 0,.box ((stm l k2).map .p) T),(.l 12,.row (ddE q) tDd 12 true)]
def SpM (l:List Int) (k:Nat) (fr:List AV) (L:Objs):Prop:=∃ (q:List Dd) (k2:Nat),DdsB q∧q.length≤2001∧k2≤k+5∧fr=[.adr (.b 0) 0,oo,oo,oo,oo,.row (.l 12),oo,oo,oo,oo,oo,oo,oo,oo,oo,oo,oo,oo,oo,oo,oo,oo,oo,oo,oo,oo,oo,oo,oo,oo,oo,oo,oo,oo,oo,oo,oo,oo,oo,oo,oo,oo,oo,oo,oo,oo,oo,oo,oo,oo,oo,oo,oo,oo,oo,oo,oo,oo,oo,oo,oo,oo,oo,oo,oo,oo,oo,oo,oo,oo,oo,oo,oo,oo,oo,oo,oo,oo,oo,oo,oo,oo,oo,oo,oo,oo,oo,oo,oo,oo,oo,oo,oo,oo,oo,oo,oo,oo,oo,oo,oo,oo,oo,oo,oo,oo,oo,oo,oo,oo,oo,oo,oo,oo,oo,oo,oo,oo,oo,oo,oo,oo,oo,oo,oo,oo,oo,oo,oo,oo,oo,oo,oo,oo,oo,oo,oo,oo,oo,oo,oo,oo,oo,oo,oo,oo,oo,oo,oo,oo,oo,oo,oo,oo,oo,oo,oo,oo,oo,oo,oo,oo,oo,oo,oo,oo,oo]∧L=[(.b 0,.box ((stm l k2).map .p) T),(.l 12,.row (ddE q) tDd 12 true)]
set_option maxRecDepth 100000 in
set_option maxHeartbeats 4000000 in
theorem qi4 (l:List Int) (k:Nat) (o:List Dd) (hk:k≤900000) (hl:l.length≤9223372036854775807) (hR:RD 100 o) :
  qdh Tryz.prog ED 8 T (stm l k) [.sl 12 (ddE o)] (fun x cs'=>∃ (o':List Dd) (k':Nat),x=.sl 12 (ddE o')∧DdsB o'∧o'.length≤2001∧cs'=stm l k'∧k'≤k+10):=by
 have hol:=hR.len
 unfold qdh
 refine qfe mixed Tryz.func8 qcL ?_
 simp only [a0,l0,OS.ao,zl,zt,zm,zr,zo,zq,zu,zd,zk,zn,qbi,qbf,ZZ,WW,Ze,reduceCtorEq,zd,ze,za,zf,zb]
 refine useF (qhP (ddE o) (by rw [qac];omega)) rfl rfl ?_
 rintro es rfl
 simp only [ZZ,WW,Ze,reduceCtorEq,zd,ze,za,zf,zb,qac]
 refine br ?_ ?_
 ·intro h0
  have h0:o=[]:=by have:=of_decide_eq_true h0;exact List.eq_nil_of_length_eq_zero (by omega)
  subst h0
  simp only [ZZ,WW,Ze,reduceCtorEq,zd,ze,za,zf,zb,qmK]
  refine useS (qcQ l k [[97],[65]] (by omega) hl (by simp) (by simp)) rfl rfl rfl zE_ ?_
  rintro x cs' ⟨u,rfl,hu,rfl⟩
  have hu:u.length≤1000:=by simp only [zG,zR,or_false] at hu;rcases hu with rfl|rfl<;>decide
  simp only [ZZ,WW,Ze,reduceCtorEq,zd,ze,za,zf,zb]
  refine useS (qhs l (k+1) 0 2 (by omega) hl (by decide) (by decide) (by decide)) rfl rfl rfl zE_ ?_
  rintro x cs' ⟨v,rfl,hv1,hv2,rfl⟩
  simp only [ZZ,WW,Ze,reduceCtorEq,zd,ze,za,zf,zb,qmK]
  exact qfI (stm l (k+1+1)) rfl ⟨[⟨u,v,0,2,[105,97],[],[104,111,116],0,0,[],0,[]⟩],_,rfl,(fun x hx=>by rw [List.mem_singleton] at hx;subst hx;exact ⟨hu,by simp,by simp,by simp,by simp,by simp,⟨by dsimp only;omega,by dsimp only;omega⟩,by simp,by simp,by simp,by simp,by simp⟩),by simp,rfl,by omega⟩
 intro h0
 have h0:0 < o.length:=by have:=of_decide_eq_false h0;omega
 simp only [ZZ,WW,Ze,reduceCtorEq,zd,ze,za,zf,zb,qac]
 refine useS (qcb l k (o.length:Nat) (by omega) hl (by omega)) rfl rfl rfl zE_ ?_
 rintro x cs' ⟨y1,rfl,rfl⟩
 obtain ⟨j,hj,hy1⟩:=qdX y1 o.length (by omega)
 rw [hy1]
 obtain ⟨d,hd⟩:∃ d,o[j]?=some d:=⟨_,zp hj⟩
 have hg:=qa0 hd
 have dB:=hR.b.get hd
 have dt:=hR.t d (zH hd)
 have dn:=hR.n d (zH hd)
 have hdel:DdsB (o.take j++o.drop (j+1)):=fun x hx=>hR.b x ((List.mem_append.1 hx).elim List.mem_of_mem_take List.mem_of_mem_drop)
 have hset:∀ d':Dd,DdB d'→DdsB (o.set j d'):=fun d' h' x hx=>by
  rcases z7 hx with hx|rfl
  ·exact hR.b x hx
  ·exact h'
 simp only [ZZ,WW,Ze,reduceCtorEq,zd,ze,za,zf,zb,hg,qac]
 refine ⟨⟨by omega,by omega⟩,?_⟩
 refine useS (qcb l (k+1) 11 (by omega) hl (by decide)) rfl rfl rfl zE_ ?_
 rintro x cs' ⟨y2,rfl,rfl⟩
 generalize qdY y2 11=w
 simp only [ZZ,WW,Ze,reduceCtorEq,zd,ze,za,zf,zb]
 refine qio (SpM l k) ?_ ?_ ?_
 ·intro _
  simp only [ZZ,WW,Ze,reduceCtorEq,zd,ze,za,zf,zb]
  refine useS (qcQ l (k+1+1) [[],[97],[122],[65]] (by omega) hl (by simp) (by simp)) rfl rfl rfl zE_ ?_
  rintro x cs' ⟨u,rfl,hu,rfl⟩
  have hu:u.length≤1000:=by simp only [zG,zR,or_false] at hu;rcases hu with rfl|rfl|rfl|rfl<;>decide
  simp only [ZZ,WW,Ze,reduceCtorEq,zd,ze,za,zf,zb,hg,qac,ddC]
  refine ⟨hj,?_⟩
  exact qan [.adr (.b 0) 0,oo,oo,oo,oo,.row (.l 12),oo,oo,oo,oo,oo,oo,oo,oo,oo,oo,oo,oo,oo,oo,oo,oo,oo,oo,oo,oo,oo,oo,oo,oo,oo,oo,oo,oo,oo,oo,oo,oo,oo,oo,oo,oo,oo,oo,oo,oo,oo,oo,oo,oo,oo,oo,oo,oo,oo,oo,oo,oo,oo,oo,oo,oo,oo,oo,oo,oo,oo,oo,oo,oo,oo,oo,oo,oo,oo,oo,oo,oo,oo,oo,oo,oo,oo,oo,oo,oo,oo,oo,oo,oo,oo,oo,oo,oo,oo,oo,oo,oo,oo,oo,oo,oo,oo,oo,oo,oo,oo,oo,oo,oo,oo,oo,oo,oo,oo,oo,oo,oo,oo,oo,oo,oo,oo,oo,oo,oo,oo,oo,oo,oo,oo,oo,oo,oo,oo,oo,oo,oo,oo,oo,oo,oo,oo,oo,oo,oo,oo,oo,oo,oo,oo,oo,oo,oo,oo,oo,oo,oo,oo,oo,oo,oo,oo,oo,oo,oo,oo] [(.b 0,.box ((stm l (k+1+1+1)).map .p) T),(.l 12,.row (ddE (o.set j { d with site:=u })) tDd 12 true)] (by (simp only [ZZ,WW,Ze,reduceCtorEq,zd,ze,za,zf,zb];try trivial)) (by simp only [ZZ,WW,Ze,reduceCtorEq,zd,ze,za,zf,zb,hg,ddC];exact congrArg (fun z=>some (AO.row z tDd 12 true)) (qdV o j { d with site:=u })) ⟨_,_,hset { d with site:=u } { dB with b1:=hu },by simp;omega,by omega,rfl,rfl⟩
 ·intro _
  simp only [ZZ,WW,Ze,reduceCtorEq,zd,ze,za,zf,zb]
  refine br ?_ ?_
  ·intro _
   simp only [ZZ,WW,Ze,reduceCtorEq,zd,ze,za,zf,zb]
   refine drg0 ?_
   simp only [ZZ,WW,Ze,reduceCtorEq,zd,ze,za,zf,zb,hg,qac,ddC]
   refine ⟨hj,?_⟩
   refine useD (qhs l (k+1+1) (-1) 1 (by omega) hl (by decide) (by decide) (by decide)) ⟨_,_,0,rfl,by decide,by decide,rfl⟩ rfl rfl rfl zE_ (fun _=>⟨0,rfl⟩) ?_
   rintro x cs' ⟨u,rfl,hu1,hu2,rfl⟩
   simp only [ZZ,WW,Ze,reduceCtorEq,zd,ze,za,zf,zb,hg,qac,ddC]
   refine ⟨qat (by omega) (by omega),hj,?_⟩
   exact qan [.adr (.b 0) 0,oo,oo,oo,oo,.row (.l 12),oo,oo,oo,oo,oo,oo,oo,oo,oo,oo,oo,oo,oo,oo,oo,oo,oo,oo,oo,oo,oo,oo,oo,oo,oo,oo,oo,oo,oo,oo,oo,oo,oo,oo,oo,oo,oo,oo,oo,oo,oo,oo,oo,oo,oo,oo,oo,oo,oo,oo,oo,oo,oo,oo,oo,oo,oo,oo,oo,oo,oo,oo,oo,oo,oo,oo,oo,oo,oo,oo,oo,oo,oo,oo,oo,oo,oo,oo,oo,oo,oo,oo,oo,oo,oo,oo,oo,oo,oo,oo,oo,oo,oo,oo,oo,oo,oo,oo,oo,oo,oo,oo,oo,oo,oo,oo,oo,oo,oo,oo,oo,oo,oo,oo,oo,oo,oo,oo,oo,oo,oo,oo,oo,oo,oo,oo,oo,oo,oo,oo,oo,oo,oo,oo,oo,oo,oo,oo,oo,oo,oo,oo,oo,oo,oo,oo,oo,oo,oo,oo,oo,oo,oo,oo,oo,oo,oo,oo,oo,oo,oo] [(.b 0,.box ((stm l (k+1+1+1)).map .p) T),(.l 12,.row (ddE (o.set j { d with no:=d.no+u })) tDd 12 true)] (by (simp only [ZZ,WW,Ze,reduceCtorEq,zd,ze,za,zf,zb];try trivial)) (by simp only [ZZ,WW,Ze,reduceCtorEq,zd,ze,za,zf,zb,hg,ddC];exact congrArg (fun z=>some (AO.row z tDd 12 true)) (qdV o j { d with no:=d.no+u })) ⟨_,_,hset { d with no:=d.no+u } { dB with c1:=⟨by show _≤d.no+u;omega,by show d.no+u≤_;omega⟩ },by simp;omega,by omega,rfl,rfl⟩
  intro _
  simp only [ZZ,WW,Ze,reduceCtorEq,zd,ze,za,zf,zb]
  refine br ?_ ?_
  ·intro _
   simp only [ZZ,WW,Ze,reduceCtorEq,zd,ze,za,zf,zb]
   simp only [ZZ,WW,Ze,reduceCtorEq,zd,ze,za,zf,zb,hg,qac,ddC]
   refine ⟨hj,qat (by omega) (by omega),?_⟩
   refine useS (qgB l (k+1+1) [-1,5761440,d.tm+1] (by omega) hl (by simp) (by simp)) rfl rfl rfl zE_ ?_
   rintro x cs' ⟨u,rfl,hu,rfl⟩
   have hu:-1000000001≤u∧u≤1000000001:=by simp only [zG,zR,or_false] at hu;omega
   simp only [ZZ,WW,Ze,reduceCtorEq,zd,ze,za,zf,zb,hg,qac,ddC]
   refine ⟨hj,?_⟩
   exact qan [.adr (.b 0) 0,oo,oo,oo,oo,.row (.l 12),oo,oo,oo,oo,oo,oo,oo,oo,oo,oo,oo,oo,oo,oo,oo,oo,oo,oo,oo,oo,oo,oo,oo,oo,oo,oo,oo,oo,oo,oo,oo,oo,oo,oo,oo,oo,oo,oo,oo,oo,oo,oo,oo,oo,oo,oo,oo,oo,oo,oo,oo,oo,oo,oo,oo,oo,oo,oo,oo,oo,oo,oo,oo,oo,oo,oo,oo,oo,oo,oo,oo,oo,oo,oo,oo,oo,oo,oo,oo,oo,oo,oo,oo,oo,oo,oo,oo,oo,oo,oo,oo,oo,oo,oo,oo,oo,oo,oo,oo,oo,oo,oo,oo,oo,oo,oo,oo,oo,oo,oo,oo,oo,oo,oo,oo,oo,oo,oo,oo,oo,oo,oo,oo,oo,oo,oo,oo,oo,oo,oo,oo,oo,oo,oo,oo,oo,oo,oo,oo,oo,oo,oo,oo,oo,oo,oo,oo,oo,oo,oo,oo,oo,oo,oo,oo,oo,oo,oo,oo,oo,oo] [(.b 0,.box ((stm l (k+1+1+1)).map .p) T),(.l 12,.row (ddE (o.set j { d with tm:=u })) tDd 12 true)] (by (simp only [ZZ,WW,Ze,reduceCtorEq,zd,ze,za,zf,zb];try trivial)) (by simp only [ZZ,WW,Ze,reduceCtorEq,zd,ze,za,zf,zb,hg,ddC];exact congrArg (fun z=>some (AO.row z tDd 12 true)) (qdV o j { d with tm:=u })) ⟨_,_,hset { d with tm:=u } { dB with c2:=⟨by dsimp only;omega,by dsimp only;omega⟩ },by simp;omega,by omega,rfl,rfl⟩
  intro _
  simp only [ZZ,WW,Ze,reduceCtorEq,zd,ze,za,zf,zb]
  refine br ?_ ?_
  ·intro _
   simp only [ZZ,WW,Ze,reduceCtorEq,zd,ze,za,zf,zb]
   refine useS (qhs l (k+1+1) 0 7 (by omega) hl (by decide) (by decide) (by decide)) rfl rfl rfl zE_ ?_
   rintro x cs' ⟨u,rfl,hu1,hu2,rfl⟩
   simp only [ZZ,WW,Ze,reduceCtorEq,zd,ze,za,zf,zb,hg,qac,ddC]
   refine ⟨hj,?_⟩
   exact qan [.adr (.b 0) 0,oo,oo,oo,oo,.row (.l 12),oo,oo,oo,oo,oo,oo,oo,oo,oo,oo,oo,oo,oo,oo,oo,oo,oo,oo,oo,oo,oo,oo,oo,oo,oo,oo,oo,oo,oo,oo,oo,oo,oo,oo,oo,oo,oo,oo,oo,oo,oo,oo,oo,oo,oo,oo,oo,oo,oo,oo,oo,oo,oo,oo,oo,oo,oo,oo,oo,oo,oo,oo,oo,oo,oo,oo,oo,oo,oo,oo,oo,oo,oo,oo,oo,oo,oo,oo,oo,oo,oo,oo,oo,oo,oo,oo,oo,oo,oo,oo,oo,oo,oo,oo,oo,oo,oo,oo,oo,oo,oo,oo,oo,oo,oo,oo,oo,oo,oo,oo,oo,oo,oo,oo,oo,oo,oo,oo,oo,oo,oo,oo,oo,oo,oo,oo,oo,oo,oo,oo,oo,oo,oo,oo,oo,oo,oo,oo,oo,oo,oo,oo,oo,oo,oo,oo,oo,oo,oo,oo,oo,oo,oo,oo,oo,oo,oo,oo,oo,oo,oo] [(.b 0,.box ((stm l (k+1+1+1)).map .p) T),(.l 12,.row (ddE (o.set j { d with kind:=u })) tDd 12 true)] (by (simp only [ZZ,WW,Ze,reduceCtorEq,zd,ze,za,zf,zb];try trivial)) (by simp only [ZZ,WW,Ze,reduceCtorEq,zd,ze,za,zf,zb,hg,ddC];exact congrArg (fun z=>some (AO.row z tDd 12 true)) (qdV o j { d with kind:=u })) ⟨_,_,hset { d with kind:=u } { dB with c3:=⟨by dsimp only;omega,by dsimp only;omega⟩ },by simp;omega,by omega,rfl,rfl⟩
  intro _
  simp only [ZZ,WW,Ze,reduceCtorEq,zd,ze,za,zf,zb]
  refine br ?_ ?_
  ·intro _
   simp only [ZZ,WW,Ze,reduceCtorEq,zd,ze,za,zf,zb]
   refine useS (qcQ l (k+1+1) [[],[105,98],[73]] (by omega) hl (by simp) (by simp)) rfl rfl rfl zE_ ?_
   rintro x cs' ⟨u,rfl,hu,rfl⟩
   have hu:u.length≤1000:=by simp only [zG,zR,or_false] at hu;rcases hu with rfl|rfl|rfl<;>decide
   simp only [ZZ,WW,Ze,reduceCtorEq,zd,ze,za,zf,zb,hg,qac,ddC]
   refine ⟨hj,?_⟩
   exact qan [.adr (.b 0) 0,oo,oo,oo,oo,.row (.l 12),oo,oo,oo,oo,oo,oo,oo,oo,oo,oo,oo,oo,oo,oo,oo,oo,oo,oo,oo,oo,oo,oo,oo,oo,oo,oo,oo,oo,oo,oo,oo,oo,oo,oo,oo,oo,oo,oo,oo,oo,oo,oo,oo,oo,oo,oo,oo,oo,oo,oo,oo,oo,oo,oo,oo,oo,oo,oo,oo,oo,oo,oo,oo,oo,oo,oo,oo,oo,oo,oo,oo,oo,oo,oo,oo,oo,oo,oo,oo,oo,oo,oo,oo,oo,oo,oo,oo,oo,oo,oo,oo,oo,oo,oo,oo,oo,oo,oo,oo,oo,oo,oo,oo,oo,oo,oo,oo,oo,oo,oo,oo,oo,oo,oo,oo,oo,oo,oo,oo,oo,oo,oo,oo,oo,oo,oo,oo,oo,oo,oo,oo,oo,oo,oo,oo,oo,oo,oo,oo,oo,oo,oo,oo,oo,oo,oo,oo,oo,oo,oo,oo,oo,oo,oo,oo,oo,oo,oo,oo,oo,oo] [(.b 0,.box ((stm l (k+1+1+1)).map .p) T),(.l 12,.row (ddE (o.set j { d with id:=u })) tDd 12 true)] (by (simp only [ZZ,WW,Ze,reduceCtorEq,zd,ze,za,zf,zb];try trivial)) (by simp only [ZZ,WW,Ze,reduceCtorEq,zd,ze,za,zf,zb,hg,ddC];exact congrArg (fun z=>some (AO.row z tDd 12 true)) (qdV o j { d with id:=u })) ⟨_,_,hset { d with id:=u } { dB with b2:=hu },by simp;omega,by omega,rfl,rfl⟩
  intro _
  simp only [ZZ,WW,Ze,reduceCtorEq,zd,ze,za,zf,zb]
  refine br ?_ ?_
  ·intro _
   simp only [ZZ,WW,Ze,reduceCtorEq,zd,ze,za,zf,zb]
   refine useS (qcQ l (k+1+1) [[],[119,97,110,116],[70]] (by omega) hl (by simp) (by simp)) rfl rfl rfl zE_ ?_
   rintro x cs' ⟨u,rfl,hu,rfl⟩
   have hu:u.length≤1000:=by simp only [zG,zR,or_false] at hu;rcases hu with rfl|rfl|rfl<;>decide
   simp only [ZZ,WW,Ze,reduceCtorEq,zd,ze,za,zf,zb,hg,qac,ddC]
   refine ⟨hj,?_⟩
   exact qan [.adr (.b 0) 0,oo,oo,oo,oo,.row (.l 12),oo,oo,oo,oo,oo,oo,oo,oo,oo,oo,oo,oo,oo,oo,oo,oo,oo,oo,oo,oo,oo,oo,oo,oo,oo,oo,oo,oo,oo,oo,oo,oo,oo,oo,oo,oo,oo,oo,oo,oo,oo,oo,oo,oo,oo,oo,oo,oo,oo,oo,oo,oo,oo,oo,oo,oo,oo,oo,oo,oo,oo,oo,oo,oo,oo,oo,oo,oo,oo,oo,oo,oo,oo,oo,oo,oo,oo,oo,oo,oo,oo,oo,oo,oo,oo,oo,oo,oo,oo,oo,oo,oo,oo,oo,oo,oo,oo,oo,oo,oo,oo,oo,oo,oo,oo,oo,oo,oo,oo,oo,oo,oo,oo,oo,oo,oo,oo,oo,oo,oo,oo,oo,oo,oo,oo,oo,oo,oo,oo,oo,oo,oo,oo,oo,oo,oo,oo,oo,oo,oo,oo,oo,oo,oo,oo,oo,oo,oo,oo,oo,oo,oo,oo,oo,oo,oo,oo,oo,oo,oo,oo] [(.b 0,.box ((stm l (k+1+1+1)).map .p) T),(.l 12,.row (ddE (o.set j { d with field:=u })) tDd 12 true)] (by (simp only [ZZ,WW,Ze,reduceCtorEq,zd,ze,za,zf,zb];try trivial)) (by simp only [ZZ,WW,Ze,reduceCtorEq,zd,ze,za,zf,zb,hg,ddC];exact congrArg (fun z=>some (AO.row z tDd 12 true)) (qdV o j { d with field:=u })) ⟨_,_,hset { d with field:=u } { dB with b3:=hu },by simp;omega,by omega,rfl,rfl⟩
  intro _
  simp only [ZZ,WW,Ze,reduceCtorEq,zd,ze,za,zf,zb]
  refine br ?_ ?_
  ·intro _
   simp only [ZZ,WW,Ze,reduceCtorEq,zd,ze,za,zf,zb]
   refine useS (qcQ l (k+1+1) [[],[121,101,115],[32,120]] (by omega) hl (by simp) (by simp)) rfl rfl rfl zE_ ?_
   rintro x cs' ⟨u,rfl,hu,rfl⟩
   have hu:u.length≤1000:=by simp only [zG,zR,or_false] at hu;rcases hu with rfl|rfl|rfl<;>decide
   simp only [ZZ,WW,Ze,reduceCtorEq,zd,ze,za,zf,zb,hg,qac,ddC]
   refine ⟨hj,?_⟩
   exact qan [.adr (.b 0) 0,oo,oo,oo,oo,.row (.l 12),oo,oo,oo,oo,oo,oo,oo,oo,oo,oo,oo,oo,oo,oo,oo,oo,oo,oo,oo,oo,oo,oo,oo,oo,oo,oo,oo,oo,oo,oo,oo,oo,oo,oo,oo,oo,oo,oo,oo,oo,oo,oo,oo,oo,oo,oo,oo,oo,oo,oo,oo,oo,oo,oo,oo,oo,oo,oo,oo,oo,oo,oo,oo,oo,oo,oo,oo,oo,oo,oo,oo,oo,oo,oo,oo,oo,oo,oo,oo,oo,oo,oo,oo,oo,oo,oo,oo,oo,oo,oo,oo,oo,oo,oo,oo,oo,oo,oo,oo,oo,oo,oo,oo,oo,oo,oo,oo,oo,oo,oo,oo,oo,oo,oo,oo,oo,oo,oo,oo,oo,oo,oo,oo,oo,oo,oo,oo,oo,oo,oo,oo,oo,oo,oo,oo,oo,oo,oo,oo,oo,oo,oo,oo,oo,oo,oo,oo,oo,oo,oo,oo,oo,oo,oo,oo,oo,oo,oo,oo,oo,oo] [(.b 0,.box ((stm l (k+1+1+1)).map .p) T),(.l 12,.row (ddE (o.set j { d with value:=u })) tDd 12 true)] (by (simp only [ZZ,WW,Ze,reduceCtorEq,zd,ze,za,zf,zb];try trivial)) (by simp only [ZZ,WW,Ze,reduceCtorEq,zd,ze,za,zf,zb,hg,ddC];exact congrArg (fun z=>some (AO.row z tDd 12 true)) (qdV o j { d with value:=u })) ⟨_,_,hset { d with value:=u } { dB with b4:=hu },by simp;omega,by omega,rfl,rfl⟩
  intro _
  simp only [ZZ,WW,Ze,reduceCtorEq,zd,ze,za,zf,zb]
  refine br ?_ ?_
  ·intro _
   simp only [ZZ,WW,Ze,reduceCtorEq,zd,ze,za,zf,zb]
   refine useS (qcb l (k+1+1) 3 (by omega) hl (by decide)) rfl rfl rfl zE_ ?_
   rintro x cs' ⟨yu,rfl,rfl⟩
   have hu1:=qcX yu 3
   have hu2:=qcY yu 3 (by decide)
   generalize qdY yu 3=u at *
   simp only [ZZ,WW,Ze,reduceCtorEq,zd,ze,za,zf,zb]
   refine useS (qcb l (k+1+1+1) 9 (by omega) hl (by decide)) rfl rfl rfl zE_ ?_
   rintro x cs' ⟨yv,rfl,rfl⟩
   have hv1:=qcX yv 9
   have hv2:=qcY yv 9 (by decide)
   generalize qdY yv 9=v at *
   simp only [ZZ,WW,Ze,reduceCtorEq,zd,ze,za,zf,zb,hg,qac,ddC]
   refine ⟨hj,?_⟩
   exact qan [.adr (.b 0) 0,oo,oo,oo,oo,.row (.l 12),oo,oo,oo,oo,oo,oo,oo,oo,oo,oo,oo,oo,oo,oo,oo,oo,oo,oo,oo,oo,oo,oo,oo,oo,oo,oo,oo,oo,oo,oo,oo,oo,oo,oo,oo,oo,oo,oo,oo,oo,oo,oo,oo,oo,oo,oo,oo,oo,oo,oo,oo,oo,oo,oo,oo,oo,oo,oo,oo,oo,oo,oo,oo,oo,oo,oo,oo,oo,oo,oo,oo,oo,oo,oo,oo,oo,oo,oo,oo,oo,oo,oo,oo,oo,oo,oo,oo,oo,oo,oo,oo,oo,oo,oo,oo,oo,oo,oo,oo,oo,oo,oo,oo,oo,oo,oo,oo,oo,oo,oo,oo,oo,oo,oo,oo,oo,oo,oo,oo,oo,oo,oo,oo,oo,oo,oo,oo,oo,oo,oo,oo,oo,oo,oo,oo,oo,oo,oo,oo,oo,oo,oo,oo,oo,oo,oo,oo,oo,oo,oo,oo,oo,oo,oo,oo,oo,oo,oo,oo,oo,oo] [(.b 0,.box ((stm l (k+1+1+1+1)).map .p) T),(.l 12,.row (ddE (o.set j { d with frm:=u,upto:=v })) tDd 12 true)] (by (simp only [ZZ,WW,Ze,reduceCtorEq,zd,ze,za,zf,zb];try trivial)) (by simp only [ZZ,WW,Ze,reduceCtorEq,zd,ze,za,zf,zb,hg,ddC];exact congrArg (fun z=>some (AO.row z tDd 12 true)) (qdV o j { d with frm:=u,upto:=v })) ⟨_,_,hset { d with frm:=u,upto:=v } { dB with c4:=⟨by dsimp only;omega,by dsimp only;omega⟩,c5:=⟨by dsimp only;omega,by dsimp only;omega⟩ },by simp;omega,by omega,rfl,rfl⟩
  intro _
  simp only [ZZ,WW,Ze,reduceCtorEq,zd,ze,za,zf,zb]
  refine br ?_ ?_
  ·intro _
   simp only [ZZ,WW,Ze,reduceCtorEq,zd,ze,za,zf,zb]
   refine useS (qcQ l (k+1+1) [[],[97],[98]] (by omega) hl (by simp) (by simp)) rfl rfl rfl zE_ ?_
   rintro x cs' ⟨u,rfl,hu,rfl⟩
   have hu:u.length≤1000:=by simp only [zG,zR,or_false] at hu;rcases hu with rfl|rfl|rfl<;>decide
   simp only [ZZ,WW,Ze,reduceCtorEq,zd,ze,za,zf,zb]
   refine useS (qcb l (k+1+1+1) 4 (by omega) hl (by decide)) rfl rfl rfl zE_ ?_
   rintro x cs' ⟨yv,rfl,rfl⟩
   have hv1:=qcX yv 4
   have hv2:=qcY yv 4 (by decide)
   generalize qdY yv 4=v at *
   simp only [ZZ,WW,Ze,reduceCtorEq,zd,ze,za,zf,zb,hg,qac,ddC]
   refine ⟨hj,?_⟩
   exact qan [.adr (.b 0) 0,oo,oo,oo,oo,.row (.l 12),oo,oo,oo,oo,oo,oo,oo,oo,oo,oo,oo,oo,oo,oo,oo,oo,oo,oo,oo,oo,oo,oo,oo,oo,oo,oo,oo,oo,oo,oo,oo,oo,oo,oo,oo,oo,oo,oo,oo,oo,oo,oo,oo,oo,oo,oo,oo,oo,oo,oo,oo,oo,oo,oo,oo,oo,oo,oo,oo,oo,oo,oo,oo,oo,oo,oo,oo,oo,oo,oo,oo,oo,oo,oo,oo,oo,oo,oo,oo,oo,oo,oo,oo,oo,oo,oo,oo,oo,oo,oo,oo,oo,oo,oo,oo,oo,oo,oo,oo,oo,oo,oo,oo,oo,oo,oo,oo,oo,oo,oo,oo,oo,oo,oo,oo,oo,oo,oo,oo,oo,oo,oo,oo,oo,oo,oo,oo,oo,oo,oo,oo,oo,oo,oo,oo,oo,oo,oo,oo,oo,oo,oo,oo,oo,oo,oo,oo,oo,oo,oo,oo,oo,oo,oo,oo,oo,oo,oo,oo,oo,oo] [(.b 0,.box ((stm l (k+1+1+1+1)).map .p) T),(.l 12,.row (ddE (o.set j { d with osite:=u,ono:=v })) tDd 12 true)] (by (simp only [ZZ,WW,Ze,reduceCtorEq,zd,ze,za,zf,zb];try trivial)) (by simp only [ZZ,WW,Ze,reduceCtorEq,zd,ze,za,zf,zb,hg,ddC];exact congrArg (fun z=>some (AO.row z tDd 12 true)) (qdV o j { d with osite:=u,ono:=v })) ⟨_,_,hset { d with osite:=u,ono:=v } { dB with b5:=hu,c6:=⟨by dsimp only;omega,by dsimp only;omega⟩ },by simp;omega,by omega,rfl,rfl⟩
  intro _
  simp only [ZZ,WW,Ze,reduceCtorEq,zd,ze,za,zf,zb]
  refine br ?_ ?_
  ·intro _
   simp only [ZZ,WW,Ze,reduceCtorEq,zd,ze,za,zf,zb]
   refine useS (qcQ l (k+1+1) [[],[48,49,50,51,52,53,54,55,56,57,97,98,99,100,101,102]] (by omega) hl (by simp) (by simp)) rfl rfl rfl zE_ ?_
   rintro x cs' ⟨u,rfl,hu,rfl⟩
   have hu:u.length≤1000:=by simp only [zG,zR,or_false] at hu;rcases hu with rfl|rfl<;>decide
   simp only [ZZ,WW,Ze,reduceCtorEq,zd,ze,za,zf,zb,hg,qac,ddC]
   refine ⟨hj,?_⟩
   exact qan [.adr (.b 0) 0,oo,oo,oo,oo,.row (.l 12),oo,oo,oo,oo,oo,oo,oo,oo,oo,oo,oo,oo,oo,oo,oo,oo,oo,oo,oo,oo,oo,oo,oo,oo,oo,oo,oo,oo,oo,oo,oo,oo,oo,oo,oo,oo,oo,oo,oo,oo,oo,oo,oo,oo,oo,oo,oo,oo,oo,oo,oo,oo,oo,oo,oo,oo,oo,oo,oo,oo,oo,oo,oo,oo,oo,oo,oo,oo,oo,oo,oo,oo,oo,oo,oo,oo,oo,oo,oo,oo,oo,oo,oo,oo,oo,oo,oo,oo,oo,oo,oo,oo,oo,oo,oo,oo,oo,oo,oo,oo,oo,oo,oo,oo,oo,oo,oo,oo,oo,oo,oo,oo,oo,oo,oo,oo,oo,oo,oo,oo,oo,oo,oo,oo,oo,oo,oo,oo,oo,oo,oo,oo,oo,oo,oo,oo,oo,oo,oo,oo,oo,oo,oo,oo,oo,oo,oo,oo,oo,oo,oo,oo,oo,oo,oo,oo,oo,oo,oo,oo,oo] [(.b 0,.box ((stm l (k+1+1+1)).map .p) T),(.l 12,.row (ddE (o.set j { d with sum:=u })) tDd 12 true)] (by (simp only [ZZ,WW,Ze,reduceCtorEq,zd,ze,za,zf,zb];try trivial)) (by simp only [ZZ,WW,Ze,reduceCtorEq,zd,ze,za,zf,zb,hg,ddC];exact congrArg (fun z=>some (AO.row z tDd 12 true)) (qdV o j { d with sum:=u })) ⟨_,_,hset { d with sum:=u } { dB with b6:=hu },by simp;omega,by omega,rfl,rfl⟩
  intro _
  simp only [ZZ,WW,Ze,reduceCtorEq,zd,ze,za,zf,zb]
  refine ⟨qat (by omega) (by omega),?_⟩
  refine qtY 12 (ddE o) j (j+1) (by rw [qac];omega) rfl (by rw [qac];omega) rfl ?_
  simp only [ZZ,WW,Ze,reduceCtorEq,zd,ze,za,zf,zb]
  exact qan [.adr (.b 0) 0,oo,oo,oo,oo,.row (.l 12),oo,oo,oo,oo,oo,oo,oo,oo,oo,oo,oo,oo,oo,oo,oo,oo,oo,oo,oo,oo,oo,oo,oo,oo,oo,oo,oo,oo,oo,oo,oo,oo,oo,oo,oo,oo,oo,oo,oo,oo,oo,oo,oo,oo,oo,oo,oo,oo,oo,oo,oo,oo,oo,oo,oo,oo,oo,oo,oo,oo,oo,oo,oo,oo,oo,oo,oo,oo,oo,oo,oo,oo,oo,oo,oo,oo,oo,oo,oo,oo,oo,oo,oo,oo,oo,oo,oo,oo,oo,oo,oo,oo,oo,oo,oo,oo,oo,oo,oo,oo,oo,oo,oo,oo,oo,oo,oo,oo,oo,oo,oo,oo,oo,oo,oo,oo,oo,oo,oo,oo,oo,oo,oo,oo,oo,oo,oo,oo,oo,oo,oo,oo,oo,oo,oo,oo,oo,oo,oo,oo,oo,oo,oo,oo,oo,oo,oo,oo,oo,oo,oo,oo,oo,oo,oo,oo,oo,oo,oo,oo,oo] [(.b 0,.box ((stm l (k+1+1)).map .p) T),(.l 12,.row (ddE (o.take j++o.drop (j+1))) tDd 12 true)] (by (simp only [ZZ,WW,Ze,reduceCtorEq,zd,ze,za,zf,zb];try trivial)) (by simp only [ZZ,WW,Ze,reduceCtorEq,zd,ze,za,zf,zb];exact congrArg (fun z=>some (AO.row z tDd 12 true)) (qtu o j)) ⟨_,_,hdel,by simp;omega,by omega,rfl,rfl⟩
 rintro fr L ⟨q,k2,hqB,hql,hk2,rfl,rfl⟩
 simp only [ZZ,WW,Ze,reduceCtorEq,zd,ze,za,zf,zb]
 refine useS (qi5 l k2 2 (by omega) hl (by decide)) rfl rfl rfl zE_ ?_
 rintro x cs' ⟨z,rfl,rfl⟩
 simp only [ZZ,WW,Ze,reduceCtorEq,zd,ze,za,zf,zb]
 refine qeq (SpN l k) ?_ ?_ ?_
 ·intro _
  simp only [ZZ,WW,Ze,reduceCtorEq,zd,ze,za,zf,zb,qac]
  refine qaf (fun n fr L=>∃ (i:Nat) (q':List Dd) (kv:List (List UInt8×PV)),i≤q.length∧n=q.length - i∧(DdsB q')∧(q'.length=q.length)∧(∀ s:List UInt8,∃ b:List UInt8,mpD kv s (.str [])=.str b∧b.length≤1000)∧fr=[.adr (.b 0) 0,oo,oo,oo,oo,.row (.l 12),oo,oo,.mp (.l 137),oo,oo,oo,oo,oo,oo,oo,oo,oo,oo,oo,oo,oo,oo,oo,oo,oo,oo,oo,oo,oo,oo,oo,oo,oo,oo,oo,oo,oo,oo,oo,oo,oo,oo,oo,oo,oo,oo,oo,oo,oo,oo,oo,oo,oo,oo,oo,oo,oo,oo,oo,oo,oo,oo,oo,oo,oo,oo,oo,oo,oo,oo,oo,oo,oo,oo,oo,oo,oo,oo,oo,oo,oo,oo,oo,oo,oo,oo,oo,oo,oo,oo,oo,oo,oo,oo,oo,oo,oo,oo,oo,oo,oo,oo,oo,oo,oo,oo,oo,oo,oo,oo,oo,oo,oo,oo,oo,oo,oo,oo,oo,oo,oo,oo,oo,oo,oo,oo,oo,oo,oo,oo,oo,oo,oo,oo,oo,oo,oo,.row (.l 12),.p (int (q.length:Nat)),.p (int (i:Nat)),oo,oo,oo,oo,oo,oo,oo,oo,oo,oo,oo,oo,oo,oo,oo,oo,oo,oo,oo,oo,oo,oo,oo,oo,oo,oo]∧L=[(.b 0,.box ((stm l (k2+1)).map .p) T),(.l 12,.row (ddE q') tDd 12 true),(.l 137,.map kv 9 9)]) (q.length) [.adr (.b 0) 0,oo,oo,oo,oo,.row (.l 12),oo,oo,.mp (.l 137),oo,oo,oo,oo,oo,oo,oo,oo,oo,oo,oo,oo,oo,oo,oo,oo,oo,oo,oo,oo,oo,oo,oo,oo,oo,oo,oo,oo,oo,oo,oo,oo,oo,oo,oo,oo,oo,oo,oo,oo,oo,oo,oo,oo,oo,oo,oo,oo,oo,oo,oo,oo,oo,oo,oo,oo,oo,oo,oo,oo,oo,oo,oo,oo,oo,oo,oo,oo,oo,oo,oo,oo,oo,oo,oo,oo,oo,oo,oo,oo,oo,oo,oo,oo,oo,oo,oo,oo,oo,oo,oo,oo,oo,oo,oo,oo,oo,oo,oo,oo,oo,oo,oo,oo,oo,oo,oo,oo,oo,oo,oo,oo,oo,oo,oo,oo,oo,oo,oo,oo,oo,oo,oo,oo,oo,oo,oo,oo,oo,.row (.l 12),.p (int (q.length:Nat)),.p (int (0:Nat)),oo,oo,oo,oo,oo,oo,oo,oo,oo,oo,oo,oo,oo,oo,oo,oo,oo,oo,oo,oo,oo,oo,oo,oo,oo,oo] [(.b 0,.box ((stm l (k2+1)).map .p) T),(.l 12,.row (ddE q) tDd 12 true),(.l 137,.map ((List.nil:List (List UInt8×PV))) 9 9)] (by (simp only [ZZ,WW,Ze,reduceCtorEq,zd,ze,za,zf,zb];try trivial)) (by (simp only [ZZ,WW,Ze,reduceCtorEq,zd,ze,za,zf,zb];try trivial)) ⟨0,q,(List.nil:List (List UInt8×PV)),by omega,by omega,hqB,rfl,(fun s=>⟨[],rfl,by simp⟩),rfl,rfl⟩ ?_
  rintro n fr L ⟨i,q',kv,hi,rfl,hqB',hql',hkv,rfl,rfl⟩
  simp only [qaV,ZZ,WW,Ze,reduceCtorEq,zd,ze,za,zf,zb]
  refine br ?_ ?_
  ·intro h
   have hlt:i < q.length:=by have:=of_decide_eq_true h;omega
   obtain ⟨d,hd⟩:∃ d,q'[i]?=some d:=⟨_,zp (by omega)⟩
   have hg:=qa0 hd
   have dB:=hqB'.get hd
   obtain ⟨b,hb,hbl⟩:=hkv d.site
   have hi2:i < q'.length:=by omega
   have hSum:=qgA d dB b hbl
   have hS16:(sumF b d).length≤1000:=by show (digF _).length≤1000;rw [qnE];decide
   generalize sumF b d=S at *
   have hgs:(ddE (q'.set i { d with sum:=S })).getD i []=ddC { d with sum:=S }:=qa0 (by rw [List.getElem?_set_self hi2])
   simp only [ZZ,WW,Ze,reduceCtorEq,zd,ze,za,zf,zb,hg,qac,ddC,hb]
   refine ⟨⟨by omega,by omega⟩,hi2,?_⟩
   refine use1 hSum rfl (.inl rfl) ?_
   simp only [ZZ,WW,Ze,reduceCtorEq,zd,ze,za,zf,zb,hg,qac,ddC]
   refine ⟨⟨by omega,by omega⟩,hi2,?_⟩
   have hse:(ddE q').set i [.str d.site,int d.no,int d.tm,int d.kind,.str d.id,.str d.field,.str d.value,int d.frm,int d.upto,.str d.osite,int d.ono,.str (S)]=ddE (q'.set i { d with sum:=S }):=qdV q' i { d with sum:=S }
   rw [hse]
   refine drg0 ?_
   simp only [ZZ,WW,Ze,reduceCtorEq,zd,ze,za,zf,zb,hgs,qac,ddC]
   have hsl:(q'.set i { d with sum:=S }).length=q'.length:=by simp
   refine ⟨⟨by omega,by rw [hsl];omega⟩,by rw [hsl];omega,qat (by omega) (by omega),?_⟩
   have hq3B:DdsB (q'.set i { d with sum:=S }):=spB hqB' { dB with b6:=hS16 }
   have hq3l:(q'.set i { d with sum:=S }).length=q.length:=by rw [hsl];exact hql'
   have hk3:=spK (k:=d.site) hkv hS16
   clear hgs hse hsl hSum hg hb hd
   generalize q'.set i { d with sum:=S }=q3 at *
   generalize mpS kv d.site (.str (S))=kv3 at *
   refine qae (q.length - (i+1)) [.adr (.b 0) 0,oo,oo,oo,oo,.row (.l 12),oo,oo,.mp (.l 137),oo,oo,oo,oo,oo,oo,oo,oo,oo,oo,oo,oo,oo,oo,oo,oo,oo,oo,oo,oo,oo,oo,oo,oo,oo,oo,oo,oo,oo,oo,oo,oo,oo,oo,oo,oo,oo,oo,oo,oo,oo,oo,oo,oo,oo,oo,oo,oo,oo,oo,oo,oo,oo,oo,oo,oo,oo,oo,oo,oo,oo,oo,oo,oo,oo,oo,oo,oo,oo,oo,oo,oo,oo,oo,oo,oo,oo,oo,oo,oo,oo,oo,oo,oo,oo,oo,oo,oo,oo,oo,oo,oo,oo,oo,oo,oo,oo,oo,oo,oo,oo,oo,oo,oo,oo,oo,oo,oo,oo,oo,oo,oo,oo,oo,oo,oo,oo,oo,oo,oo,oo,oo,oo,oo,oo,oo,oo,oo,oo,.row (.l 12),.p (int (q.length:Nat)),.p (int ((i+1):Nat)),oo,oo,oo,oo,oo,oo,oo,oo,oo,oo,oo,oo,oo,oo,oo,oo,oo,oo,oo,oo,oo,oo,oo,oo,oo,oo] [(.b 0,.box ((stm l (k2+1)).map .p) T),(.l 12,.row (ddE (q3)) tDd 12 true),(.l 137,.map (kv3) 9 9)] (by omega) (by (simp only [ZZ,WW,Ze,reduceCtorEq,zd,ze,za,zf,zb];try trivial)) (by (simp only [ZZ,WW,Ze,reduceCtorEq,zd,ze,za,zf,zb];try trivial)) ⟨i+1,q3,kv3,by omega,rfl,hq3B,hq3l,hk3,rfl,rfl⟩
  ·intro h
   simp only [ZZ,WW,Ze,reduceCtorEq,zd,ze,za,zf,zb]
   exact qan [.adr (.b 0) 0,oo,oo,oo,oo,.row (.l 12),oo,oo,oo,oo,oo,oo,oo,oo,oo,oo,oo,oo,oo,oo,oo,oo,oo,oo,oo,oo,oo,oo,oo,oo,oo,oo,oo,oo,oo,oo,oo,oo,oo,oo,oo,oo,oo,oo,oo,oo,oo,oo,oo,oo,oo,oo,oo,oo,oo,oo,oo,oo,oo,oo,oo,oo,oo,oo,oo,oo,oo,oo,oo,oo,oo,oo,oo,oo,oo,oo,oo,oo,oo,oo,oo,oo,oo,oo,oo,oo,oo,oo,oo,oo,oo,oo,oo,oo,oo,oo,oo,oo,oo,oo,oo,oo,oo,oo,oo,oo,oo,oo,oo,oo,oo,oo,oo,oo,oo,oo,oo,oo,oo,oo,oo,oo,oo,oo,oo,oo,oo,oo,oo,oo,oo,oo,oo,oo,oo,oo,oo,oo,oo,oo,oo,oo,oo,oo,oo,oo,oo,oo,oo,oo,oo,oo,oo,oo,oo,oo,oo,oo,oo,oo,oo,oo,oo,oo,oo,oo,oo] [(.b 0,.box ((stm l (k2+1)).map .p) T),(.l 12,.row (ddE q') tDd 12 true)] (by (simp only [ZZ,WW,Ze,reduceCtorEq,zd,ze,za,zf,zb];try trivial)) zE_ ⟨q',_,hqB',by omega,by omega,rfl,rfl⟩
 ·intro _
  simp only [ZZ,WW,Ze,reduceCtorEq,zd,ze,za,zf,zb]
  exact qan [.adr (.b 0) 0,oo,oo,oo,oo,.row (.l 12),oo,oo,oo,oo,oo,oo,oo,oo,oo,oo,oo,oo,oo,oo,oo,oo,oo,oo,oo,oo,oo,oo,oo,oo,oo,oo,oo,oo,oo,oo,oo,oo,oo,oo,oo,oo,oo,oo,oo,oo,oo,oo,oo,oo,oo,oo,oo,oo,oo,oo,oo,oo,oo,oo,oo,oo,oo,oo,oo,oo,oo,oo,oo,oo,oo,oo,oo,oo,oo,oo,oo,oo,oo,oo,oo,oo,oo,oo,oo,oo,oo,oo,oo,oo,oo,oo,oo,oo,oo,oo,oo,oo,oo,oo,oo,oo,oo,oo,oo,oo,oo,oo,oo,oo,oo,oo,oo,oo,oo,oo,oo,oo,oo,oo,oo,oo,oo,oo,oo,oo,oo,oo,oo,oo,oo,oo,oo,oo,oo,oo,oo,oo,oo,oo,oo,oo,oo,oo,oo,oo,oo,oo,oo,oo,oo,oo,oo,oo,oo,oo,oo,oo,oo,oo,oo,oo,oo,oo,oo,oo,oo] [(.b 0,.box ((stm l (k2+1)).map .p) T),(.l 12,.row (ddE q) tDd 12 true)] (by (simp only [ZZ,WW,Ze,reduceCtorEq,zd,ze,za,zf,zb];try trivial)) zE_ ⟨q,_,hqB,hql,by omega,rfl,rfl⟩
 rintro fr L ⟨q2,k3,hq2B,hq2l,hk3,rfl,rfl⟩
 simp only [ZZ,WW,Ze,reduceCtorEq,zd,ze,za,zf,zb]
 exact qfI (stm l k3) rfl ⟨q2,k3,rfl,hq2B,hq2l,rfl,hk3⟩
end Go.Proofs.YtinffddgojhdfaaGreatDoor
