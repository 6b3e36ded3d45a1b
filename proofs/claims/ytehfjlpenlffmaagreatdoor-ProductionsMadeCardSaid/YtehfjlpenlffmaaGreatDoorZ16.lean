import Derived.Test.YtehfjlpenlffmaaGreatDoorZ14
import Derived.Test.YtehfjlpenlffmaaGreatDoorZ4
import Derived.Test.YtehfjlpenlffmaaGreatDoorLayBitsLen
import Derived.Test.YtehfjlpenlffmaaGreatDoorZ8
import Derived.Test.YtehfjlpenlffmaaGreatDoorLayCompare
import Derived.Test.YtehfjlpenlffmaaGreatDoorZ5
import Derived.Test.YtehfjlpenlffmaaGreatDoorZ9
import Derived.Test.YtehfjlpenlffmaaGreatDoorZ15
import Derived.Test.YtehfjlpenlffmaaGreatDoorZ7
import Derived.Test.YtehfjlpenlffmaaGreatDoorZ10
import Derived.Test.YtehfjlpenlffmaaGreatDoorLayTrim
import Derived.Test.YtehfjlpenlffmaaGreatDoorLayLastIndexByte
import Derived.Lib.LastIndexByte
import Derived.Test.YtehfjlpenlffmaaGreatDoorLayLastIndex
import Derived.Test.YtehfjlpenlffmaaGreatDoorZ11
import Derived.Test.YtehfjlpenlffmaaGreatDoorZ12
import Derived.Test.YtehfjlpenlffmaaGreatDoorZ13
set_option linter.unusedVariables false
set_option linter.unusedSimpArgs false
set_option linter.defProp false
namespace Go.Proofs.YtehfjlpenlffmaaGreatDoor
open Nat renaming le_refl→zM,le_trans→zT,reduceAdd→zd,reduceEqDiff→za,reduceLT→zf,reduceLeDiff→zb,reduceMul→ze,reduceSub→zu
open List renaming append_nil→yo,cons_append→zl,drop_eq_getElem_cons→yw,drop_eq_nil_of_le→zU,eq_nil_of_length_eq_zero→zA,getD→zD,getD_eq_getElem?_getD→yh,getElem?_drop→yg,getElem?_eq_getElem→zg,getElem?_eq_some_iff→zt,getElem?_of_mem→zR,length_append→zK,length_cons→zi,length_drop→z8,length_map→zB,length_nil→zo,length_take→zP,map_append→zO,map_cons→zk,map_nil→zr,mem_cons→zI,mem_filter→yj,mem_map→zN,mem_singleton→zF,nil_append→zm,range→zE,replicate_succ→zh,replicate_zero→zj,take_of_length_le→zC,take_succ_eq_append_getElem→zy
open Bool renaming and_eq_true→zq,eq_iff_iff→yq,or_eq_true→z6,true_and→ye
open Go.RowKit
def qaS:IC:=(.seq (.seq (.drg [qM 18 9,qM 19 1,qT 20 .gtr 18 19,qM 21 20,⟨some 22,.mov (.t 3),(some (21,true))⟩,⟨some 23,.mov (.t 0),(some (21,true))⟩,⟨some 24,.mov (.t 9),(some (21,true))⟩,⟨some 25,.ixa 2 (.t 23) (.t 24),(some (21,true))⟩,⟨some 26,.ld 2 true (.t 25),(some (21,true))⟩,⟨some 27,.mov (.t 0),(some (21,true))⟩,⟨some 28,.mov (.t 9),(some (21,true))⟩,⟨some 29,.bin .sub (.t 28) (cI 1),(some (21,true))⟩,⟨some 30,.ixa 2 (.t 27) (.t 29),(some (21,true))⟩,⟨some 31,.ld 2 true (.t 30),(some (21,true))⟩,⟨some 32,.callv (.t 22) [.t 26,.t 31],(some (21,true))⟩,⟨some 33,.bin .lss (.t 32) (cI 0),(some (21,true))⟩,qO 34 (.pick (.t 21) (.t 33) (.c (.bool false)))]) (.cond (.t 34) .skip (.exit 2))) (.seq (.block 3 (.drg [qM 37 0,qM 38 9,qM 39 0,qM 40 9,qB 41 .sub 40 (cI 1),qM 42 0,qM 43 9,qB 44 .sub 43 (cI 1),qX 45 2 42 44,qO 46 (.ld 2 true (.t 45)),qM 47 0,qM 48 9,qX 49 2 47 48,qO 50 (.ld 2 true (.t 49)),qX 51 2 37 38,qS 2 51 46,qX 52 2 39 41,qS 2 52 50])) (.reg [qM 35 9,qB 36 .sub 35 (cI 1),qM 9 36])))
def qaT:IC:=(.seq (sR [qM 12 8,qM 13 2,qT 14 .lss 12 13] (.cond (.t 14) .skip (.exit 0))) (.seq (.block 1 (sR [qM 17 8,qM 9 17] (.block 2 (.loop qaS)))) (.reg [qM 15 8,qB 16 .add 15 (cI 1),qM 8 16])))
def qa0:IC:=(sR [qM 10 1,qB 11 .add 10 (cI 1),qM 8 11] (.block 0 (.loop qaT)))
def qaY:List IRes:=[]
theorem qcW:chkF Tryz.prog Tryz.f228 qa0 qaY 53=true:=by kernel_rfl
def qbj:IC:=(.block 1 (sR [qM 21 2,qM 22 1,qT 23 .sub 21 22,qM 12 23] (.seq (sR [qM 24 12,qB 25 .leq 24 (cI 12)] (.cond (.t 25) (sR [qM 26 0,qM 27 1,qM 28 2,qM 29 4,qO 30 (.call 228 [.t 26,.t 27,.t 28,.t 29])] .ret) .skip)) (.seq (sR [qM 31 3,qB 32 .eql 31 (cI 0)] (.cond (.t 32) (sR [qM 33 0,qM 34 1,qM 35 2,qM 36 4,qO 37 (.call 229 [.t 33,.t 34,.t 35,.t 36])] .ret) .skip)) (.seq (sR [qM 38 10,qO 39 (.not (.t 38))] (.cond (.t 39) (sR [qM 40 0,qM 41 1,qM 42 2,qM 43 4,qO 44 (.call 230 [.t 40,.t 41,.t 42,.t 43])] (.reg [qM 45 3,qB 46 .sub 45 (cI 1),qM 3 46])) .skip)) (.cut (sR [qM 48 0,qM 49 1,qM 50 2,qM 51 4,qO 52 (.call 231 [.t 48,.t 49,.t 50,.t 51]),qM 47 52,qO 53 (.ext 0 (.t 47)),qO 54 (.ext 1 (.t 47)),qM 13 53,qM 14 54] (.seq (sR [qM 55 14,qB 56 .eql 55 (cI 2)] (.cond (.t 56) (sR [qM 57 0,qM 58 1,qM 59 2,qM 60 4,qO 61 (.call 232 [.t 57,.t 58,.t 59,.t 60])] (sR [qM 62 2,qB 63 .sub 62 (cI 1),qM 64 13,qM 65 1,qT 66 .sub 64 65,qT 67 .sub 63 66,qM 13 67] (.reg [qO 14 (.mov (cI 1))]))) .skip)) (.cut (.seq (sR [qM 68 10,qM 69 68,⟨some 70,.mov (.t 11),(some (69,true))⟩,qO 71 (.pick (.t 69) (.t 70) (.c (.bool false))),qM 72 71,⟨some 73,.mov (.t 14),(some (72,true))⟩,⟨some 74,.bin .eql (.t 73) (cI 1),(some (72,true))⟩,qO 75 (.pick (.t 72) (.t 74) (.c (.bool false)))] (.cond (.t 75) (sR [qM 76 0,qM 77 1,qM 78 2,qM 79 4,qO 80 (.call 233 [.t 76,.t 77,.t 78,.t 79])] (.cond (.t 80) .ret .skip)) .skip)) (.cut (.seq (.seq (.drg [qM 81 1,qB 82 .gtr 81 (cI 0),qM 83 82,⟨some 84,.mov (.t 4),(some (83,true))⟩,⟨some 85,.mov (.t 0),(some (83,true))⟩,⟨some 86,.mov (.t 1),(some (83,true))⟩,⟨some 87,.bin .sub (.t 86) (cI 1),(some (83,true))⟩,⟨some 88,.ixa 2 (.t 85) (.t 87),(some (83,true))⟩,⟨some 89,.ld 2 true (.t 88),(some (83,true))⟩,⟨some 90,.mov (.t 0),(some (83,true))⟩,⟨some 91,.mov (.t 13),(some (83,true))⟩,⟨some 92,.ixa 2 (.t 90) (.t 91),(some (83,true))⟩,⟨some 93,.ld 2 true (.t 92),(some (83,true))⟩,⟨some 94,.callv (.t 84) [.t 89,.t 93],(some (83,true))⟩,⟨some 95,.bin .lss (.t 94) (cI 0),(some (83,true))⟩,⟨some 96,.not (.t 95),(some (83,true))⟩,qO 97 (.pick (.t 83) (.t 96) (.c (.bool false)))]) (.cond (.t 97) (sR [qM 98 0,qM 99 1,qM 100 2,qM 101 13,qM 102 4,qO 103 (.call 234 [.t 98,.t 99,.t 100,.t 101,.t 102]),qM 15 103] (sR [qM 104 15,qM 1 104] (.exit 1))) .skip)) (sR [qM 106 0,qM 107 1,qM 108 2,qM 109 13,qM 110 4,qO 111 (.call 235 [.t 106,.t 107,.t 108,.t 109,.t 110]),qM 105 111,qO 112 (.ext 0 (.t 105)),qO 113 (.ext 1 (.t 105)),qM 16 112,qM 17 113] (sR [qM 114 17,qM 11 114] (sR [qM 115 16,qM 116 1,qT 117 .sub 115 116,qM 118 2,qM 119 16,qT 120 .sub 118 119,qM 18 117,qM 19 120] (sR [qM 121 12,qB 122 .quo 121 (cI 8),qM 20 122] (sR [qM 123 18,qM 124 19,qT 125 .lss 123 124] (.cond (.t 125) (sR [qM 126 18,qM 127 20,qT 128 .geq 126 127,qM 10 128] (sR [qM 129 0,qM 130 1,qM 131 16,qM 132 3,qM 133 4,qO 134 (.call 170 [.t 129,.t 130,.t 131,.t 132,.t 133])] (.reg [qM 135 16,qB 136 .add 135 (cI 1),qM 1 136]))) (sR [qM 137 19,qM 138 20,qT 139 .geq 137 138,qM 10 139] (sR [qM 140 0,qM 141 16,qB 142 .add 141 (cI 1),qM 143 2,qM 144 3,qM 145 4,qO 146 (.call 170 [.t 140,.t 142,.t 143,.t 144,.t 145])] (.reg [qM 147 16,qM 2 147])))))))))))))))))))))
def qbH:IC:=(sR [qO 10 (.mov (.c (.bool true)))] (sR [qO 11 (.mov (.c (.bool true)))] (.block 0 (.loop qbj))))
def qbD:List IRes:=[]
theorem qek:chkF Tryz.prog Tryz.f170 qbH qbD 148=true:=by kernel_rfl
def qa7:IC:=(sR [qM 5 0,qN 6 5,qM 4 6] (.reg [qM 7 0,qM 8 4,qM 9 4,qO 10 (.cvi .u64 (.t 9)),qO 11 (.call 171 [.t 10]),qM 12 1,qO 13 (.call 170 [.t 7,.c (.int .i64 0),.t 8,.t 11,.t 12])]))
def qa5:List IRes:=[]
theorem qdb:chkF Tryz.prog Tryz.f87 qa7 qa5 14=true:=by kernel_rfl
abbrev qoR:Nat:=119
theorem qoq:∀ (ps:List PV) (L:Objs),Zk L (ps.map .p)=true
 |[],_=>rfl
 |_ :: r,L=>qoq r L
section
variable {E:Envt}
theorem qqp (x:Int) (h0:0≤x) (h1:x≤18446744073709551615):PCall Tryz.prog E 171 [.int .u64 x] (·=int (Lib.bitLen x.toNat:Nat)):=
 qbA rfl rfl fun w _=>(Any.bits_Len Tryz.layBitsLen x w h0 h1).mono fun e w' h=>⟨h.1,by rw [h.2];exact Grow.refl _ _⟩
theorem qp3 {α:Type} (f0:α→List UInt8) (f1:α→List (List PV)) (cf:α→α→Int) (hO:OrdP (ltC cf)) (g:FuncId) (ps:List PV) (hg:Unit→fnB Tryz.prog g=true) (l:List α) (hl:l.length≤12) (hc:∀ x∈l,∀ y∈l,PCall Tryz.prog E g (.agg [.str (f0 x),.sl 1 (f1 x)] :: .agg [.str (f0 y),.sl 1 (f1 y)] :: ps) (·=int (cf x y)))
  (hn:∀ x y,Zbg [] (.p (.agg [.str (f0 x),.sl 1 (f1 x)]) :: .p (.agg [.str (f0 y),.sl 1 (f1 y)]) :: ps.map .p)=some (.agg [.str (f0 x),.sl 1 (f1 x)] :: .agg [.str (f0 y),.sl 1 (f1 y)] :: ps)) (hr:∀ x y,Zbi (.p (.agg [.str (f0 x),.sl 1 (f1 x)]) :: .p (.agg [.str (f0 y),.sl 1 (f1 y)]) :: ps.map .p)=true):RCall Tryz.prog E 228 qoR 2 (l.map (fun x=>([.str (f0 x),.sl 1 (f1 x)]:List PV))) [int 0,int (l.length:Nat),.clo g ps] (fun x es'=>x=.tup []∧∃ l':List α,es'=l'.map (fun x=>([.str (f0 x),.sl 1 (f1 x)]:List PV))∧l'.Perm l∧SrtP (ltC cf) l'):=by
 unfold RCall
 refine qge mixed Tryz.func228 qcW ?_
 simp only [a0,l0,OS.ao,zk,zr,zi,zo,zl,zm,zu,zd,zh,zj,zB,qa0,qaY,ZZ,WW,Zd,reduceCtorEq,zd,ze,zb,zf,za]
 ((with_reducible and_intros)<;>try exact sc_)
 rw [show l.map (fun x=>([.str (f0 x),.sl 1 (f1 x)]:List PV))=(l.take 1++l.drop 1).map (fun x=>([.str (f0 x),.sl 1 (f1 x)]:List PV)) from by rw [List.take_append_drop]]
 refine qad (fun n fr L=>∃ (i:Nat) (P:List α) (C:List α),l.length - i=n∧(1≤i)∧(P.length=i∨l.length=0)∧((P++C).Perm l)∧(SrtP (ltC cf) P)∧fr=(.row (.b 0)::.p (int 0)::.p (int (l.length:Nat))::.p (.clo g ps)::oo::oo::oo::oo::.p (int (i:Nat))::oF (oD (oC [])))∧L=[(.b 0,.row ((P++C).map (fun x=>([.str (f0 x),.sl 1 (f1 x)]:List PV))) qoR 2 true)]) (l.length - 1) _ _ (by (simp only [ZZ,WW,Zd,reduceCtorEq,zd,ze,zb,zf,za];try trivial)) (by (simp only [ZZ,WW,Zd,reduceCtorEq,zd,ze,zb,zf,za];try trivial)) ⟨1,l.take 1,l.drop 1,rfl,by omega,by rw [zP];omega,by rw [List.take_append_drop],by cases l with|nil=>exact List.Pairwise.nil|cons x r=>simp [SrtP],rfl,rfl⟩ ?_
 rintro n fr L ⟨i,P,C,rfl,hi,hP,hp,hs,rfl,rfl⟩
 simp only [qaT,ZZ,WW,Zd,reduceCtorEq,zd,ze,zb,zf,za]
 have hpl:P.length+C.length=l.length:=by rw [← zK,hp.length_eq]
 refine br ?_ ?_
 rotate_left
 ·intro h
  have hge:l.length≤i:=by have:=of_decide_eq_false h;omega
  have hC:C=[]:=zA (by omega)
  subst hC
  rw [yo] at hp ⊢
  refine zS ?_
  exact qjK _ rfl ⟨rfl,P,rfl,hp,hs⟩
 intro h
 have hlt:i < l.length:=by have:=of_decide_eq_true h;omega
 have hP:P.length=i:=by omega
 obtain ⟨x,R,rfl⟩:∃ x R,C=x :: R:=by
  cases C with
  |nil=>simp at hpl;omega
  |cons x R=>exact ⟨x,R,rfl⟩
 have hxl:x∈l:=hp.mem_iff.1 (by simp)
 refine zS ?_
 refine qad (fun n fr L=>∃ (j:Nat) (A:List α) (B:List α),j=n∧(A.length=j)∧(j+B.length=i)∧(SrtP (ltC cf) (A++B))∧(∀ b∈B,ltC cf x b=true)∧((A++x :: (B++R)).Perm l)∧fr=(.row (.b 0)::.p (int 0)::.p (int (l.length:Nat))::.p (.clo g ps)::oo::oo::oo::oo::.p (int (i:Nat))::.p (int (j:Nat))::oF (oD (oB (oo::[]))))∧L=[(.b 0,.row ((A++x :: (B++R)).map (fun x=>([.str (f0 x),.sl 1 (f1 x)]:List PV))) qoR 2 true)]) (i) _ _ (by (simp only [ZZ,WW,Zd,reduceCtorEq,zd,ze,zb,zf,za];try trivial)) (by (simp only [ZZ,WW,Zd,reduceCtorEq,zd,ze,zb,zf,za];try trivial)) ⟨i,P,[],rfl,hP,by simp,by rw [yo];exact hs,(fun b hb=>by cases hb),hp,rfl,rfl⟩ ?_
 rintro n fr L ⟨j,A,B,rfl,hj,hji,hsb,hb,hpb,rfl,rfl⟩
 simp only [qaS,ZZ,WW,Zd,reduceCtorEq,zd,ze,zb,zf,za]
 have hWl:((A++x :: (B++R)).map (fun x=>([.str (f0 x),.sl 1 (f1 x)]:List PV))).length=l.length:=by rw [zB,hpb.length_eq]
 rcases List.eq_nil_or_concat A with rfl|⟨A',y,hAy⟩
 ·simp only [zo] at hj
  subst hj
  generalize hW:(([]:List α)++x :: (B++R)).map (fun x=>([.str (f0 x),.sl 1 (f1 x)]:List PV))=W at *
  refine drg0 ?_
  have z00:decide ((0:Int) < ((0:Nat):Int))=false:=rfl
  simp only [ZZ,WW,Zd,reduceCtorEq,zd,ze,zb,zf,za,hWl,z00,Bool.false_eq_true,false_implies,hg ()]
  refine ⟨qoq _ _,qsb (fun h=>by cases h) (fun _=>?_)⟩
  refine zS ?_
  ((with_reducible and_intros)<;>try exact sc_)
  rw [← hW]
  have hfin:SrtP (ltC cf) (([]:List α)++x :: B):=qnF hO hsb hb (.inl rfl)
  refine qac (l.length - (i+1)) _ _ (by omega) (by (simp only [ZZ,WW,Zd,reduceCtorEq,zd,ze,zb,zf,za];try trivial)) (by (simp only [ZZ,WW,Zd,reduceCtorEq,zd,ze,zb,zf,za];try trivial)) ⟨i+1,x :: B,R,rfl,by omega,.inl (by simp;omega),by simpa using hpb,hfin,rfl,rfl⟩
 ·obtain rfl:A=A'++[y]:=by rw [hAy];simp
  obtain ⟨q,rfl⟩:∃ q,j=q+1:=⟨A'.length,by rw [← hj];simp⟩
  have hq:A'.length=q:=by simpa using hj
  have hrow:(A'++[y])++x :: (B++R)=A'++y :: x :: (B++R):=by simp
  have hyl:y∈l:=hpb.mem_iff.1 (by simp)
  have e1:(((q+1:Nat):Int) - 1)=(q:Nat):=by omega
  have z0:decide ((0:Int) < ((q+1:Nat):Int))=true:=by rw [decide_eq_true_eq];omega
  rw [hrow] at hWl hpb ⊢
  obtain ⟨g1,g0⟩:=qtk (fun x=>([.str (f0 x),.sl 1 (f1 x)]:List PV)) A' (B++R) x y []
  have s1:=qtj (fun x=>([.str (f0 x),.sl 1 (f1 x)]:List PV)) A' (B++R) x y
  rw [hq] at g1 g0 s1
  try simp only at g1 g0 s1
  generalize hW:(A'++y :: x :: (B++R)).map (fun x=>([.str (f0 x),.sl 1 (f1 x)]:List PV))=W at *
  refine drg0 ?_
  simp only [ZZ,WW,Zd,reduceCtorEq,zd,ze,zb,zf,za,hWl,e1,z0,g1,g0,hg ()]
  refine ⟨⟨by omega,by omega⟩,by omega,qan (by omega) (by omega),⟨by omega,by omega⟩,by omega,qoq _ _,?_⟩
  refine useG (fun _=>hc x hxl y hyl) ((qmp (hr x y) (L':=[])).trans (hn x y)) (.inl (hr x y)) ?_
  refine zS ?_
  refine br ?_ ?_
  ·intro hlt2
   have hxy:ltC cf x y=true:=hlt2
   obtain ⟨n1,n2⟩:=qtO hsb hb hxy
   refine drg0 ?_
   have g2:(W.set (q+1) [.str (f0 y),.sl 1 (f1 y)]).getD q []=[.str (f0 y),.sl 1 (f1 y)]:=by
    rw [zD,List.getElem?_set_ne (by omega)]
    exact g0
   simp only [ZZ,WW,Zd,reduceCtorEq,zd,ze,zb,zf,za,hWl,e1,g1,g0,g2,s1,List.length_set,qpk]
   ((with_reducible and_intros)<;>try exact sc_)
   refine qac ((q)) _ _ (by omega) (by (simp only [ZZ,WW,Zd,reduceCtorEq,zd,ze,zb,zf,za];try trivial)) (by (simp only [ZZ,WW,Zd,reduceCtorEq,zd,ze,zb,zf,za];try trivial)) ⟨q,A',y :: B,rfl,hq,by simp;omega,n1,n2,by simpa using (List.Perm.append_left A' (List.Perm.swap y x (B++R))).trans hpb,rfl,rfl⟩
  ·intro hlt2
   have hxy:ltC cf x y=false:=hlt2
   refine zS ?_
   ((with_reducible and_intros)<;>try exact sc_)
   rw [← hW]
   have hfin:SrtP (ltC cf) ((A'++[y])++x :: B):=qnF hO hsb hb (.inr ⟨A',y,rfl,hxy⟩)
   have hrow2:A'++y :: x :: (B++R)=((A'++[y])++x :: B)++R:=by simp
   rw [hrow2] at hpb ⊢
   refine qac (l.length - (i+1)) _ _ (by omega) (by (simp only [ZZ,WW,Zd,reduceCtorEq,zd,ze,zb,zf,za];try trivial)) (by (simp only [ZZ,WW,Zd,reduceCtorEq,zd,ze,zb,zf,za];try trivial)) ⟨i+1,(A'++[y])++x :: B,R,rfl,by omega,.inl (by simp;omega),hpb,hfin,rfl,rfl⟩
theorem qvD {α:Type} (f0:α→List UInt8) (f1:α→List (List PV)) (cf:α→α→Int) (hO:OrdP (ltC cf)) (g:FuncId) (ps:List PV) (hg:Unit→fnB Tryz.prog g=true) (l:List α) (hl:l.length≤12) (hc:∀ x∈l,∀ y∈l,PCall Tryz.prog E g (.agg [.str (f0 x),.sl 1 (f1 x)] :: .agg [.str (f0 y),.sl 1 (f1 y)] :: ps) (·=int (cf x y)))
  (hn:∀ x y,Zbg [] (.p (.agg [.str (f0 x),.sl 1 (f1 x)]) :: .p (.agg [.str (f0 y),.sl 1 (f1 y)]) :: ps.map .p)=some (.agg [.str (f0 x),.sl 1 (f1 x)] :: .agg [.str (f0 y),.sl 1 (f1 y)] :: ps)) (hr:∀ x y,Zbi (.p (.agg [.str (f0 x),.sl 1 (f1 x)]) :: .p (.agg [.str (f0 y),.sl 1 (f1 y)]) :: ps.map .p)=true) (lim:Nat):RCall Tryz.prog E 170 qoR 2 (l.map (fun x=>([.str (f0 x),.sl 1 (f1 x)]:List PV))) [int 0,int (l.length:Nat),int (lim:Nat),.clo g ps] (fun x es'=>x=.tup []∧∃ l':List α,es'=l'.map (fun x=>([.str (f0 x),.sl 1 (f1 x)]:List PV))∧l'.Perm l∧SrtP (ltC cf) l'):=by
 unfold RCall
 refine qge mixed Tryz.func170 qek ?_
 simp only [a0,l0,OS.ao,zk,zr,zi,zo,zl,zm,zu,zd,zh,zj,zB,qbH,qbD,ZZ,WW,Zd,reduceCtorEq,zd,ze,zb,zf,za]
 refine qad (fun n fr L=>(0:Nat)=n∧fr=(.row (.b 0)::.p (int 0)::.p (int (l.length:Nat))::.p (int (lim:Nat))::.p (.clo g ps)::oC (oo::(.p (.bool true)::.p (.bool true)::oG (oG (oD [])))))∧L=[(.b 0,.row (l.map (fun x=>([.str (f0 x),.sl 1 (f1 x)]:List PV))) qoR 2 true)]) ((0:Nat)) _ _ (by (simp only [ZZ,WW,Zd,reduceCtorEq,zd,ze,zb,zf,za];try trivial)) (by (simp only [ZZ,WW,Zd,reduceCtorEq,zd,ze,zb,zf,za];try trivial)) ⟨rfl,rfl,rfl⟩ ?_
 rintro n fr L ⟨rfl,rfl,rfl⟩
 simp only [qbj,ZZ,WW,Zd,reduceCtorEq,zd,ze,zb,zf,za]
 have h12:decide ((l.length:Int)≤12)=true:=by rw [decide_eq_true_eq];omega
 simp only [ZZ,WW,Zd,reduceCtorEq,zd,ze,zb,zf,za,h12,Int.sub_zero]
 refine ⟨qan (by omega) (by omega),?_⟩
 refine useR (qp3 f0 f1 cf hO g ps hg l hl hc hn hr) rfl rfl rfl zE_ ?_
 rintro x es ⟨rfl,l',rfl,hp,hs⟩
 refine zS ?_
 exact qjK _ rfl ⟨rfl,l',rfl,hp,hs⟩
theorem qow {α:Type} (f0:α→List UInt8) (f1:α→List (List PV)) (cf:α→α→Int) (hO:OrdP (ltC cf)) (g:FuncId) (ps:List PV) (hg:Unit→fnB Tryz.prog g=true) (l:List α) (hl:l.length≤12) (hc:∀ x∈l,∀ y∈l,PCall Tryz.prog E g (.agg [.str (f0 x),.sl 1 (f1 x)] :: .agg [.str (f0 y),.sl 1 (f1 y)] :: ps) (·=int (cf x y)))
  (hn:∀ x y,Zbg [] (.p (.agg [.str (f0 x),.sl 1 (f1 x)]) :: .p (.agg [.str (f0 y),.sl 1 (f1 y)]) :: ps.map .p)=some (.agg [.str (f0 x),.sl 1 (f1 x)] :: .agg [.str (f0 y),.sl 1 (f1 y)] :: ps)) (hr:∀ x y,Zbi (.p (.agg [.str (f0 x),.sl 1 (f1 x)]) :: .p (.agg [.str (f0 y),.sl 1 (f1 y)]) :: ps.map .p)=true):RCall Tryz.prog E 87 qoR 2 (l.map (fun x=>([.str (f0 x),.sl 1 (f1 x)]:List PV))) [.clo g ps] (fun x es'=>x=.tup []∧∃ l':List α,es'=l'.map (fun x=>([.str (f0 x),.sl 1 (f1 x)]:List PV))∧l'.Perm l∧SrtP (ltC cf) l'):=by
 have wr:IntKind.u64.wrap (l.length:Int)=l.length:=by simp [IntKind.wrap,IntKind.bits,IntKind.signed];omega
 unfold RCall
 refine qge mixed Tryz.func87 qdb ?_
 simp only [a0,l0,OS.ao,zk,zr,zi,zo,zl,zm,zu,zd,zh,zj,zB,qa7,qa5,ZZ,WW,Zd,reduceCtorEq,zd,ze,zb,zf,za]
 rw [wr]
 refine use1 (qqp (l.length:Nat) (by omega) (by omega)) rfl (.inl rfl) ?_
 generalize Lib.bitLen _=lim
 refine zS ?_
 refine useR (qvD f0 f1 cf hO g ps hg l hl hc hn hr lim) rfl rfl rfl zE_ ?_
 rintro x es ⟨rfl,l',rfl,hp,hs⟩
 refine zS ?_
 exact qjK _ rfl ⟨rfl,l',rfl,hp,hs⟩
end
def qht:IC:=(sR [qO 2 (.mov (.c (.bool false)))] (sR [qM 3 0,qM 4 0,qT 5 .neq 3 4,qM 2 5] .ret))
def qha:List IRes:=[.t 2]
theorem qln:chkF Tryz.prog Tryz.f284 qht qha 6=true:=by kernel_rfl
def qjE:IC:=(sR [qO 2 (.mov (.c (.bool false)))] (sR [qM 3 0,qM 4 0,qT 5 .neq 3 4,qM 2 5] .ret))
def qjy:List IRes:=[.t 2]
theorem qnr:chkF Tryz.prog Tryz.f173 qjE qjy 6=true:=by kernel_rfl
def qf5:IC:=(sR [qO 4 (.mov (cI 0))] (sR [qM 7 0,qO 8 (.call 284 [.t 7]),qM 5 8] (sR [qM 9 1,qO 10 (.call 284 [.t 9]),qM 6 10] (.seq (sR [qM 11 5] (.cond (.t 11) (.seq (sR [qM 12 6] (.cond (.t 12) (sR [qO 4 (.mov (cI 0))] .ret) .skip)) (sR [qO 4 (.mov (cI (-1)))] .ret)) .skip)) (.seq (sR [qM 13 6] (.cond (.t 13) (sR [qO 4 (.mov (cI 1))] .ret) .skip)) (.seq (sR [qM 14 0,qM 15 1,qT 16 .lss 14 15] (.cond (.t 16) (sR [qO 4 (.mov (cI (-1)))] .ret) .skip)) (.seq (sR [qM 17 0,qM 18 1,qT 19 .gtr 17 18] (.cond (.t 19) (sR [qO 4 (.mov (cI 1))] .ret) .skip)) (sR [qO 4 (.mov (cI 0))] .ret))))))))
def qfP:List IRes:=[.t 4]
theorem qkm:chkF Tryz.prog Tryz.f227 qf5 qfP 20=true:=by kernel_rfl
def qig:IC:=(sR [qO 4 (.mov (cI 0))] (sR [qM 7 0,qO 8 (.call 173 [.t 7]),qM 5 8] (sR [qM 9 1,qO 10 (.call 173 [.t 9]),qM 6 10] (.seq (sR [qM 11 5] (.cond (.t 11) (.seq (sR [qM 12 6] (.cond (.t 12) (sR [qO 4 (.mov (cI 0))] .ret) .skip)) (sR [qO 4 (.mov (cI (-1)))] .ret)) .skip)) (.seq (sR [qM 13 6] (.cond (.t 13) (sR [qO 4 (.mov (cI 1))] .ret) .skip)) (.seq (sR [qM 14 0,qM 15 1,qT 16 .lss 14 15] (.cond (.t 16) (sR [qO 4 (.mov (cI (-1)))] .ret) .skip)) (.seq (sR [qM 17 0,qM 18 1,qT 19 .gtr 17 18] (.cond (.t 19) (sR [qO 4 (.mov (cI 1))] .ret) .skip)) (sR [qO 4 (.mov (cI 0))] .ret))))))))
def qhR:List IRes:=[.t 4]
theorem qme:chkF Tryz.prog Tryz.f90 qig qhR 20=true:=by kernel_rfl
def qjF:IC:=(sR [qT 9 .lss 8 7] (.seq (.cond (.t 9) .skip (.exit 0)) (.seq (.block 1 (sR [qX 10 1 6 8,qL 11 10,qM 5 11] (sR [qM 12 5,qM 13 3,qT 14 .neq 12 13] (.cond (.t 14) (sR [qM 15 5,qM 2 15] .ret) .skip)))) (.reg [qB 16 .add 8 (cI 1),qM 8 16]))))
def qlW:IC:=(sR [qO 2 (.mov (cI 0))] (sR [qO 3 (.mov (cI 0))] (.seq (sR [qM 6 0,qN 7 6,qO 8 (.mov (cI 0))] (.block 0 (.loop qjF))) (sR [qM 17 3,qM 2 17] .ret))))
def qlI:List IRes:=[.t 2]
theorem qqc:chkF Tryz.prog Tryz.f91 qlW qlI 18=true:=by kernel_rfl
def qbQ:IC:=(sR [qT 12 .lss 11 10] (.seq (.cond (.t 12) .skip (.exit 0)) (.seq (.block 1 (sR [qM 13 11,qX 14 1 9 11,qL 15 14,qM 5 13,qM 6 15] (.seq (sR [qM 16 5,qM 17 1,qN 18 17,qT 19 .geq 16 18] (.cond (.t 19) (sR [qO 4 (.mov (cI 1))] .ret) .skip)) (sR [qM 20 1,qM 21 5,qX 22 1 20 21,qL 23 22,qM 7 23] (sR [qM 24 6,qM 25 7,qO 26 (.call 227 [.t 24,.t 25]),qM 8 26] (sR [qM 27 8,qB 28 .neq 27 (cI 0)] (.cond (.t 28) (sR [qM 29 8,qM 4 29] .ret) .skip))))))) (.reg [qB 30 .add 11 (cI 1),qM 11 30]))))
def qcs:IC:=(sR [qO 4 (.mov (cI 0))] (.seq (sR [qM 9 0,qN 10 9,qO 11 (.mov (cI 0))] (.block 0 (.loop qbQ))) (.seq (sR [qM 31 0,qN 32 31,qM 33 1,qN 34 33,qT 35 .lss 32 34] (.cond (.t 35) (sR [qO 4 (.mov (cI (-1)))] .ret) .skip)) (sR [qO 4 (.mov (cI 0))] .ret))))
def qcl:List IRes:=[.t 4]
theorem qfD:chkF Tryz.prog Tryz.f168 qcs qcl 36=true:=by kernel_rfl
theorem qsS:∀ a b:List UInt8,Lib.compareBytes a b=if bytesLess a b=true then -1 else if (!(bytesLess a b || decide (a=b)))=true then 1 else 0
 |[],[]=>by decide
 |[],b :: s=>by simp [Lib.compareBytes,bytesLess,Op.bytesLess]
 |a :: r,[]=>by simp [Lib.compareBytes,bytesLess,Op.bytesLess]
 |a :: r,b :: s=>by
  have ih:=qsS r s
  have e:bytesLess (a :: r) (b :: s)=(decide (a < b) || (a == b && bytesLess r s)):=by simp [bytesLess,Op.bytesLess]
  simp only [Lib.compareBytes]
  rw [e]
  by_cases h1:a < b
  ·rw [if_pos h1,decide_eq_true h1]
   rfl
  ·rw [if_neg h1,decide_eq_false h1,Bool.false_or]
   by_cases h2:a=b
   ·subst h2
    rw [if_neg h1,ih]
    simp
   ·have h3:b < a:=by
     rw [UInt8.lt_iff_toNat_lt] at *
     have:a.toNat≠b.toNat:=fun e=>h2 (UInt8.toNat_inj.1 e)
     omega
    have h4:(a == b)=false:=by simpa using h2
    rw [if_pos h3,h4]
    simp [h2]
def sgnC (a b:Int):Int:=if a < b then -1 else if b < a then 1 else 0
section
variable {E:Envt}
theorem qrl (s:List UInt8):PCall Tryz.prog E 284 [.str s] (·=.bool false):=by
 refine qae mixed Tryz.func284 qln ?_
 simp only [a0,l0,OS.ao,zk,zr,zi,zo,zl,zm,zu,zd,zh,zj,qht,qha,ZZ,WW,Zd,reduceCtorEq,zd,ze,zb,zf,za]
 simp
theorem qrm (n:Int):PCall Tryz.prog E 173 [int n] (·=.bool false):=by
 refine qae mixed Tryz.func173 qnr ?_
 simp only [a0,l0,OS.ao,zk,zr,zi,zo,zl,zm,zu,zd,zh,zj,qjE,qjy,ZZ,WW,Zd,reduceCtorEq,zd,ze,zb,zf,za]
 simp
theorem qs7 (a b:List UInt8):PCall Tryz.prog E 227 [.str a,.str b] (·=int (Lib.compareBytes a b)):=by
 refine qae mixed Tryz.func227 qkm ?_
 simp only [a0,l0,OS.ao,zk,zr,zi,zo,zl,zm,zu,zd,zh,zj,qf5,qfP,ZZ,WW,Zd,reduceCtorEq,zd,ze,zb,zf,za]
 refine use1 (qrl a) rfl (.inl rfl) ?_
 refine zS ?_
 refine use1 (qrl b) rfl (.inl rfl) ?_
 refine zS ?_
 rw [qsS]
 refine br ?_ ?_
 ·intro h
  refine zS ?_
  rw [if_pos h]
 intro h
 refine zS ?_
 refine br ?_ ?_
 ·intro h2
  refine zS ?_
  rw [if_neg (by rw [h];decide),if_pos h2]
 intro h2
 refine zS ?_
 rw [if_neg (by rw [h];decide),if_neg (by rw [h2];decide)]
theorem qlw (a b:Int):PCall Tryz.prog E 90 [int a,int b] (·=int (sgnC a b)):=by
 refine qae mixed Tryz.func90 qme ?_
 simp only [a0,l0,OS.ao,zk,zr,zi,zo,zl,zm,zu,zd,zh,zj,qig,qhR,ZZ,WW,Zd,reduceCtorEq,zd,ze,zb,zf,za]
 refine use1 (qrm a) rfl (.inl rfl) ?_
 refine zS ?_
 refine use1 (qrm b) rfl (.inl rfl) ?_
 refine zS ?_
 unfold sgnC
 refine br ?_ ?_
 ·intro h
  refine zS ?_
  rw [if_pos (of_decide_eq_true h)]
 intro h
 refine zS ?_
 refine br ?_ ?_
 ·intro h2
  refine zS ?_
  rw [if_neg (of_decide_eq_false h),if_pos (of_decide_eq_true h2)]
 intro h2
 refine zS ?_
 rw [if_neg (of_decide_eq_false h),if_neg (of_decide_eq_false h2)]
theorem qph (l:List Int) (hl:l.length≤1000000):PCall Tryz.prog E 91 [ints l] (·=int (qaf l)):=by
 refine qae mixed Tryz.func91 qqc ?_
 simp only [a0,l0,OS.ao,zk,zr,zi,zo,zl,zm,zu,zd,zh,zj,qlW,qlI,ZZ,WW,Zd,reduceCtorEq,zd,ze,zb,zf,za]
 simp only [ints,ZZ,WW,Zd,reduceCtorEq,zd,ze,zb,zf,za]
 generalize hes:l.map (fun x=>[PV.int IntKind.i64 x])=es
 have hln:es.length=l.length:=by rw [← hes];simp
 refine qad (fun n fr L=>∃ (k:Nat),k≤l.length∧n=l.length - k∧(qaf l=qaf (l.drop k))∧fr=(.p (.sl 1 es)::oo::.p (int 0)::.p (int 0)::oo::oo::.p (.sl 1 es)::.p (int (es.length:Nat))::.p (int (k:Nat))::oD (oo::[]))∧L=[]) (l.length) _ [] zF_ (by (simp only [ZZ,WW,Zd,reduceCtorEq,zd,ze,zb,zf,za];try trivial)) ⟨0,by omega,by omega,rfl,rfl,rfl⟩ ?_
 rintro n fr L ⟨k,hk,rfl,hF,rfl,rfl⟩
 simp only [qjF,ZZ,WW,Zd,reduceCtorEq,zd,ze,zb,zf,za]
 refine br ?_ ?_
 ·intro h
  have hlt:k < l.length:=by have:=of_decide_eq_true h;omega
  obtain ⟨x,hx⟩:∃ x,l[k]?=some x:=⟨_,zg hlt⟩
  have hg:es.getD k []=[.int .i64 x]:=by rw [← hes];exact qas hx
  have hd:=qa3 l k x hx
  simp only [ZZ,WW,Zd,reduceCtorEq,zd,ze,zb,zf,za,hg]
  ((with_reducible and_intros)<;>try exact sc_)
  refine br ?_ ?_
  ·intro h2
   have h3:¬ x=0:=by simpa using h2
   refine zS ?_
   rw [hF,hd,if_neg h3]
  ·intro h2
   have h3:x=0:=by simpa using h2
   rw [if_pos h3] at hd
   refine zS ?_
   ((with_reducible and_intros)<;>try exact sc_)
   refine qac (l.length - (k+1)) _ [] (by omega) (by (simp only [ZZ,WW,Zd,reduceCtorEq,zd,ze,zb,zf,za];try trivial)) (by (simp only [ZZ,WW,Zd,reduceCtorEq,zd,ze,zb,zf,za];try trivial)) ⟨k+1,by omega,rfl,by rw [hF,hd],rfl,rfl⟩
 ·intro h
  have hge:l.length≤k:=by have:=of_decide_eq_false h;omega
  refine zS ?_
  rw [hF,zU (by omega)]
  rfl
theorem qa9 (s t:List UInt8):PCall Tryz.prog E 89 [.str s,.str t] (·=int (Lib.compareBytes s t)):=
 qbA rfl rfl fun w _=>(Any.strings_Compare Tryz.layCompare ⟨s.toArray⟩ ⟨t.toArray⟩ w).mono fun e w' h=>⟨h.1,by rw [h.2];exact Grow.refl _ _⟩
def lexC:List (List UInt8)→List (List UInt8)→Int
 |[],[]=>0
 |[],_ :: _=>-1
 |_ :: _,[]=>1
 |a :: r,b :: s=>if Lib.compareBytes a b=0 then lexC r s else Lib.compareBytes a b
theorem qrR (u v:List (List UInt8)) (hu:u.length≤1000000) (hv:v.length≤1000000):PCall Tryz.prog E 168 [.sl 1 (strE u),.sl 1 (strE v)] (·=int (lexC u v)):=by
 refine qae mixed Tryz.func168 qfD ?_
 simp only [a0,l0,OS.ao,zk,zr,zi,zo,zl,zm,zu,zd,zh,zj,qcs,qcl,ZZ,WW,Zd,reduceCtorEq,zd,ze,zb,zf,za]
 simp only [ZZ,WW,Zd,reduceCtorEq,zd,ze,zb,zf,za,qag]
 refine qad (fun n fr L=>∃ (k:Nat),k≤u.length∧n=u.length - k∧(lexC u v=lexC (u.drop k) (v.drop k)∧k≤v.length)∧fr=(.p (.sl 1 (strE u))::.p (.sl 1 (strE v))::oC (oB (oo::(.p (.sl 1 (strE u))::.p (int (u.length:Nat))::.p (int (k:Nat))::oE (oD [])))))∧L=[]) (u.length) _ [] (by simp only [ZZ,WW,Zd,reduceCtorEq,zd,ze,zb,zf,za,qag];try trivial) (by (simp only [ZZ,WW,Zd,reduceCtorEq,zd,ze,zb,zf,za];try trivial)) ⟨0,by omega,by omega,⟨rfl,by omega⟩,rfl,rfl⟩ ?_
 rintro n fr L ⟨k,hk,rfl,hF,rfl,rfl⟩
 simp only [qbQ,ZZ,WW,Zd,reduceCtorEq,zd,ze,zb,zf,za]
 obtain ⟨hF,hkv⟩:=hF
 refine br ?_ ?_
 ·intro h
  have hlt:k < u.length:=by have:=of_decide_eq_true h;omega
  obtain ⟨x,hx⟩:∃ x,u[k]?=some x:=⟨_,zg hlt⟩
  have hg:=qfH hx
  have hdu:u.drop k=x :: u.drop (k+1):=by rw [yw hlt,(zt.1 hx).2]
  simp only [ZZ,WW,Zd,reduceCtorEq,zd,ze,zb,zf,za,hg,qag]
  ((with_reducible and_intros)<;>try exact sc_)
  refine br ?_ ?_
  ·intro h2
   have hge:v.length≤k:=by have:=of_decide_eq_true h2;omega
   refine zS ?_
   rw [hF,hdu,zU hge]
   rfl
  intro h2
  have hlv:k < v.length:=by have:=of_decide_eq_false h2;omega
  obtain ⟨y,hy⟩:∃ y,v[k]?=some y:=⟨_,zg hlv⟩
  have hgy:=qfH hy
  have hdv:v.drop k=y :: v.drop (k+1):=by rw [yw hlv,(zt.1 hy).2]
  simp only [ZZ,WW,Zd,reduceCtorEq,zd,ze,zb,zf,za,hgy,qag]
  ((with_reducible and_intros)<;>try exact sc_)
  refine use1 (qs7 x y) rfl (.inl rfl) ?_
  refine zS ?_
  refine br ?_ ?_
  ·intro h3
   have h4:¬ Lib.compareBytes x y=0:=by simpa using h3
   refine zS ?_
   rw [hF,hdu,hdv,lexC,if_neg h4]
  ·intro h3
   have h4:Lib.compareBytes x y=0:=by simpa using h3
   refine zS ?_
   ((with_reducible and_intros)<;>try exact sc_)
   refine qac (u.length - (k+1)) _ [] (by omega) (by (simp only [ZZ,WW,Zd,reduceCtorEq,zd,ze,zb,zf,za];try trivial)) (by (simp only [ZZ,WW,Zd,reduceCtorEq,zd,ze,zb,zf,za];try trivial)) ⟨k+1,by omega,rfl,⟨by rw [hF,hdu,hdv,lexC,if_pos h4],by omega⟩,rfl,rfl⟩
 ·intro h
  have hge:u.length=k:=by have:=of_decide_eq_false h;omega
  simp only [ZZ,WW,Zd,reduceCtorEq,zd,ze,zb,zf,za,qag]
  rw [zU (by omega)] at hF
  refine br ?_ ?_
  ·intro h2
   have hlv:k < v.length:=by have:=of_decide_eq_true h2;omega
   refine zS ?_
   rw [hF,yw hlv]
   rfl
  ·intro h2
   have hlv:v.length≤k:=by have:=of_decide_eq_false h2;omega
   refine zS ?_
   rw [hF,zU hlv]
   rfl
end
section
variable {E:Envt}
theorem qqz (l:List (List UInt8)) (f:FuncId) (ps:List PV) (q:List UInt8→Bool) (hl:l.length≤1000000000) (hfn:Unit→fnB Tryz.prog f=true) (hps:Zk [] (ps.map .p)=true) (hf:∀ x∈l,PCall Tryz.prog E f (.str x :: ps) (·=.bool (q x))) (hn:∀ x,Zbg [] (.p (.str x) :: ps.map .p)=some (.str x :: ps)) (hr:∀ x,Zbi (.p (.str x) :: ps.map .p)=true):PCall Tryz.prog E 169 [.sl 1 (strE l),.clo f ps] (·=int (idxF q l)):=by
 refine qae mixed Tryz.func169 qe2 ?_
 simp only [a0,l0,OS.ao,zk,zr,zi,zo,zl,zm,zu,zd,zh,zj,qb3,qbZ,ZZ,WW,Zd,reduceCtorEq,zd,ze,zb,zf,za]
 simp only [ZZ,WW,Zd,reduceCtorEq,zd,ze,zb,zf,za,qag]
 refine qad (fun n fr L=>∃ (k:Nat),k≤l.length∧n=l.length - k∧(∀ x∈l.take k,q x=false)∧fr=(.p (.sl 1 (strE l))::.p (.clo f ps)::oC (oo::(.p (int (l.length:Nat))::.p (int (k:Nat))::oD (oB []))))∧L=[]) (l.length) _ [] (by simp only [qag,ZZ,WW,Zd,reduceCtorEq,zd,ze,zb,zf,za];try trivial) (by (simp only [ZZ,WW,Zd,reduceCtorEq,zd,ze,zb,zf,za];try trivial)) ⟨0,by omega,by omega,by simp,rfl,rfl⟩ ?_
 rintro n fr L ⟨k,hk,rfl,hno,rfl,rfl⟩
 simp only [qbx,ZZ,WW,Zd,reduceCtorEq,zd,ze,zb,zf,za]
 refine br ?_ ?_
 ·intro h
  have hlt:k < l.length:=by have:=of_decide_eq_true h;omega
  obtain ⟨x,hx⟩:∃ x,l[k]?=some x:=⟨_,zg hlt⟩
  have hg:=qfH hx
  simp only [ZZ,WW,Zd,reduceCtorEq,zd,ze,zb,zf,za,hg,qag,hfn ()]
  refine ⟨⟨by omega,by omega⟩,by omega,hps,?_⟩
  refine use1 (hf x (List.mem_of_getElem? hx)) (hn x) (.inl (hr x)) ?_
  refine zS ?_
  refine br ?_ ?_
  ·intro hq
   refine zS ?_
   rw [qja hx hq hno]
  ·intro hq
   refine zS ?_
   ((with_reducible and_intros)<;>try exact sc_)
   refine qac (l.length - (k+1)) _ [] (by omega) (by (simp only [ZZ,WW,Zd,reduceCtorEq,zd,ze,zb,zf,za];try trivial)) (by (simp only [ZZ,WW,Zd,reduceCtorEq,zd,ze,zb,zf,za];try trivial)) ⟨k+1,by omega,rfl,by rw [zy hlt];intro y hy;rcases List.mem_append.1 hy with hy|hy;exact hno y hy;rw [zF] at hy;rw [hy,(zt.1 hx).2];exact hq,rfl,rfl⟩
 ·intro h
  have hge:l.length≤k:=by have:=of_decide_eq_false h;omega
  rw [zC hge] at hno
  refine zS ?_
  rw [qgd hno]
theorem qeh (l:List (List UInt8)) (f:FuncId) (ps:List PV) (q:List UInt8→Bool) (hl:l.length≤1000000000) (hfn:Unit→fnB Tryz.prog f=true) (hps:Zk [] (ps.map .p)=true) (hf:∀ x∈l,PCall Tryz.prog E f (.str x :: ps) (·=.bool (q x))) (hn:∀ x,Zbg [] (.p (.str x) :: ps.map .p)=some (.str x :: ps)) (hr:∀ x,Zbi (.p (.str x) :: ps.map .p)=true):PCall Tryz.prog E 84 [.sl 1 (strE l),.clo f ps] (·=.bool (l.any q)):=by
 refine qae mixed Tryz.func84 qee ?_
 simp only [a0,l0,OS.ao,zk,zr,zi,zo,zl,zm,zu,zd,zh,zj,qbz,qbw,ZZ,WW,Zd,reduceCtorEq,zd,ze,zb,zf,za]
 refine use1 (qqz l f ps q hl hfn hps hf hn hr) rfl (.inl rfl) ?_
 refine zS ?_
 rw [ql2]
end
def qfY:IC:=(sR [qT 27 .lss 26 25] (.seq (.cond (.t 27) .skip (.exit 2)) (.seq (.block 3 (sR [qX 28 3 24 26,qO 29 (.ld 3 true (.t 28)),qO 9 (.alc 76 [.str [],.int .i64 0,.nl 2]),qS 3 9 29] (.reg [qM 30 5,qF 31 0 9,qL 32 31,qO 33 (.ld 3 true (.t 9)),⟨none,.mpu (.t 30) (.t 32) (.t 33),none⟩]))) (.reg [qB 34 .add 26 (cI 1),qM 26 34]))))
def qfZ:IC:=(sR [qT 14 .lss 13 12] (.seq (.cond (.t 14) .skip (.exit 0)) (.seq (.block 1 (sR [qX 15 7 11 13,qO 16 (.ld 7 true (.t 15)),qO 7 (.alc 80 [.str [],.str [],.int .i64 0,.str [],.int .i64 0,.str [],.str []]),qS 7 7 16] (.reg [qM 17 5,qF 18 0 7,qL 19 18,qF 20 0 7,qL 21 20,qO 22 (.bld [.str [],.int .i64 0,.nl 2] [(0,1,.t 21),(1,1,.c (.int .i64 3))]),⟨none,.mpu (.t 17) (.t 19) (.t 22),none⟩]))) (.reg [qB 23 .add 13 (cI 1),qM 13 23]))))
def qh1:IC:=(sR [qO 4 (.mov (.c (.raw (.map none))))] (sR [qO 10 (.mkm 9 76),qM 5 10] (.seq (sR [qM 11 0,qN 12 11,qO 13 (.mov (cI 0))] (.block 0 (.loop qfZ))) (.seq (sR [qM 24 1,qN 25 24,qO 26 (.mov (cI 0))] (.block 2 (.loop qfY))) (sR [qM 35 5,qM 4 35] .ret)))))
def qhM:List IRes:=[.t 4]
theorem ql9:chkF Tryz.prog Tryz.f122 qh1 qhM 36=true:=by kernel_rfl
def qgH:IC:=(sR [qT 27 .lss 26 25] (.seq (.cond (.t 27) .skip (.exit 0)) (.seq (.block 1 (sR [qX 28 2 24 26,qO 29 (.ld 2 true (.t 28)),qO 13 (.alc 119 [.str [],.nl 1]),qS 2 13 29] (sR [qF 30 1 13,qL 31 30,qO 32 (.mkf 162 [.t 8]),qO 33 (.call 84 [.t 31,.t 32])] (.cond (.t 33) (.reg [qM 34 11,qO 35 (.ld 2 true (.t 13)),qO 36 (.bsl 2 [.t 35]),qO 37 (.app 119 2 40 (.t 34) (.t 36)),qM 11 37]) .skip)))) (.cut (.reg [qB 38 .add 26 (cI 1),qM 26 38])))))
def qiR:IC:=(sR [qO 5 (.box 3 (.t 2)),qO 6 (.mov (.c (.nl 2)))] (sR [qM 14 0,qO 15 (.call 78 [.t 14]),qM 16 0,qM 17 1,qO 18 (.call 122 [.t 16,.t 17]),qO 7 (.alc 115 [.raw (.map none)]),qO 8 (.alc 149 [.raw (.map none)]),qS 1 7 15,qS 1 8 18] (sR [qM 20 0,⟨none,.re,none⟩,qO 21 (.call 161 [.t 20]),qM 19 21,qO 22 (.ext 0 (.t 19)),qO 23 (.ext 1 (.t 19)),qM 9 22,qM 10 23] (sR [qO 11 (.nilr 119 2)] (.seq (sR [qM 24 9,qN 25 24,qO 26 (.mov (cI 0))] (.block 0 (.loop qgH))) (sR [qM 39 11,qO 40 (.mkf 163 [.t 7,.t 5]),qO 41 (.call 87 [.t 39,.t 40])] (sR [qM 42 11,qM 6 42] .ret)))))))
def qiH:List IRes:=[.t 6]
theorem qmK:chkF Tryz.prog Tryz.f80 qiR qiH 43=true:=by kernel_rfl
def qhm:IC:=(sR [qO 3 (.mov (.c (.bool false)))] (sR [qL 4 1,qM 5 0,qO 6 (.mpl false (.agg [.str [],.int .i64 0,.nl 2]) (.t 4) (.t 5)),qO 7 (.fld 1 1 false (.t 6)),qB 8 .eql 7 (cI 1),qM 3 8] .ret))
def qg4:List IRes:=[.t 3]
theorem qlh:chkF Tryz.prog Tryz.f162 qhm qg4 9=true:=by kernel_rfl
def qcH:IC:=(sR [qO 4 (.box 119 (.t 0)),qO 5 (.box 119 (.t 1)),qO 6 (.mov (cI 0))] (.seq (.drg [⟨none,.hole 7,none⟩,⟨none,.hole 8,none⟩,qL 11 2,qF 12 0 4,qL 13 12,qO 14 (.mpl false (.agg [.str [],.str [],.int .i64 0,.str [],.int .i64 0,.str [],.str []]) (.t 11) (.t 13)),qL 15 2,qF 16 0 5,qL 17 16,qO 18 (.mpl false (.agg [.str [],.str [],.int .i64 0,.str [],.int .i64 0,.str [],.str []]) (.t 15) (.t 17)),qO 7 (.alcd 80 [.str [],.str [],.int .i64 0,.str [],.int .i64 0,.str [],.str []]),qO 8 (.alcd 80 [.str [],.str [],.int .i64 0,.str [],.int .i64 0,.str [],.str []]),qS 7 7 14,qS 7 8 18]) (sR [qO 9 (.mov (cI 0)),qO 10 (.mov (cI 0))] (.seq (sR [qL 19 3,qB 20 .eql 19 (cI 3)] (.cond (.t 20) (.reg [qF 21 1 7,qL 22 21,qF 23 1 8,qL 24 23,qO 25 (.call 89 [.t 22,.t 24]),qM 9 25]) .skip)) (.cut (.seq (sR [qL 26 3,qB 27 .neq 26 (cI 1)] (.cond (.t 27) (.reg [qF 28 4 7,qL 29 28,qF 30 4 8,qL 31 30,qT 32 .sub 29 31,qM 10 32]) .skip)) (.cut (sR [qM 33 9,qM 34 10,qF 35 0 4,qL 36 35,qF 37 0 5,qL 38 37,qO 39 (.call 89 [.t 36,.t 38]),qO 40 (.bsl 1 [.t 33,.t 34,.t 39]),qO 41 (.call 91 [.t 40]),qM 6 41] .ret))))))))
def qcG:List IRes:=[.t 6]
theorem qem:chkF Tryz.prog Tryz.f163 qcH qcG 42=true:=by kernel_rfl
def RulIs (kv:List (List UInt8×PV)) (l:List Rul):Prop:=∀ s,(∃ r,l.reverse.find? (fun r=>decide (r.id=s))=some r∧mpF kv s=some (.agg (rlV r)))∨(l.reverse.find? (fun r=>decide (r.id=s))=none∧(mpF kv s=none∨mpF kv s=some (.agg [.str s,int 3,.nl 2])))
theorem RulIs.nil:RulIs [] []:=fun s=>.inr ⟨rfl,.inl rfl⟩
theorem RulIs.leave {kv:List (List UInt8×PV)} (h:RulIs kv []) (s:List UInt8):RulIs (mpS kv s (.agg [.str s,int 3,.nl 2])) []:=fun t=>by
 refine .inr ⟨rfl,?_⟩
 rw [qlc]
 by_cases hs:s=t
 ·rw [if_pos hs,hs]
  exact .inr rfl
 ·rw [if_neg hs]
  rcases h t with ⟨r,h1,_⟩|⟨_,h2⟩
  ·cases h1
  ·exact h2
theorem RulIs.put {kv:List (List UInt8×PV)} {l:List Rul} (h:RulIs kv l) (r:Rul):RulIs (mpS kv r.id (.agg (rlV r))) (l++[r]):=fun s=>by
 rw [qlc,List.reverse_append,List.reverse_singleton,List.singleton_append,List.find?_cons]
 by_cases hs:r.id=s
 ·rw [if_pos hs]
  exact .inl ⟨r,by simp [hs],rfl⟩
 ·rw [if_neg hs]
  simp only [hs,decide_false]
  exact h s
theorem qjb:∀ {l:List Rul} (s:List UInt8),(l.map (·.id)).Nodup→l.reverse.find? (fun r=>decide (r.id=s))=l.find? fun r=>decide (r.id=s)
 |[],s,_=>rfl
 |r :: t,s,h=>by
  rw [zk,List.nodup_cons] at h
  rw [List.reverse_cons,List.find?_append,qjb s h.2]
  simp only [List.find?_cons,List.find?_nil]
  by_cases hs:r.id=s
  ·have:t.find? (fun r=>decide (r.id=s))=none:=by
    rw [List.find?_eq_none]
    intro x hx e
    rw [decide_eq_true_eq] at e
    exact h.1 (zN.2 ⟨x,hx,by rw [e,hs]⟩)
   rw [this]
   simp [hs]
  ·simp only [hs,decide_false]
   generalize t.find? (fun r=>decide (r.id=s))=q
   cases q<;>simp [hs]
theorem RulIs.what {kv:List (List UInt8×PV)} {l:List Rul} (h:RulIs kv l) (hn:(l.map (·.id)).Nodup) (s:List UInt8):∃ i w v,(mpF kv s).getD (.agg [.str [],int 0,.nl 2])=.agg [i,int w,v]∧decide (w=1)=qnf l s:=by
 unfold qnf rlOf
 rcases h s with ⟨r,h1,h2⟩|⟨h1,h2|h2⟩
 ·rw [qjb s hn] at h1
  exact ⟨_,_,_,by rw [h2];rfl,by rw [h1];rfl⟩
 ·rw [qjb s hn] at h1
  exact ⟨_,_,_,by rw [h2];rfl,by rw [h1];rfl⟩
 ·rw [qjb s hn] at h1
  exact ⟨_,_,_,by rw [h2];rfl,by rw [h1];rfl⟩
theorem qyj {a b c:List UInt8} (h1:Lib.compareBytes a b < 0) (h2:Lib.compareBytes b c < 0):Lib.compareBytes a c < 0:=by
 have t1:=qA4 a b c (by omega) (by omega)
 by_cases h:Lib.compareBytes a c=0
 ·have:=qsR h
  subst this
  have:=qon a b
  omega
 ·omega
theorem qqQ {il:List Itm} {l:List Rul} (h:rulF il l=0):(l.map (·.id)).Nodup:=by
 have h2:qaf ((zE l.length).map (ruE il l))=0:=by
  unfold rulF at h
  split at h
  ·cases h
  ·exact h
 have hst:∀ k,k+1 < l.length→Lib.compareBytes (l.getD k rl0).id (l.getD (k+1) rl0).id < 0:=by
  intro k hk
  have h3:=qiY h2 (ruE il l (k+1)) (zN.2 ⟨k+1,by simpa using hk,rfl⟩)
  have h4:=qiY h3 _ (List.mem_cons_of_mem _ (List.mem_cons_self ..))
  have e1:decide (0 < k+1)=true:=by simp
  rw [e1,ye,show k+1 - 1=k by omega] at h4
  unfold qah at h4
  split at h4
  ·cases h4
  ·rename_i h5
   have h6:=qsS (l.getD (k+1) rl0).id (l.getD k rl0).id
   have h7:=qon (l.getD (k+1) rl0).id (l.getD k rl0).id
   simp only [z6,not_or] at h5
   rw [if_neg h5.1,if_pos (by simp only [Bool.not_eq_true] at h5;simp only [h5.1,h5.2];rfl)] at h6
   omega
 have hlt:∀ d k,k+d+1 < l.length→Lib.compareBytes (l.getD k rl0).id (l.getD (k+d+1) rl0).id < 0:=by
  intro d
  induction d with
  |zero=>intro k hk;exact hst k hk
  |succ d ih=>intro k hk;exact qyj (ih k (by omega)) (hst (k+d+1) hk)
 rw [List.nodup_iff_pairwise_ne,List.pairwise_map,List.pairwise_iff_getElem]
 intro i j hi hj hij e
 have:=hlt (j - i - 1) i (by omega)
 rw [show i+(j - i - 1)+1=j by omega] at this
 simp only [zD,zg hi,zg hj,Option.getD_some] at this
 rw [e,qA5] at this
 omega
theorem qrj {il:List Itm} (hP:qaP il) (s:List UInt8):0≤(itOf il s).2.2.2.2.1∧(itOf il s).2.2.2.2.1≤1440:=by
 unfold itOf
 cases hg:getI il s with
 |none=>simp [it0]
 |some y=>
  obtain ⟨j,hj,_⟩:=qob hP hg
  exact (hP.2 j y hj).b5
theorem cf3 {α:Type} (a b c:α→α→Int) (x y:α):orC a (orC b c) x y=qaf [a x y,b x y,c x y]:=by
 unfold orC qaf qaf qaf qaf
 split
 ·split
  ·split
   ·assumption
   ·rfl
  ·rfl
 ·rfl
section
variable {E:Envt}
theorem qoV (il:List Itm) (l:List Rul) (hil:il.length≤2000) (hl:l.length≤1000000):PCall Tryz.prog E 122 [.sl 7 (itE il),.sl 3 (rlE l)] (fun x=>∃ kv:List (List UInt8×PV),x=.mpv (kv.map (·.1)) (kv.map (·.2))∧RulIs kv l∧kv.length≤il.length+l.length):=by
 refine qae mixed Tryz.func122 ql9 ?_
 simp only [a0,l0,OS.ao,zk,zr,zi,zo,zl,zm,zu,zd,zh,zj,qh1,qhM,ZZ,WW,Zd,reduceCtorEq,zd,ze,zb,zf,za]
 simp only [ZZ,WW,Zd,reduceCtorEq,zd,ze,zb,zf,za,qai]
 refine qad (fun n fr L=>∃ (k:Nat) (kv:List (List UInt8×PV)),k≤il.length∧n=il.length - k∧(RulIs kv [])∧(kv.length≤k)∧fr=(.p (.sl 7 (itE il))::.p (.sl 3 (rlE l))::oo::oo::oo::.mp (.l 10)::oC (oo::(.p (.sl 7 (itE il))::.p (int (il.length:Nat))::.p (int (k:Nat))::oE (oC (oB [])))))∧L=[(.l 10,.map kv 9 76)]) (il.length) _ _ (by simp only [ZZ,WW,Zd,reduceCtorEq,zd,ze,zb,zf,za,qai];try trivial) (by (simp only [ZZ,WW,Zd,reduceCtorEq,zd,ze,zb,zf,za];try trivial)) ⟨0,[],by omega,by omega,RulIs.nil,by simp,rfl,rfl⟩ ?_
 rintro n fr L ⟨k,kv,hk,rfl,hkv,hkn,rfl,rfl⟩
 simp only [qfZ,ZZ,WW,Zd,reduceCtorEq,zd,ze,zb,zf,za]
 refine br ?_ ?_
 ·intro h
  have hlt:k < il.length:=by have:=of_decide_eq_true h;omega
  obtain ⟨x,hx⟩:∃ x,il[k]?=some x:=⟨_,zg hlt⟩
  have hg:=qbG hx
  simp only [itC] at hg
  simp only [ZZ,WW,Zd,reduceCtorEq,zd,ze,zb,zf,za,hg,qai]
  ((with_reducible and_intros)<;>try exact sc_)
  refine qac (il.length - (k+1)) (.p (.sl 7 (itE il))::.p (.sl 3 (rlE l))::oo::oo::oo::.mp (.l 10)::oC (oo::(.p (.sl 7 (itE il))::.p (int (il.length:Nat))::.p (int ((k+1):Nat))::oE (oC (oB []))))) [(.l 10,.map (mpS kv x.1 (.agg [.str x.1,int 3,.nl 2])) 9 76)] (by omega) (by (simp only [ZZ,WW,Zd,reduceCtorEq,zd,ze,zb,zf,za];try trivial)) (by (simp only [ZZ,WW,Zd,reduceCtorEq,zd,ze,zb,zf,za];try trivial)) ⟨k+1,mpS kv x.1 (.agg [.str x.1,int 3,.nl 2]),by omega,rfl,hkv.leave _,zT (qtI _ _ _) (by omega),rfl,rfl⟩
 intro h
 have hge:il.length≤k:=by have:=of_decide_eq_false h;omega
 simp only [ZZ,WW,Zd,reduceCtorEq,zd,ze,zb,zf,za,qay]
 refine qad (fun n fr L=>∃ (k:Nat) (kw:List (List UInt8×PV)),k≤l.length∧n=l.length - k∧(RulIs kw (l.take k))∧(kw.length≤il.length+k)∧fr=(oC (oo::(.mp (.l 10)::oE (oB (.p (.sl 3 (rlE l))::.p (int (l.length:Nat))::.p (int (k:Nat))::oD (oo::[]))))))∧L=[(.l 10,.map kw 9 76)]) (l.length) _ _ (by simp only [ZZ,WW,Zd,reduceCtorEq,zd,ze,zb,zf,za,qay];try trivial) (by (simp only [ZZ,WW,Zd,reduceCtorEq,zd,ze,zb,zf,za];try trivial)) ⟨0,kv,by omega,by omega,hkv,by omega,rfl,rfl⟩ ?_
 rintro n fr L ⟨k,kw,hk,rfl,hkw,hwn,rfl,rfl⟩
 simp only [qfY,ZZ,WW,Zd,reduceCtorEq,zd,ze,zb,zf,za]
 refine br ?_ ?_
 ·intro h
  have hlt:k < l.length:=by have:=of_decide_eq_true h;omega
  obtain ⟨r,hr⟩:∃ r,l[k]?=some r:=⟨_,zg hlt⟩
  have hg:=qgj hr
  have hnx:l.take (k+1)=l.take k++[r]:=by rw [zy hlt,(zt.1 hr).2]
  have hpt:=hkw.put r
  rw [← hnx] at hpt
  simp only [rlV] at hpt
  simp only [ZZ,WW,Zd,reduceCtorEq,zd,ze,zb,zf,za,hg,qay]
  ((with_reducible and_intros)<;>try exact sc_)
  refine qac (l.length - (k+1)) (oC (oo::(.mp (.l 10)::oE (oB (.p (.sl 3 (rlE l))::.p (int (l.length:Nat))::.p (int ((k+1):Nat))::oD (oo::[])))))) [(.l 10,.map (mpS kw r.id (.agg [.str r.id,int r.what,.sl 2 (r.spans.map spn)])) 9 76)] (by omega) (by (simp only [ZZ,WW,Zd,reduceCtorEq,zd,ze,zb,zf,za];try trivial)) (by (simp only [ZZ,WW,Zd,reduceCtorEq,zd,ze,zb,zf,za];try trivial)) ⟨k+1,mpS kw r.id (.agg [.str r.id,int r.what,.sl 2 (r.spans.map spn)]),by omega,rfl,hpt,zT (qtI _ _ _) (by omega),rfl,rfl⟩
 intro h
 have hge:l.length≤k:=by have:=of_decide_eq_false h;omega
 rw [zC hge] at hkw
 refine zS ?_
 exact ⟨kw,rfl,hkw,by omega⟩
theorem qxo {kv:List (List UInt8×PV)} {l:List Rul} (hR:RulIs kv l) (hn:(l.map (·.id)).Nodup) (s:List UInt8):PCall Tryz.prog E 162 [.str s,.ptr [.mpv (kv.map (·.1)) (kv.map (·.2))]] (·=.bool (qnf l s)):=by
 obtain ⟨i,w,v,h1,h2⟩:=hR.what hn s
 rw [← h2]
 refine qae mixed Tryz.func162 qlh ?_
 simp only [a0,l0,OS.ao,zk,zr,zi,zo,zl,zm,zu,zd,zh,zj,qhm,qg4,ZZ,WW,Zd,reduceCtorEq,zd,ze,zb,zf,za]
 simp only [ZZ,WW,Zd,reduceCtorEq,zd,ze,zb,zf,za,qdc,mpD,h1]
theorem qAY {il:List Itm} (hP:qaP il) {kv:List (List UInt8×PV)} (hkv:MapIs kv il) {order:Int} (ho:order=1∨order=2∨order=3) (s t:List UInt8) (a b:List (List PV)):PCall Tryz.prog E 163 [.agg [.str s,.sl 1 a],.agg [.str t,.sl 1 b],.ptr [.mpv (kv.map (·.1)) (kv.map (·.2))],.ptr [int order]] (·=int (cfP il order s t)):=by
 have hsu:∀ q r:Int,0≤q→q≤1440→0≤r→r≤1440→I64 (q - r):=fun q r _ _ _ _=>qan (by omega) (by omega)
 rw [cfP,cf3]
 have m1:=(qpV hP hkv s).1
 have m2:=(qpV hP hkv t).1
 have t1:=qrj hP s
 have t2:=qrj hP t
 unfold whoC qsa
 simp only [itC] at m1 m2
 generalize itOf il s=x at *
 generalize itOf il t=y at *
 have e13:decide ((1:Int)=3)=false:=rfl
 have e23:decide ((2:Int)=3)=false:=rfl
 have e21:decide ((2:Int)=1)=false:=rfl
 have e31:decide ((3:Int)=1)=false:=rfl
 rcases ho with rfl|rfl|rfl
 ·skip
  refine qae mixed Tryz.func163 qem ?_
  simp only [a0,l0,OS.ao,zk,zr,zi,zo,zl,zm,zu,zd,zh,zj,qcH,qcG,ZZ,WW,Zd,reduceCtorEq,zd,ze,zb,zf,za]
  refine ⟨[],?_⟩
  simp only [ZZ,WW,Zd,reduceCtorEq,zd,ze,zb,zf,za,qdc,mpD,m1,m2,e13,e23,e21,e31,decide_true,decide_false,Bool.not_true,Bool.not_false]
  refine qa1 _ _ ReOk.refl ?_
  simp only [ZZ,WW,Zd,reduceCtorEq,zd,ze,zb,zf,za,e13,e23,e21,e31,decide_true,decide_false,Bool.not_true,Bool.not_false]
  refine qa1 _ _ ReOk.refl ?_
  refine zS ?_
  refine use1 (qa9 s t) rfl (.inl rfl) ?_
  refine zS ?_
  refine use1 (qph [0,0,Lib.compareBytes s t] (by simp)) rfl (.inl rfl) ?_
  refine zS ?_
  rfl
 ·skip
  refine qae mixed Tryz.func163 qem ?_
  simp only [a0,l0,OS.ao,zk,zr,zi,zo,zl,zm,zu,zd,zh,zj,qcH,qcG,ZZ,WW,Zd,reduceCtorEq,zd,ze,zb,zf,za]
  refine ⟨[],?_⟩
  simp only [ZZ,WW,Zd,reduceCtorEq,zd,ze,zb,zf,za,qdc,mpD,m1,m2,e13,e23,e21,e31,decide_true,decide_false,Bool.not_true,Bool.not_false]
  refine qa1 _ _ ReOk.refl ?_
  simp only [ZZ,WW,Zd,reduceCtorEq,zd,ze,zb,zf,za,e13,e23,e21,e31,decide_true,decide_false,Bool.not_true,Bool.not_false]
  refine ⟨hsu _ _ t1.1 t1.2 t2.1 t2.2,?_⟩
  refine qa1 _ _ ReOk.refl ?_
  refine zS ?_
  refine use1 (qa9 s t) rfl (.inl rfl) ?_
  refine zS ?_
  refine use1 (qph [0,x.2.2.2.2.1 - y.2.2.2.2.1,Lib.compareBytes s t] (by simp)) rfl (.inl rfl) ?_
  refine zS ?_
  rfl
 ·skip
  refine qae mixed Tryz.func163 qem ?_
  simp only [a0,l0,OS.ao,zk,zr,zi,zo,zl,zm,zu,zd,zh,zj,qcH,qcG,ZZ,WW,Zd,reduceCtorEq,zd,ze,zb,zf,za]
  refine ⟨[],?_⟩
  simp only [ZZ,WW,Zd,reduceCtorEq,zd,ze,zb,zf,za,qdc,mpD,m1,m2,e13,e23,e21,e31,decide_true,decide_false,Bool.not_true,Bool.not_false]
  refine use1 (qa9 x.2.1 y.2.1) rfl (.inl rfl) ?_
  refine zS ?_
  refine qa1 _ _ ReOk.refl ?_
  simp only [ZZ,WW,Zd,reduceCtorEq,zd,ze,zb,zf,za,e13,e23,e21,e31,decide_true,decide_false,Bool.not_true,Bool.not_false]
  refine ⟨hsu _ _ t1.1 t1.2 t2.1 t2.2,?_⟩
  refine qa1 _ _ ReOk.refl ?_
  refine zS ?_
  refine use1 (qa9 s t) rfl (.inl rfl) ?_
  refine zS ?_
  refine use1 (qph [Lib.compareBytes x.2.1 y.2.1,x.2.2.2.2.1 - y.2.2.2.2.1,Lib.compareBytes s t] (by simp)) rfl (.inl rfl) ?_
  refine zS ?_
  rfl
end
def ctB (c:UInt8):Bool:=decide (c.toNat / 64=2)
def NcP (l:List UInt8):Prop:=∀ i,i+3 < l.length→∃ j,j≤3∧ctB (l.getD (i+j) 0)=false
theorem qi8 {l:List UInt8} (h:NcP l) (k:Nat):NcP (l.drop k):=by
 intro i hi
 rw [z8] at hi
 obtain ⟨j,hj,e⟩:=h (k+i) (by omega)
 refine ⟨j,hj,?_⟩
 rw [yh,yg,← Nat.add_assoc,← yh]
 exact e
theorem qAs {l:List UInt8} (h:NcP l) (k:Nat):NcP (l.take k):=by
 intro i hi
 rw [zP] at hi
 obtain ⟨j,hj,e⟩:=h i (by omega)
 refine ⟨j,hj,?_⟩
 rw [yh,List.getElem?_take,if_pos (by omega),← yh]
 exact e
theorem qyd:∀ b:Fin 256,ctB (UInt8.ofNat b.val)=true→128≤b.val∧¬ Lib.firstT b.val % 8=2∧¬ Lib.firstT b.val % 8=3∧¬ Lib.firstT b.val % 8=4:=by decide +kernel
theorem qwp (c:UInt8) (h:ctB c=true):128≤c.toNat∧¬ Lib.firstT c.toNat % 8=2∧¬ Lib.firstT c.toNat % 8=3∧¬ Lib.firstT c.toNat % 8=4:=by
 have:=qyd ⟨c.toNat,c.toNat_lt⟩
 simp only [UInt8.ofNat_toNat] at this
 exact this h
theorem qoP {l:List UInt8} (hl:Lib.validD l=true) (hne:l≠[]):ctB (l.getD 0 0)=false:=by
 cases h:ctB (l.getD 0 0) with
 |false=>rfl
 |true=>
  exfalso
  obtain ⟨h1,h2,h3,h4⟩:=qwp _ h
  rw [Lib.validD_lead l hne h1] at hl
  unfold Lib.checkN at hl
  rw [if_neg h2,if_neg h3,if_neg h4] at hl
  cases hl
theorem qt2 {n a b c sz lo hi k:Nat} (h:Lib.checkN n a b c sz lo hi=some k):1≤k∧k≤4:=by
 unfold Lib.checkN at h
 repeat' split at h
 all_goals first|(cases h;done)|(cases h;omega)
theorem quf {l:List UInt8} (hl:Lib.validD l=true) (hne:l≠[]):∃ k,1≤k∧k≤4∧Lib.validD (l.drop k)=true:=by
 by_cases h:128≤(l.getD 0 0).toNat
 ·rw [Lib.validD_lead l hne h] at hl
  split at hl
  ·cases hl
  ·rename_i k hk
   exact ⟨k,(qt2 hk).1,(qt2 hk).2,hl⟩
 ·cases l with
  |nil=>exact absurd rfl hne
  |cons b t=>
   simp only [List.getD_cons_zero] at h
   rw [Lib.validD_cons b t (by omega)] at hl
   exact ⟨1,by omega,by omega,hl⟩
theorem qtH:∀ (n:Nat) (l:List UInt8),l.length≤n→Lib.validD l=true→NcP l
 |0,l,hn,_=>fun i hi=>by omega
 |n+1,l,hn,hl=>by
  by_cases hne:l=[]
  ·subst hne
   intro i hi
   simp at hi
  ·have h0:=qoP hl hne
   obtain ⟨k,h1,h2,h3⟩:=quf hl hne
   have ih:=qtH n (l.drop k) (by rw [z8];have:=List.length_pos_iff.2 hne;omega) h3
   intro i hi
   by_cases hik:k≤i
   ·obtain ⟨j,hj,e⟩:=ih (i - k) (by rw [z8];omega)
    refine ⟨j,hj,?_⟩
    rw [yh,yg,← yh,show k+(i - k+j)=i+j from by omega] at e
    exact e
   ·by_cases hi0:i=0
    ·subst hi0
     exact ⟨0,by omega,h0⟩
    ·have h4:=qoP h3 (by intro e;have:=congrArg List.length e;rw [z8] at this;simp at this;omega)
     rw [yh,yg,← yh] at h4
     refine ⟨k - i,by omega,?_⟩
     rw [show i+(k - i)=k+0 from by omega]
     exact h4
theorem qtn (c:UInt8):∀ s:List UInt8,(∃ n,(sp c s).headD []=s.take n)∧∀ x∈sp c s,∃ a n,x=(s.drop a).take n
 |[]=>⟨⟨0,rfl⟩,fun x hx=>⟨0,0,by simpa [sp] using hx⟩⟩
 |y :: s=>by
  obtain ⟨⟨n,h1⟩,h2⟩:=qtn c s
  rw [sp]
  split
  ·refine ⟨⟨0,rfl⟩,fun x hx=>?_⟩
   rcases zI.1 hx with rfl|hx
   ·exact ⟨0,0,rfl⟩
   ·obtain ⟨a,m,e⟩:=h2 x hx
    exact ⟨a+1,m,by simpa using e⟩
  ·refine ⟨⟨n+1,show y :: (sp c s).headD []=y :: s.take n by rw [h1]⟩,fun x hx=>?_⟩
   rcases zI.1 hx with rfl|hx
   ·exact ⟨0,n+1,show y :: (sp c s).headD []=y :: s.take n by rw [h1]⟩
   ·obtain ⟨a,m,e⟩:=h2 x (List.mem_of_mem_tail hx)
    exact ⟨a+1,m,by simpa using e⟩
theorem qDi {c:UInt8} {s:List UInt8} (h:NcP s):∀ x∈sp c s,NcP x:=by
 intro x hx
 obtain ⟨a,n,rfl⟩:=(qtn c s).2 x hx
 exact qAs (qi8 h a) n
theorem qp4 {l:List UInt8} {i:Nat} (h:i < l.length):insE l (i:Int)=ctB (l.getD i 0):=by
 unfold insE ctB
 rw [Int.toNat_natCast,yq]
 simp only [zq,decide_eq_true_eq]
 omega
def liW (l:List UInt8):Int:=Lib.lastIndexByte ⟨(l.take 81).toArray⟩ 32
def brkB (l:List UInt8):Bool:=decide (0 < liW l) && !decide (Lib.trimS (l.take (liW l).toNat) [32]=[])
def wrF:Nat→List UInt8→SRow
 |0,l=>[l]
 |n+1,l=>if 80 < l.length then (if brkB l=true then l.take (liW l).toNat :: wrF n (l.drop ((liW l).toNat+1)) else l.take (qaM l 80) :: wrF n (l.drop (qaM l 80))) else [l]
theorem qjR {n:Nat} {l:List UInt8} (h:l.length≤80):wrF n l=[l]:=by
 cases n with
 |zero=>rfl
 |succ n=>rw [wrF,if_neg (by omega)]
theorem qnJ {l:List UInt8} (h:NcP l) (hl:80 < l.length):77≤qaM l 80∧ctB (l.getD (qaM l 80) 0)=false:=by
 obtain ⟨j,hj,e⟩:=h 77 (by omega)
 have key:∀ n,77+j≤n→n≤80→77+j≤qaM l n∧ctB (l.getD (qaM l n) 0)=false:=by
  intro n
  induction n with
  |zero=>intro h;omega
  |succ n ih=>
   intro h1 h2
   rw [qaM]
   by_cases hc:insE l ((n+1:Nat):Int)=true
   ·rw [if_pos hc]
    by_cases hn:77+j=n+1
    ·rw [qp4 (by omega),← hn,e] at hc;cases hc
    ·exact ih (by omega) (by omega)
   ·rw [if_neg hc]
    rw [qp4 (by omega)] at hc
    exact ⟨h1,by simpa using hc⟩
 have:=key 80 (by omega) (by omega)
 exact ⟨by omega,this.2⟩
theorem qpj:∀ (n:Nat) (l:List UInt8),(wrF n l).length≤n+1
 |0,l=>by simp [wrF]
 |n+1,l=>by
  rw [wrF]
  split
  ·split
   ·have:=qpj n (l.drop ((liW l).toNat+1))
    simp;omega
   ·have:=qpj n (l.drop (qaM l 80))
    simp;omega
  ·simp
def qfJ (ls:SRow):SRow:=ls.flatMap fun l=>wrF l.length l
theorem qjQ (ls:SRow):(qfJ ls).length≤wgt ls:=by
 induction ls with
 |nil=>simp [qfJ]
 |cons x r ih=>
  have:=qpj x.length x
  unfold qfJ at ih ⊢
  rw [List.flatMap_cons,zK,wgt]
  omega
theorem qoO {ls:SRow} {k:Nat} {s:List UInt8} (h:ls[k]?=some s):qfJ (ls.take (k+1))=qfJ (ls.take k)++wrF s.length s:=by
 obtain ⟨hk,rfl⟩:=zt.1 h
 rw [zy hk,qfJ,qfJ,List.flatMap_append]
 simp
theorem qlx {ls:SRow} {k:Nat}:(qfJ (ls.take k)).length≤(qfJ ls).length:=by
 conv=>rhs;rw [← List.take_append_drop k ls]
 rw [qfJ,qfJ,List.flatMap_append,zK]
 omega
def qlZ:IC:=(sR [qO 2 (.mov (.c (.nl 1))),qO 3 (.mov (.c (.bool false)))] (.seq (sR [qM 6 0,qB 7 .eql 6 (.c (.str []))] (.cond (.t 7) (sR [qO 2 (.mov (.c (.nl 1))),qO 3 (.mov (.c (.bool true)))] .ret) .skip)) (sR [qM 9 0,qO 10 (.call 252 [.t 9,.c (.str [10])]),qM 8 10,qO 11 (.ext 0 (.t 8)),qO 12 (.ext 1 (.t 8)),qM 4 11,qM 5 12] (sR [qM 13 4,qO 14 (.call 242 [.t 13,.c (.str [10])]),qM 15 5,qM 2 14,qM 3 15] .ret))))
def qlL:List IRes:=[.t 2,.t 3]
theorem qqf:chkF Tryz.prog Tryz.f310 qlZ qlL 16=true:=by kernel_rfl
def qgM:IC:=(sR [qO 2 (.mov (.c (.nl 1)))] (sR [qM 4 0,qO 5 (.call 242 [.t 4,.c (.str [10])]),qM 3 5] (sR [qM 6 3,qM 7 3,qN 8 7,qB 9 .sub 8 (cI 1),qO 10 (.vsl 1 (.t 6) none (some (.t 9))),qM 2 10] .ret)))
def qgy:List IRes:=[.t 2]
theorem qkT:chkF Tryz.prog Tryz.f261 qgM qgy 11=true:=by kernel_rfl
def qgE:IC:=(sR [qO 2 (.mov (cI 0))] (sR [qM 3 0,qO 4 (.sln (.t 3)),qB 5 .gtr 4 (cI 20000),qO 6 (.call 50 [.t 5,.c (.int .i64 2)]),qM 7 0,qO 8 (.call 186 [.t 7]),qO 9 (.not (.t 8)),qO 10 (.call 50 [.t 9,.c (.int .i64 3)]),qO 11 (.bsl 1 [.t 6,.t 10]),qO 12 (.call 49 [.t 11]),qM 2 12] .ret))
def qgt:List IRes:=[.t 2]
theorem qkO:chkF Tryz.prog Tryz.f258 qgE qgt 13=true:=by kernel_rfl
def qdZ:IC:=(sR [qO 2 (.mov (.c (.bool false)))] (sR [qM 3 0,qB 4 .and 3 (.c (.int .u8 192)),qB 5 .neq 4 (.c (.int .u8 128)),qM 2 5] .ret))
def qdP:List IRes:=[.t 2]
theorem qit:chkF Tryz.prog Tryz.f263 qdZ qdP 6=true:=by kernel_rfl
section
variable {E:Envt}
theorem qnu (s:List UInt8) (c:UInt8) (hs:s.length≤1000000000):PCall Tryz.prog E 337 [.str s,.int .u8 (c.toNat:Nat)] (·=int (liF s c)):=
 qbA rfl rfl fun w _=>(Any.strings_LastIndexByte Tryz.layLastIndexByte ⟨s.toArray⟩ (c.toNat:Nat) (by rw [qhD];omega) w).mono fun e w' h=>⟨by rw [h.1];simp [valX,valD,liF],by rw [h.2];exact Grow.refl _ _⟩
theorem qB9 (s:List UInt8) (c:UInt8):-1≤liF s c∧liF s c < s.length∨s=[]∧liF s c=-1:=by
 rcases Lib.lastIndexByte_spec ⟨s.toArray⟩ (c.toNat:Nat) with ⟨h1,h2⟩|⟨i,h0,h1,h2,h3⟩
 ·by_cases h:s=[]
  ·exact .inr ⟨h,h1⟩
  ·have:=List.length_pos_iff.2 h
   refine .inl ?_
   rw [liF,h1];omega
 ·rw [qhD] at h0
  refine .inl ?_
  rw [liF,h1];omega
theorem qzY:∀ n:Fin 256,(!decide (bitA IntKind.u8 (((UInt8.ofNat n.val).toNat:Nat):Int) 192=128))=!ctB (UInt8.ofNat n.val):=by decide +kernel
theorem qrS (c:UInt8):PCall Tryz.prog E 263 [.int .u8 (c.toNat:Nat)] (·=.bool (!ctB c)):=by
 refine qae mixed Tryz.func263 qit ?_
 simp only [a0,l0,OS.ao,zk,zr,zi,zo,zl,zm,zu,zd,zh,zj,qdZ,qdP,ZZ,WW,Zd,reduceCtorEq,zd,ze,zb,zf,za]
 have:=qzY ⟨c.toNat,c.toNat_lt⟩
 simp only [UInt8.ofNat_toNat] at this
 rw [this]
end
def qcD (s:List UInt8):List (List UInt8)×Bool:=if s=[] then ([],true) else (splF (qhz s [10]).1 10,(qhz s [10]).2)
theorem quD (s p:List UInt8):(qhz s p).1.length≤s.length:=by
 unfold qhz
 split<;>simp
theorem qyG (s:List UInt8) (hs:s.length≤1000000000):PCall Tryz.prog E0 310 [.str s] (·=.tup [strs (qcD s).1,.bool (qcD s).2]):=by
 refine qae mixed Tryz.func310 qqf ?_
 simp only [a0,l0,OS.ao,zk,zr,zi,zo,zl,zm,zu,zd,zh,zj,qlZ,qlL,ZZ,WW,Zd,reduceCtorEq,zd,ze,zb,zf,za]
 refine br ?_ ?_
 ·intro h
  have h:s=[]:=by simpa using h
  refine zS ?_
  rw [qcD,if_pos h]
  rfl
 ·intro h
  have h:¬ s=[]:=by simpa using h
  refine zS ?_
  refine use1 (qr1 s [10] hs (by decide)) rfl (.inl rfl) ?_
  refine zS ?_
  refine use1 (qub (qhz s [10]).1 10 (by have:=quD s [10];omega)) rfl (.inl rfl) ?_
  refine zS ?_
  rw [qcD,if_neg h]
  rfl
theorem qzA (s:List UInt8) (c:UInt8):splF s c≠[]:=by
 have hl:=Lib.splitB_all ⟨#[c]⟩ (zM 1) 0 _ (⟨s.toArray⟩:ByteArray) rfl
 intro h
 have:=congrArg List.length h
 simp [splF,hl] at this
def qi6 (s:List UInt8):List (List UInt8):=(splF s 10).take ((splF s 10).length - 1)
theorem quy (s:List UInt8) (hs:s.length≤1000000000):PCall Tryz.prog E0 261 [.str s] (·=strs (qi6 s)):=by
 refine qae mixed Tryz.func261 qkT ?_
 simp only [a0,l0,OS.ao,zk,zr,zi,zo,zl,zm,zu,zd,zh,zj,qgM,qgy,ZZ,WW,Zd,reduceCtorEq,zd,ze,zb,zf,za]
 refine use1 (qub s 10 hs) rfl (.inl rfl) ?_
 rw [qpp]
 have h1:=qxg s 10
 have h2:=qzA s 10
 have h3:0 < (splF s 10).length:=List.length_pos_iff.2 h2
 have h4:(((splF s 10).length:Int) - 1).toNat=(splF s 10).length - 1:=by omega
 have h5:strs (qi6 s)=.sl 1 ((strE (splF s 10)).take ((splF s 10).length - 1)):=by rw [qpp,qi6,strE,List.map_take];rfl
 rw [h5]
 simp only [ZZ,WW,Zd,reduceCtorEq,zd,ze,zb,zf,za,qag,h4]
 exact ⟨qan (by omega) (by omega),by omega,by omega⟩
theorem qtJ {s:List UInt8} (h:qgR s=true):qi6 s=(qcD s).1:=by
 by_cases h0:s=[]
 ·subst h0
  rw [qcD,if_pos rfl,qi6,qnT]
  rfl
 ·have h1:sufE s [10]=true:=by
   simp only [qgR,h0,decide_false,Bool.false_or,zq] at h
   exact h.2
  have h2:=h1
  simp only [sufE,zq,decide_eq_true_eq,zi,zo] at h2
  have e:s=s.take (s.length - 1)++10 :: []:=by
   conv=>lhs;rw [← List.take_append_drop (s.length - 1) s]
   rw [h2.2]
  rw [qcD,if_neg h0]
  simp only [qhz,if_pos h1,zi,zo]
  rw [qi6,qnT,qnT]
  generalize ht:s.take (s.length - (0+1))=t
  rw [show s.length - (0+1)=s.length - 1 from rfl] at ht
  rw [ht] at e
  rw [e,qBw]
  simp [sp]
theorem qw5 (k:Nat) (a:SRow):wgt (a.take k)≤wgt a:=by
 conv=>rhs;rw [← List.take_append_drop k a]
 rw [qzm]
 omega
theorem qhi {s:List UInt8} (h:qgR s=true):wgt (qcD s).1≤s.length+1∧(qcD s).1.length≤s.length+1∧∀ x∈(qcD s).1,NcP x∧x.length≤s.length:=by
 rw [← qtJ h]
 have hv:Lib.validD s=true:=by
  have:=(Bool.and_eq_true_iff.1 h).1
  exact (Bool.and_eq_true_iff.1 this).2
 have hn:=qtH s.length s (zM _) hv
 have h1:=qw5 ((splF s 10).length - 1) (splF s 10)
 have h2:=qBu 10 s
 rw [← qnT] at h2
 have h3:=qzl (qi6 s)
 refine ⟨by unfold qi6;omega,by unfold qi6 at h3 ⊢;omega,fun x hx=>?_⟩
 have hx2:x∈splF s 10:=List.take_subset _ _ hx
 refine ⟨?_,qxf s 10 x hx2⟩
 rw [qnT] at hx2
 exact qDi hn x hx2
theorem qpF (s:List UInt8) (hs:s.length≤1000000000):PCall Tryz.prog E0 258 [.str s] (·=int (qwD s)):=by
 refine qae mixed Tryz.func258 qkO ?_
 simp only [a0,l0,OS.ao,zk,zr,zi,zo,zl,zm,zu,zd,zh,zj,qgE,qgt,ZZ,WW,Zd,reduceCtorEq,zd,ze,zb,zf,za]
 refine use1 (qav _ 2) rfl (.inl rfl) ?_
 refine zS ?_
 refine use1 (qsZ s hs) rfl (.inl rfl) ?_
 refine zS ?_
 refine use1 (qav _ 3) rfl (.inl rfl) ?_
 refine zS ?_
 refine use1 (qbK [qlR s,qah (!qgR s) 3] (by simp)) rfl (.inl rfl) ?_
 refine zS ?_
 unfold qwD qlR qah
 by_cases h1:20000 < s.length
 ·simp [qaf,h1,show (20000:Int) < s.length by omega]
 ·by_cases h2:qgR s=true
  ·simp [qaf,h1,h2,show ¬ (20000:Int) < s.length by omega]
  ·simp [qaf,h1,h2,show ¬ (20000:Int) < s.length by omega]
def pgIn (p:SRow) (k:Nat):Tab:=(zE ((k - 1) / 50)).map (pgF p)
def pgCu (p:SRow) (k:Nat):SRow:=(p.take k).drop ((k - 1) / 50 * 50)
theorem qpK {p:SRow} {k:Nat} (hk:k≤p.length):(pgCu p k).length=k - (k - 1) / 50 * 50:=by
 rw [pgCu,z8,zP,Nat.min_eq_left hk]
theorem qxD (p:SRow) (k:Nat):(pgIn p k).length=(k - 1) / 50:=by simp [pgIn]
theorem qnR {p:SRow} {k:Nat} {s:List UInt8} (h:p[k]?=some s):p.take (k+1)=p.take k++[s]:=by
 obtain ⟨hk,rfl⟩:=zt.1 h
 exact zy hk
theorem qBU {p:SRow} {s:List UInt8} (h:p[0]?=some s):pgIn p 1=[]∧pgCu p 1=[s]:=by
 refine ⟨rfl,?_⟩
 rw [pgCu,qnR h]
 rfl
theorem qAi {p:SRow} {k:Nat} {s:List UInt8} (hk:0 < k) (h50:(pgCu p k).length=50) (h:p[k]?=some s):pgIn p (k+1)=pgIn p k++[pgCu p k]∧pgCu p (k+1)=[s]:=by
 have hl:=(zt.1 h).1
 rw [qpK (by omega)] at h50
 have e:(k+1 - 1) / 50=(k - 1) / 50+1:=by omega
 have e2:((k - 1) / 50+1) * 50=k:=by omega
 refine ⟨?_,?_⟩
 ·rw [pgIn,e,List.range_succ,zO]
  congr 1
  rw [zk,zr,pgF,pgCu,List.drop_take,h50]
 ·rw [pgCu,e,e2,qnR h,List.drop_append_of_le_length (by rw [zP];omega)]
  rw [zU (by rw [zP];omega)]
  rfl
theorem qAh {p:SRow} {k:Nat} {s:List UInt8} (hk:0 < k) (h50:¬ (pgCu p k).length=50) (h:p[k]?=some s):pgIn p (k+1)=pgIn p k∧pgCu p (k+1)=pgCu p k++[s]:=by
 have hl:=(zt.1 h).1
 rw [qpK (by omega)] at h50
 have e:(k+1 - 1) / 50=(k - 1) / 50:=by omega
 refine ⟨by rw [pgIn,e];rfl,?_⟩
 rw [pgCu,e,qnR h,List.drop_append_of_le_length (by rw [zP];omega)]
 rfl
theorem qBV {p:SRow} (h:¬ p=[]):pgIn p p.length++[pgCu p p.length]=pgsF p:=by
 have hl:0 < p.length:=by have:=mt zA h;omega
 have e:(p.length+49) / 50=(p.length - 1) / 50+1:=by omega
 rw [pgsF,if_neg h,e,List.range_succ,zO]
 congr 1
 rw [zk,zr,pgCu,List.take_length,pgF,zC (by rw [z8];omega)]
theorem qAj {p:SRow} {k:Nat} (hk:k≤p.length):(pgCu p k).length≤50:=by
 rw [qpK hk];omega
def qg0 (x:Itm):List UInt8:=x.2.2.2.2.2.2
def pgR (il:List Itm) (l:List Rul) (s:Stp) (id:List UInt8):Tab:=
 if (rlOf l id).what=1 then pgsF (qfJ (qcD (qbU (qg0 (itOf il id)) (rlOf l id).spans)).1) else if (rlOf l id).what=2 then [[s.slip]] else [[s.skip]]
def kdR (l:List Rul) (id:List UInt8):Int:=if (rlOf l id).what=1 then 1 else if (rlOf l id).what=2 then 2 else 3
def shM (il:List Itm) (l:List Rul) (s:Stp) (n:Int) (p:List UInt8×List UInt8):Sht:=⟨p.2,p.1,kdR l p.2,n+1,n+(pgR il l s p.2).length,pgR il l s p.2,1⟩
def shsM (il:List Itm) (l:List Rul) (s:Stp):Int→List (List UInt8×List UInt8)→List Sht
 |_,[]=>[]
 |n,p :: r=>shM il l s n p :: shsM il l s (n+(pgR il l s p.2).length) r
def totM (il:List Itm) (l:List Rul) (s:Stp):List (List UInt8×List UInt8)→Int
 |[]=>0
 |p :: r=>(pgR il l s p.2).length+totM il l s r
theorem qnP (il:List Itm) (l:List Rul) (s:Stp):∀ (ps:List (List UInt8×List UInt8)) (p:List UInt8×List UInt8),totM il l s (ps++[p])=totM il l s ps+(pgR il l s p.2).length
 |[],p=>by simp [totM]
 |q :: r,p=>by
  rw [zl,totM,totM,qnP il l s r p]
  omega
theorem qmu (il:List Itm) (l:List Rul) (s:Stp):∀ ps:List (List UInt8×List UInt8),0≤totM il l s ps
 |[]=>Int.le_refl _
 |q :: r=>by
  have:=qmu il l s r
  rw [totM]
  omega
theorem qnU (il:List Itm) (l:List Rul) (s:Stp):∀ (n:Int) (ps:List (List UInt8×List UInt8)) (p:List UInt8×List UInt8),shsM il l s n (ps++[p])=shsM il l s n ps++[shM il l s (n+totM il l s ps) p]
 |n,[],p=>by simp [shsM,totM]
 |n,q :: r,p=>by
  rw [zl,shsM,shsM,qnU il l s _ r p,totM,zl,Int.add_assoc]
theorem qhJ (il:List Itm) (l:List Rul) (s:Stp):∀ (n:Int) (ps:List (List UInt8×List UInt8)),(shsM il l s n ps).length=ps.length
 |n,[]=>rfl
 |n,q :: r=>by rw [shsM,zi,zi,qhJ il l s _ r]
theorem qtq {il:List Itm} {l:List Rul} {s:Stp}:∀ {n:Int} {ps:List (List UInt8×List UInt8)} {x:Sht},x∈shsM il l s n ps→∃ p q,p++[q] <+: ps∧x=shM il l s (n+totM il l s p) q
 |n,[],x,h=>by simp [shsM] at h
 |n,q :: r,x,h=>by
  rw [shsM,zI] at h
  rcases h with rfl|h
  ·exact ⟨[],q,⟨r,rfl⟩,by simp [totM]⟩
  ·obtain ⟨p,q2,⟨t,ht⟩,rfl⟩:=qtq h
   refine ⟨q :: p,q2,⟨t,by rw [← ht];rfl⟩,?_⟩
   rw [totM,Int.add_assoc]
def famP (il:List Itm) (t:List UInt8):List (List UInt8×List UInt8):=(t :: kidsF il t).map fun i=>(t,i)
def prsM (il:List Itm) (l:List Rul) (ord:Int):List (List UInt8×List UInt8):=(chS il l ord).flatMap (famP il)
def pagT (past:List Prd) (pre:List UInt8):List Int:=past.flatMap fun q=>if q.pre=pre then q.shs.map (·.to_) else []
def qoG (past:List Prd) (pre:List UInt8):Int:=(pagT past pre).foldl max 0
theorem qrv (l:List Int) (x n:Int):(l++[x]).foldl max n=max (l.foldl max n) x:=by rw [List.foldl_append];rfl
theorem qwh {B:Int}:∀ (l:List Int) (n:Int),0≤n→n≤B→(∀ x∈l,x≤B)→0≤l.foldl max n∧l.foldl max n≤B
 |[],n,h0,h1,_=>⟨h0,h1⟩
 |x :: r,n,h0,h1,h=>by
  have h2:=h x (by simp)
  exact qwh r (max n x) (by omega) (by omega) fun y hy=>h y (by simp [hy])
def idsT (past:List Prd):List (List UInt8):=past.flatMap fun q=>q.shs.map (·.id)
theorem qtP (past:List Prd) (s:List UInt8):decide (s∈idsT past)=qjI past s:=by
 unfold idsT qjI
 rw [yq,decide_eq_true_eq,List.mem_flatMap,List.any_eq_true]
 constructor
 ·rintro ⟨q,hq,h⟩
  obtain ⟨y,hy,rfl⟩:=zN.1 h
  exact ⟨q,hq,List.any_eq_true.2 ⟨y,hy,by simp⟩⟩
 ·rintro ⟨q,hq,h⟩
  obtain ⟨y,hy,e⟩:=List.any_eq_true.1 h
  exact ⟨q,hq,zN.2 ⟨y,hy,by simpa using e⟩⟩
def pmA (il:List Itm) (l:List Rul) (s:Stp) (past:List Prd):Int:=qaf [rulF il l,setF s,pdsF past]
def pmB (il:List Itm) (l:List Rul) (s:Stp) (past:List Prd):Int:=
 if ((prsM il l s.ord).any fun p=>qjI past p.2)=true then 6 else if prsM il l s.ord=[] then 8 else if s.most < totM il l s (prsM il l s.ord) then 2
 else if powF s.dig≤qoG past s.pre+totM il l s (prsM il l s.ord) then 12 else 0
def pmE (il:List Itm) (l:List Rul) (s:Stp) (past:List Prd):Int:=
 if pmA il l s past=0 then (if past.length=200 then 12 else pmB il l s past) else pmA il l s past
def pmP (il:List Itm) (l:List Rul) (s:Stp) (past:List Prd):Prd:=
 if pmE il l s past=0 then ⟨(past.length:Nat)+1,s.pre,s.dig,shsM il l s (qoG past s.pre) (prsM il l s.ord)⟩ else pd0
structure ShB (x:Sht):Prop where
 id:x.id.length≤1000
 top:x.top.length≤1000
 kind:-1000≤x.kind∧x.kind≤1000
 fr_:-100000000000≤x.fr_∧x.fr_≤100000000000
 to_:-100000000000≤x.to_∧x.to_≤100000000000
 pages:x.pages.length≤100000
 page:∀ p∈x.pages,p.length≤1000000∧∀ z∈p,z.length≤1000000
 ver:-1000000≤x.ver∧x.ver≤1000000
structure PdB (p:Prd):Prop where
 no:-1000000≤p.no∧p.no≤1000000
 pre:p.pre.length≤1000
 dig:-1000≤p.dig∧p.dig≤1000
 shs:p.shs.length≤1000
 all:∀ x∈p.shs,ShB x
theorem qCI:PdB pd0:=⟨by decide,by decide,by decide,by decide,fun x hx=>by cases hx⟩
theorem qCH:ShB sh0:=⟨by decide,by decide,by decide,by decide,by decide,by decide,(fun p hp=>by cases hp),by decide⟩
theorem qo2 {past:List Prd} (h:pdsF past=0):∀ q∈past,∀ x∈q.shs,1≤x.fr_∧x.fr_≤x.to_∧x.to_≤1000000000:=by
 intro q hq x hx
 have h2:qaf ((zE past.length).map (pdsA past))=0:=by
  unfold pdsF at h
  split at h
  ·cases h
  ·exact h
 obtain ⟨j,hj⟩:=zR hq
 have hjl:=(zt.1 hj).1
 have h3:=qax h2 _ (zN.2 ⟨j,List.mem_range.2 hjl,rfl⟩)
 have h4:=qn6 h3
 have e:past.getD j pd0=q:=by simp [zD,hj]
 rw [e] at h4
 obtain ⟨_,_,hh,h5⟩:=qpG h4
 obtain ⟨k,hk⟩:=zR hx
 have h6:=qkC h5 k (zt.1 hk).1
 have e2:q.shs.getD k sh0=x:=by simp [zD,hk]
 rw [e2] at h6
 have hd:q.dig≤9:=by
  unfold qfC at hh
  have:=qax hh (qah (!inE q.dig 4 9) 1) (by simp)
  rw [qiD (by decide)] at this
  simp only [Bool.not_eq_false',inE,zq,decide_eq_true_eq,Bool.not_eq_true',decide_eq_false_iff_not] at this
  omega
 have:=(qmz hd).2
 omega
theorem qnD {past:List Prd} (h:∀ q∈past,∀ x∈q.shs,x.to_≤1000000000) (pre:List UInt8):0≤qoG past pre∧qoG past pre≤1000000000:=by
 refine qwh _ 0 (by omega) (by omega) fun x hx=>?_
 obtain ⟨q,hq,hx⟩:=List.mem_flatMap.1 hx
 split at hx
 ·obtain ⟨y,hy,rfl⟩:=zN.1 hx
  exact h q hq y hy
 ·cases hx
theorem qtQ {il:List Itm} {id:List UInt8} {x:Itm} (h:getI il id=some x):x∈il∧x.1=id:=by
 unfold getI at h
 exact ⟨List.mem_of_find?_eq_some h,by simpa using List.find?_some h⟩
theorem quV {il:List Itm} (hP:qaP il) (id:List UInt8):(qg0 (itOf il id)).length≤600∧okTx (qg0 (itOf il id))=true∧(qg0 (itOf il id)=[]∨sufE (qg0 (itOf il id)) [10]=true):=by
 unfold itOf
 cases h:getI il id with
 |none=>exact ⟨by decide,rfl,.inl rfl⟩
 |some x=>
  obtain ⟨hm,_⟩:=qtQ h
  obtain ⟨i,hi⟩:=zR hm
  exact (hP.2 i x hi).b7
theorem qsn {il:List Itm} (hP:qaP il) (id:List UInt8) (l:List (Int×Int)):(qbU (qg0 (itOf il id)) l).length≤600∧qgR (qbU (qg0 (itOf il id)) l)=true:=by
 obtain ⟨h1,h2,h3⟩:=quV hP id
 refine ⟨by rw [qum];exact h1,?_⟩
 unfold qgR
 rw [qnA _ _ (zM _) (qvm h2),ye,z6,decide_eq_true_eq]
 exact qul h3
theorem qr7:∀ (n:Nat) (l:List UInt8),∀ x∈wrF n l,x.length≤l.length
 |0,l=>by simp [wrF]
 |n+1,l=>by
  rw [wrF]
  split
  ·split
   ·intro x hx
    rcases zI.1 hx with rfl|hx
    ·simp;omega
    ·have:=qr7 n _ x hx
     simp at this;omega
   ·intro x hx
    rcases zI.1 hx with rfl|hx
    ·simp;omega
    ·have:=qr7 n _ x hx
     simp at this;omega
  ·simp
theorem qvz (L:SRow):0 < (pgsF L).length∧(pgsF L).length≤L.length+1∧∀ r∈pgsF L,r.length≤50∧∀ z∈r,z∈L:=by
 unfold pgsF
 split
 ·exact ⟨by simp,by simp,by simp⟩
 ·rename_i hne
  have:=List.length_pos_iff.2 hne
  refine ⟨by rw [zB,List.length_range];omega,by rw [zB,List.length_range];omega,fun r hr=>?_⟩
  obtain ⟨k,_,rfl⟩:=zN.1 hr
  rw [pgF]
  exact ⟨by rw [zP];omega,fun z hz=>List.mem_of_mem_drop (List.mem_of_mem_take hz)⟩
theorem qtB {il:List Itm} (hP:qaP il) (l:List Rul) {s:Stp} (hs:StB s) (id:List UInt8):0 < (pgR il l s id).length∧(pgR il l s id).length≤1000∧∀ p∈pgR il l s id,p.length≤1000∧∀ z∈p,z.length≤1000:=by
 unfold pgR
 split
 ·obtain ⟨h1,h2⟩:=qsn hP id (rlOf l id).spans
  generalize qbU (qg0 (itOf il id)) (rlOf l id).spans=t at h1 h2 ⊢
  obtain ⟨f1,f2,f3⟩:=qhi h2
  have w1:=qjQ (qcD t).1
  obtain ⟨g1,g2,g3⟩:=qvz (qfJ (qcD t).1)
  refine ⟨g1,by omega,fun p hp=>⟨by have:=(g3 p hp).1;omega,fun z hz=>?_⟩⟩
  obtain ⟨x,hx,hz2⟩:=List.mem_flatMap.1 ((g3 p hp).2 z hz)
  have:=qr7 x.length x z hz2
  have:=(f3 x hx).2
  omega
 ·split
  ·refine ⟨by simp,by simp,fun p hp=>?_⟩
   rw [zF] at hp
   subst hp
   exact ⟨by simp,fun z hz=>by rw [zF] at hz;subst hz;exact hs.b2⟩
  ·refine ⟨by simp,by simp,fun p hp=>?_⟩
   rw [zF] at hp
   subst hp
   exact ⟨by simp,fun z hz=>by rw [zF] at hz;subst hz;exact hs.b3⟩
theorem qmv {il:List Itm} (hP:qaP il) (l:List Rul) {s:Stp} (hs:StB s):∀ ps:List (List UInt8×List UInt8),totM il l s ps≤1000 * (ps.length:Nat)
 |[]=>by simp [totM]
 |q :: r=>by
  have h1:=qmv hP l hs r
  have h2:=(qtB hP l hs q.2).2.1
  rw [totM,zi]
  omega
theorem qp9 (il:List Itm) (t:List UInt8):(famP il t).length≤il.length+1:=by
 have:=qbF il t
 simp [famP]
 omega
theorem qqk (il:List Itm) (l:List Rul) (order:Int):(chS il l order).length≤il.length:=by
 unfold chS
 rw [List.length_mergeSort]
 exact zT (List.length_filter_le _ _) (qbF il [])
theorem ql6 {α β:Type} (f:α→List β) (m:Nat):∀ l:List α,(∀ x∈l,(f x).length≤m)→(l.flatMap f).length≤l.length * m
 |[],_=>by simp
 |x :: r,h=>by
  have h1:=ql6 f m r fun y hy=>h y (by simp [hy])
  have h2:=h x (by simp)
  rw [List.flatMap_cons,zK,zi,Nat.succ_mul]
  omega
theorem qny {il:List Itm} (hil:il.length≤20) (l:List Rul) (ord:Int):(prsM il l ord).length≤420:=by
 have h1:=ql6 (famP il) 21 (chS il l ord) fun x _=>zT (qp9 il x) (by omega)
 have h2:=qqk il l ord
 have h3:(chS il l ord).length * 21≤20 * 21:=Nat.mul_le_mul_right 21 (by omega)
 unfold prsM
 omega
theorem qv0 {il:List Itm} (hP:qaP il) {s i:List UInt8} (h:i∈kidsF il s):i.length≤2:=by
 unfold kidsF at h
 obtain ⟨x,hx,rfl⟩:=zN.1 h
 have hx:=(yj.1 hx).1
 obtain ⟨j,hj⟩:=zR hx
 rw [(hP.2 j x hj).b1]
 simp [pid]
theorem qz8 {il:List Itm} (hP:qaP il) {l:List Rul} {ord:Int} {p:List UInt8×List UInt8} (h:p∈prsM il l ord):p.1.length≤2∧p.2.length≤2:=by
 obtain ⟨t,ht,hp⟩:=List.mem_flatMap.1 h
 have h1:t.length≤2:=by
  unfold chS at ht
  rw [List.mem_mergeSort] at ht
  exact qv0 hP (yj.1 ht).1
 obtain ⟨i,hi,rfl⟩:=zN.1 hp
 rcases zI.1 hi with rfl|hi
 ·exact ⟨h1,h1⟩
 ·exact ⟨h1,qv0 hP hi⟩
theorem qup {α:Type} {p:List α} {q:α} {ps:List α} (h:p++[q] <+: ps):q∈ps∧p.length≤ps.length:=by
 obtain ⟨t,rfl⟩:=h
 exact ⟨by simp,by simp⟩
structure ShS (x:Sht):Prop where
 fr_:-10000000000≤x.fr_∧x.fr_≤10000000000
 to_:-10000000000≤x.to_∧x.to_≤10000000000
 pages:0 < x.pages.length∧x.pages.length≤1000
 page:∀ p∈x.pages,p.length≤1000
theorem qBz {il:List Itm} (hP:qaP il) (l:List Rul) {s:Stp} (hs:StB s) {n:Int} (h0:0≤n) (hn:n≤1000000000) (ord:Int):∀ x∈shsM il l s n (prsM il l ord),ShB x∧ShS x:=by
 intro x hx
 obtain ⟨p,q,hpre,rfl⟩:=qtq hx
 obtain ⟨hq,hpl⟩:=qup hpre
 obtain ⟨i1,i2⟩:=qz8 hP hq
 obtain ⟨g1,g2,g3⟩:=qtB hP l hs q.2
 have t1:=qmv hP l hs p
 have t2:=qmu il l s p
 have t3:=qny hP.1 l ord
 have hk:1≤kdR l q.2∧kdR l q.2≤3:=by
  unfold kdR
  split
  ·omega
  ·split<;>omega
 refine ⟨⟨by show q.2.length≤1000;omega,by show q.1.length≤1000;omega,by show -1000≤kdR l q.2∧kdR l q.2≤1000;omega,?_,?_,by show (pgR il l s q.2).length≤100000;omega,fun p hp=>?_,by show (-1000000:Int)≤1∧(1:Int)≤1000000;omega⟩,⟨?_,?_,⟨g1,g2⟩,fun p hp=>(g3 p hp).1⟩⟩
 ·show -100000000000≤n+totM il l s p+1∧n+totM il l s p+1≤100000000000
  omega
 ·show -100000000000≤n+totM il l s p+(pgR il l s q.2).length∧n+totM il l s p+(pgR il l s q.2).length≤100000000000
  omega
 ·obtain ⟨a,b⟩:=g3 p hp
  exact ⟨by omega,fun z hz=>by have:=b z hz;omega⟩
 ·show -10000000000≤n+totM il l s p+1∧n+totM il l s p+1≤10000000000
  omega
 ·show -10000000000≤n+totM il l s p+(pgR il l s q.2).length∧n+totM il l s p+(pgR il l s q.2).length≤10000000000
  omega
def PgP (p:Prd):Prop:=∀ x∈p.shs,ShS x
theorem qBR {il:List Itm} (hP:qaP il) (l:List Rul) {s:Stp} (hs:StB s) (hd:-1000≤s.dig∧s.dig≤1000) {past:List Prd} (hpl:past.length≤1000):PdB (pmP il l s past)∧PgP (pmP il l s past):=by
 unfold pmP
 split
 ·rename_i h
  have hA:pmA il l s past=0:=by
   unfold pmE at h
   split at h
   ·rename_i h1;exact h1
   ·exact h
  have hp:pdsF past=0:=qax hA _ (by simp)
  obtain ⟨b1,b2⟩:=qnD (fun q hq x hx=>(qo2 hp q hq x hx).2.2) s.pre
  have hB:=qBz hP l hs b1 b2 s.ord
  have h3:=qny hP.1 l s.ord
  refine ⟨⟨by show -1000000≤((past.length:Nat):Int)+1∧((past.length:Nat):Int)+1≤1000000;omega,hs.b1,hd,by show (shsM il l s _ _).length≤1000;rw [qhJ];omega,fun x hx=>(hB x hx).1⟩,fun x hx=>(hB x hx).2⟩
 ·exact ⟨qCI,fun x hx=>by cases hx⟩
end Go.Proofs.YtehfjlpenlffmaaGreatDoor
