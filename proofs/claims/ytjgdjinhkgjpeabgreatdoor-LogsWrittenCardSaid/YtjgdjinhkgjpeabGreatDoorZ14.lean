import Derived.Test.YtjgdjinhkgjpeabGreatDoorZ13
import Derived.Test.YtjgdjinhkgjpeabGreatDoorLayBitsLen
set_option linter.unusedVariables false
set_option linter.unusedSimpArgs false
set_option linter.defProp false
namespace Go.Proofs.YtjgdjinhkgjpeabGreatDoor
open Nat renaming reduceAdd→zd,reduceEqDiff→zb,reduceLT→zf,reduceLeDiff→za,reduceMul→ze
open List renaming length_map→zN
open Go.RowKit
def qaL:IC:=(.seq (.seq (.drg [qM 18 9,qM 19 1,qT 20 .gtr 18 19,qM 21 20,⟨some 22,.mov (.t 3),(some (21,true))⟩,⟨some 23,.mov (.t 0),(some (21,true))⟩,⟨some 24,.mov (.t 9),(some (21,true))⟩,⟨some 25,.ixa 9 (.t 23) (.t 24),(some (21,true))⟩,⟨some 26,.ld 9 true (.t 25),(some (21,true))⟩,⟨some 27,.mov (.t 0),(some (21,true))⟩,⟨some 28,.mov (.t 9),(some (21,true))⟩,⟨some 29,.bin .sub (.t 28) (cI 1),(some (21,true))⟩,⟨some 30,.ixa 9 (.t 27) (.t 29),(some (21,true))⟩,⟨some 31,.ld 9 true (.t 30),(some (21,true))⟩,⟨some 32,.callv (.t 22) [.t 26,.t 31],(some (21,true))⟩,⟨some 33,.bin .lss (.t 32) (cI 0),(some (21,true))⟩,qO 34 (.pick (.t 21) (.t 33) (.c (.bool false)))]) (.cond (.t 34) .skip (.exit 2))) (.seq (.block 3 (.drg [qM 37 0,qM 38 9,qM 39 0,qM 40 9,qB 41 .sub 40 (cI 1),qM 42 0,qM 43 9,qB 44 .sub 43 (cI 1),qX 45 9 42 44,qO 46 (.ld 9 true (.t 45)),qM 47 0,qM 48 9,qX 49 9 47 48,qO 50 (.ld 9 true (.t 49)),qX 51 9 37 38,qS 9 51 46,qX 52 9 39 41,qS 9 52 50])) (.reg [qM 35 9,qB 36 .sub 35 (cI 1),qM 9 36])))
def qaM:IC:=(.seq (sR [qM 12 8,qM 13 2,qT 14 .lss 12 13] (jE 14)) (.seq (.block 1 (sR [qM 17 8,qM 9 17] (.block 2 (.loop qaL)))) (.reg [qM 15 8,qB 16 .add 15 (cI 1),qM 8 16])))
def qaS:IC:=(sR [qM 10 1,qB 11 .add 10 (cI 1),qM 8 11] (.block 0 (.loop qaM)))
theorem qbH:chkF Tryz.prog Tryz.f136 qaS [] 53=true:=by kernel_rfl
def qaZ:IC:=(.block 1 (sR [qM 21 2,qM 22 1,qT 23 .sub 21 22,qM 12 23] (.seq (sR [qM 24 12,qB 25 .leq 24 (cI 12)] (jW 25 (sR [qM 26 0,qM 27 1,qM 28 2,qM 29 4,jC 30 136 [.t 26,.t 27,.t 28,.t 29]] .ret))) (.seq (sR [qM 31 3,qB 32 .eql 31 (cI 0)] (jW 32 (sR [qM 33 0,qM 34 1,qM 35 2,qM 36 4,jC 37 137 [.t 33,.t 34,.t 35,.t 36]] .ret))) (.seq (sR [qM 38 10,qO 39 (.not (.t 38))] (jW 39 (sR [qM 40 0,qM 41 1,qM 42 2,qM 43 4,jC 44 138 [.t 40,.t 41,.t 42,.t 43]] (.reg [qM 45 3,qB 46 .sub 45 (cI 1),qM 3 46])))) (.cut (sR [qM 48 0,qM 49 1,qM 50 2,qM 51 4,jC 52 139 [.t 48,.t 49,.t 50,.t 51],qM 47 52,qO 53 (.ext 0 (.t 47)),qO 54 (.ext 1 (.t 47)),qM 13 53,qM 14 54] (.seq (sR [qM 55 14,qB 56 .eql 55 (cI 2)] (jW 56 (sR [qM 57 0,qM 58 1,qM 59 2,qM 60 4,jC 61 140 [.t 57,.t 58,.t 59,.t 60]] (sR [qM 62 2,qB 63 .sub 62 (cI 1),qM 64 13,qM 65 1,qT 66 .sub 64 65,qT 67 .sub 63 66,qM 13 67] (.reg [jI 14 1]))))) (.cut (.seq (sR [qM 68 10,qM 69 68,⟨some 70,.mov (.t 11),(some (69,true))⟩,qO 71 (.pick (.t 69) (.t 70) (.c (.bool false))),qM 72 71,⟨some 73,.mov (.t 14),(some (72,true))⟩,⟨some 74,.bin .eql (.t 73) (cI 1),(some (72,true))⟩,qO 75 (.pick (.t 72) (.t 74) (.c (.bool false)))] (jW 75 (sR [qM 76 0,qM 77 1,qM 78 2,qM 79 4,jC 80 141 [.t 76,.t 77,.t 78,.t 79]] (jW 80 .ret)))) (.cut (.seq (.seq (.drg [qM 81 1,qB 82 .gtr 81 (cI 0),qM 83 82,⟨some 84,.mov (.t 4),(some (83,true))⟩,⟨some 85,.mov (.t 0),(some (83,true))⟩,⟨some 86,.mov (.t 1),(some (83,true))⟩,⟨some 87,.bin .sub (.t 86) (cI 1),(some (83,true))⟩,⟨some 88,.ixa 9 (.t 85) (.t 87),(some (83,true))⟩,⟨some 89,.ld 9 true (.t 88),(some (83,true))⟩,⟨some 90,.mov (.t 0),(some (83,true))⟩,⟨some 91,.mov (.t 13),(some (83,true))⟩,⟨some 92,.ixa 9 (.t 90) (.t 91),(some (83,true))⟩,⟨some 93,.ld 9 true (.t 92),(some (83,true))⟩,⟨some 94,.callv (.t 84) [.t 89,.t 93],(some (83,true))⟩,⟨some 95,.bin .lss (.t 94) (cI 0),(some (83,true))⟩,⟨some 96,.not (.t 95),(some (83,true))⟩,qO 97 (.pick (.t 83) (.t 96) (.c (.bool false)))]) (jW 97 (sR [qM 98 0,qM 99 1,qM 100 2,qM 101 13,qM 102 4,jC 103 142 [.t 98,.t 99,.t 100,.t 101,.t 102],qM 15 103] (sR [qM 104 15,qM 1 104] (.exit 1))))) (sR [qM 106 0,qM 107 1,qM 108 2,qM 109 13,qM 110 4,jC 111 143 [.t 106,.t 107,.t 108,.t 109,.t 110],qM 105 111,qO 112 (.ext 0 (.t 105)),qO 113 (.ext 1 (.t 105)),qM 16 112,qM 17 113] (sR [qM 114 17,qM 11 114] (sR [qM 115 16,qM 116 1,qT 117 .sub 115 116,qM 118 2,qM 119 16,qT 120 .sub 118 119,qM 18 117,qM 19 120] (sR [qM 121 12,qB 122 .quo 121 (cI 8),qM 20 122] (sR [qM 123 18,qM 124 19,qT 125 .lss 123 124] (.cond (.t 125) (sR [qM 126 18,qM 127 20,qT 128 .geq 126 127,qM 10 128] (sR [qM 129 0,qM 130 1,qM 131 16,qM 132 3,qM 133 4,jC 134 85 [.t 129,.t 130,.t 131,.t 132,.t 133]] (.reg [qM 135 16,qB 136 .add 135 (cI 1),qM 1 136]))) (sR [qM 137 19,qM 138 20,qT 139 .geq 137 138,qM 10 139] (sR [qM 140 0,qM 141 16,qB 142 .add 141 (cI 1),qM 143 2,qM 144 3,qM 145 4,jC 146 85 [.t 140,.t 142,.t 143,.t 144,.t 145]] (.reg [qM 147 16,qM 2 147])))))))))))))))))))))
def qa8:IC:=(sR [qO 10 (.mov (.c (.bool true)))] (sR [qO 11 (.mov (.c (.bool true)))] (.block 0 (.loop qaZ))))
theorem qcN:chkF Tryz.prog Tryz.f85 qa8 [] 148=true:=by kernel_rfl
def qa0:IC:=(sR [qM 5 0,qN 6 5,qM 4 6] (.reg [qM 7 0,qM 8 4,qM 9 4,qO 10 (.cvi .u64 (.t 9)),jC 11 86 [.t 10],qM 12 1,jC 13 85 [.t 7,.c (.int .i64 0),.t 8,.t 11,.t 12]]))
theorem qb9:chkF Tryz.prog Tryz.f50 qa0 [] 14=true:=by kernel_rfl
abbrev qiU:Nat:=103
theorem ql2:∀ (ps:List PV) (L:Objs),Zl L (ps.map .p)=true
 |[],_=>rfl
 |_ :: r,L=>ql2 r L
section
variable {E:Envt}
theorem qnx (x:Int) (h0:0≤x) (h1:x≤18446744073709551615):PCall Tryz.prog E 86 [.int .u64 x] (·=int (Lib.bitLen x.toNat:Nat)):=
 qbK rfl rfl fun w _=>(Any.bits_Len Tryz.layBitsLen x w h0 h1).mono fun e w' h=>⟨h.1,by rw [h.2];exact Grow.refl _ _⟩
set_option maxHeartbeats 2000000 in
theorem qnc {α:Type} (f0:α→List UInt8) (f1:α→Int) (f2:α→List UInt8) (f3:α→List UInt8) (f4:α→List (List PV)) (f5:α→List (List PV)) (f6:α→List (List PV)) (f7:α→List UInt8) (f8:α→List UInt8) (cf:α→α→Int) (hO:OrdP (ltC cf)) (g:FuncId) (ps:List PV) (hg:Unit→fnB Tryz.prog g=true) (l:List α) (hl:l.length≤12) (hc:∀ x∈l,∀ y∈l,PCall Tryz.prog E g (.agg [.str (f0 x),int (f1 x),.str (f2 x),.str (f3 x),.sl 2 (f4 x),.sl 2 (f5 x),.sl 1 (f6 x),.str (f7 x),.str (f8 x)] :: .agg [.str (f0 y),int (f1 y),.str (f2 y),.str (f3 y),.sl 2 (f4 y),.sl 2 (f5 y),.sl 1 (f6 y),.str (f7 y),.str (f8 y)] :: ps) (·=int (cf x y)))
  (hn:∀ x y,Zbh [] (.p (.agg [.str (f0 x),int (f1 x),.str (f2 x),.str (f3 x),.sl 2 (f4 x),.sl 2 (f5 x),.sl 1 (f6 x),.str (f7 x),.str (f8 x)]) :: .p (.agg [.str (f0 y),int (f1 y),.str (f2 y),.str (f3 y),.sl 2 (f4 y),.sl 2 (f5 y),.sl 1 (f6 y),.str (f7 y),.str (f8 y)]) :: ps.map .p)=some (.agg [.str (f0 x),int (f1 x),.str (f2 x),.str (f3 x),.sl 2 (f4 x),.sl 2 (f5 x),.sl 1 (f6 x),.str (f7 x),.str (f8 x)] :: .agg [.str (f0 y),int (f1 y),.str (f2 y),.str (f3 y),.sl 2 (f4 y),.sl 2 (f5 y),.sl 1 (f6 y),.str (f7 y),.str (f8 y)] :: ps)) (hr:∀ x y,Zbj (.p (.agg [.str (f0 x),int (f1 x),.str (f2 x),.str (f3 x),.sl 2 (f4 x),.sl 2 (f5 x),.sl 1 (f6 x),.str (f7 x),.str (f8 x)]) :: .p (.agg [.str (f0 y),int (f1 y),.str (f2 y),.str (f3 y),.sl 2 (f4 y),.sl 2 (f5 y),.sl 1 (f6 y),.str (f7 y),.str (f8 y)]) :: ps.map .p)=true):RCall Tryz.prog E 136 qiU 9 (l.map (fun x=>([.str (f0 x),int (f1 x),.str (f2 x),.str (f3 x),.sl 2 (f4 x),.sl 2 (f5 x),.sl 1 (f6 x),.str (f7 x),.str (f8 x)]:List PV))) [int 0,int (l.length:Nat),.clo g ps] (fun x es'=>x=.tup []∧∃ l':List α,es'=l'.map (fun x=>([.str (f0 x),int (f1 x),.str (f2 x),.str (f3 x),.sl 2 (f4 x),.sl 2 (f5 x),.sl 1 (f6 x),.str (f7 x),.str (f8 x)]:List PV))∧l'.Perm l∧SrtP (ltC cf) l'):=by
 unfold RCall
 refine qff mixed Tryz.func136 qbH ?_
 simp only [a0,l0,OS.ao,XX,Nat.reduceSub,zN,qaS,ZZ,WW,Ze,reduceCtorEq,zd,ze,za,zf,zb]
 ((with_reducible and_intros)<;>try exact sc_)
 rw [show l.map (fun x=>([.str (f0 x),int (f1 x),.str (f2 x),.str (f3 x),.sl 2 (f4 x),.sl 2 (f5 x),.sl 1 (f6 x),.str (f7 x),.str (f8 x)]:List PV))=(l.take 1++l.drop 1).map (fun x=>([.str (f0 x),int (f1 x),.str (f2 x),.str (f3 x),.sl 2 (f4 x),.sl 2 (f5 x),.sl 1 (f6 x),.str (f7 x),.str (f8 x)]:List PV)) from by rw [List.take_append_drop]]
 refine qad (fun n fr L=>∃ (i:Nat) (P:List α) (C:List α),l.length - i=n∧(1≤i)∧(P.length=i∨l.length=0)∧((P++C).Perm l)∧(SrtP (ltC cf) P)∧fr=(.row (.b 0)::.p (int 0)::.p (int (l.length:Nat))::.p (.clo g ps)::oo::oo::oo::oo::.p (int (i:Nat))::oF (oD (oC [])))∧L=[(.b 0,.row ((P++C).map (fun x=>([.str (f0 x),int (f1 x),.str (f2 x),.str (f3 x),.sl 2 (f4 x),.sl 2 (f5 x),.sl 1 (f6 x),.str (f7 x),.str (f8 x)]:List PV))) qiU 9 true)]) (l.length - 1) (.row (.b 0)::.p (int 0)::.p (int (l.length:Nat))::.p (.clo g ps)::oo::oo::oo::oo::.p (int (1:Nat))::oF (oD (oC []))) [(.b 0,.row (((l.take 1)++(l.drop 1)).map (fun x=>([.str (f0 x),int (f1 x),.str (f2 x),.str (f3 x),.sl 2 (f4 x),.sl 2 (f5 x),.sl 1 (f6 x),.str (f7 x),.str (f8 x)]:List PV))) qiU 9 true)] zF_ zF_ ⟨1,l.take 1,l.drop 1,rfl,by omega,by rw [List.length_take];omega,by rw [List.take_append_drop],by cases l with|nil=>exact List.Pairwise.nil|cons x r=>simp [SrtP],rfl,rfl⟩ ?_
 rintro n fr L ⟨i,P,C,rfl,hi,hP,hp,hs,rfl,rfl⟩
 simp only [qaM,ZZ,WW,Ze,reduceCtorEq,zd,ze,za,zf,zb]
 have hpl:P.length+C.length=l.length:=by rw [← List.length_append,hp.length_eq]
 refine br ?_ ?_
 rotate_left
 ·intro h
  have hge:l.length≤i:=by have:=of_decide_eq_false h;omega
  have hC:C=[]:=List.eq_nil_of_length_eq_zero (by omega)
  subst hC
  rw [List.append_nil] at hp ⊢
  refine zS ?_
  exact qwk _ rfl ⟨rfl,P,rfl,hp,hs⟩
 intro h
 have hlt:i < l.length:=by have:=of_decide_eq_true h;omega
 have hP:P.length=i:=by omega
 obtain ⟨x,R,rfl⟩:∃ x R,C=x :: R:=by
  cases C with
  |nil=>simp at hpl;omega
  |cons x R=>exact ⟨x,R,rfl⟩
 have hxl:x∈l:=hp.mem_iff.1 (by simp)
 refine zS ?_
 refine qad (fun n fr L=>∃ (j:Nat) (A:List α) (B:List α),j=n∧(A.length=j)∧(j+B.length=i)∧(SrtP (ltC cf) (A++B))∧(∀ b∈B,ltC cf x b=true)∧((A++x :: (B++R)).Perm l)∧fr=(.row (.b 0)::.p (int 0)::.p (int (l.length:Nat))::.p (.clo g ps)::oo::oo::oo::oo::.p (int (i:Nat))::.p (int (j:Nat))::oF (oD (oB (oo::[]))))∧L=[(.b 0,.row ((A++x :: (B++R)).map (fun x=>([.str (f0 x),int (f1 x),.str (f2 x),.str (f3 x),.sl 2 (f4 x),.sl 2 (f5 x),.sl 1 (f6 x),.str (f7 x),.str (f8 x)]:List PV))) qiU 9 true)]) (i) (.row (.b 0)::.p (int 0)::.p (int (l.length:Nat))::.p (.clo g ps)::oo::oo::oo::oo::.p (int (i:Nat))::.p (int (i:Nat))::oF (oD (oB (oo::[])))) [(.b 0,.row ((P++x :: ([]++R)).map (fun x=>([.str (f0 x),int (f1 x),.str (f2 x),.str (f3 x),.sl 2 (f4 x),.sl 2 (f5 x),.sl 1 (f6 x),.str (f7 x),.str (f8 x)]:List PV))) qiU 9 true)] zF_ zF_ ⟨i,P,[],rfl,hP,by simp,by rw [List.append_nil];exact hs,(fun b hb=>by cases hb),hp,rfl,rfl⟩ ?_
 rintro n fr L ⟨j,A,B,rfl,hj,hji,hsb,hb,hpb,rfl,rfl⟩
 simp only [qaL,ZZ,WW,Ze,reduceCtorEq,zd,ze,za,zf,zb]
 have hWl:((A++x :: (B++R)).map (fun x=>([.str (f0 x),int (f1 x),.str (f2 x),.str (f3 x),.sl 2 (f4 x),.sl 2 (f5 x),.sl 1 (f6 x),.str (f7 x),.str (f8 x)]:List PV))).length=l.length:=by rw [zN,hpb.length_eq]
 rcases List.eq_nil_or_concat A with rfl|⟨A',y,hAy⟩
 ·simp only [List.length_nil] at hj
  subst hj
  generalize hW:(([]:List α)++x :: (B++R)).map (fun x=>([.str (f0 x),int (f1 x),.str (f2 x),.str (f3 x),.sl 2 (f4 x),.sl 2 (f5 x),.sl 1 (f6 x),.str (f7 x),.str (f8 x)]:List PV))=W at *
  refine drg0 ?_
  have z00:decide ((0:Int) < ((0:Nat):Int))=false:=rfl
  simp only [ZZ,WW,Ze,reduceCtorEq,zd,ze,za,zf,zb,hWl,z00,Bool.false_eq_true,false_implies,hg ()]
  refine ⟨ql2 _ _,quY (fun h=>by cases h) (fun _=>?_)⟩
  refine zS ?_
  ((with_reducible and_intros)<;>try exact sc_)
  rw [← hW]
  have hfin:SrtP (ltC cf) (([]:List α)++x :: B):=qpm hO hsb hb (.inl rfl)
  refine qab (l.length - (i+1)) (.row (.b 0)::.p (int 0)::.p (int (l.length:Nat))::.p (.clo g ps)::oo::oo::oo::oo::.p (int ((i+1):Nat))::oF (oD (oC []))) [(.b 0,.row (((x :: B)++(R)).map (fun x=>([.str (f0 x),int (f1 x),.str (f2 x),.str (f3 x),.sl 2 (f4 x),.sl 2 (f5 x),.sl 1 (f6 x),.str (f7 x),.str (f8 x)]:List PV))) qiU 9 true)] (by omega) zF_ zF_ ⟨i+1,x :: B,R,rfl,by omega,.inl (by simp;omega),by simpa using hpb,hfin,rfl,rfl⟩
 ·obtain rfl:A=A'++[y]:=by rw [hAy];simp
  obtain ⟨q,rfl⟩:∃ q,j=q+1:=⟨A'.length,by rw [← hj];simp⟩
  have hq:A'.length=q:=by simpa using hj
  have hrow:(A'++[y])++x :: (B++R)=A'++y :: x :: (B++R):=by simp
  have hyl:y∈l:=hpb.mem_iff.1 (by simp)
  have e1:(((q+1:Nat):Int) - 1)=(q:Nat):=by omega
  have z0:decide ((0:Int) < ((q+1:Nat):Int))=true:=by rw [decide_eq_true_eq];omega
  rw [hrow] at hWl hpb ⊢
  obtain ⟨g1,g0⟩:=qsH (fun x=>([.str (f0 x),int (f1 x),.str (f2 x),.str (f3 x),.sl 2 (f4 x),.sl 2 (f5 x),.sl 1 (f6 x),.str (f7 x),.str (f8 x)]:List PV)) A' (B++R) x y []
  have s1:=qsG (fun x=>([.str (f0 x),int (f1 x),.str (f2 x),.str (f3 x),.sl 2 (f4 x),.sl 2 (f5 x),.sl 1 (f6 x),.str (f7 x),.str (f8 x)]:List PV)) A' (B++R) x y
  rw [hq] at g1 g0 s1
  try simp only at g1 g0 s1
  generalize hW:(A'++y :: x :: (B++R)).map (fun x=>([.str (f0 x),int (f1 x),.str (f2 x),.str (f3 x),.sl 2 (f4 x),.sl 2 (f5 x),.sl 1 (f6 x),.str (f7 x),.str (f8 x)]:List PV))=W at *
  refine drg0 ?_
  simp only [ZZ,WW,Ze,reduceCtorEq,zd,ze,za,zf,zb,hWl,e1,z0,g1,g0,hg ()]
  refine ⟨⟨by omega,by omega⟩,by omega,qai (by omega) (by omega),⟨by omega,by omega⟩,by omega,ql2 _ _,?_⟩
  refine useG (fun _=>hc x hxl y hyl) ((qjX (hr x y) (L':=[])).trans (hn x y)) (.inl (hr x y)) ?_
  refine zS ?_
  refine br ?_ ?_
  ·intro hlt2
   have hxy:ltC cf x y=true:=hlt2
   obtain ⟨n1,n2⟩:=qtJ hsb hb hxy
   refine drg0 ?_
   have g2:(W.set (q+1) [.str (f0 y),int (f1 y),.str (f2 y),.str (f3 y),.sl 2 (f4 y),.sl 2 (f5 y),.sl 1 (f6 y),.str (f7 y),.str (f8 y)]).getD q []=[.str (f0 y),int (f1 y),.str (f2 y),.str (f3 y),.sl 2 (f4 y),.sl 2 (f5 y),.sl 1 (f6 y),.str (f7 y),.str (f8 y)]:=by
    rw [List.getD,List.getElem?_set_ne (by omega)]
    exact g0
   simp only [ZZ,WW,Ze,reduceCtorEq,zd,ze,za,zf,zb,hWl,e1,g1,g0,g2,s1,List.length_set,qfh]
   ((with_reducible and_intros)<;>try exact sc_)
   refine qab ((q)) (.row (.b 0)::.p (int 0)::.p (int (l.length:Nat))::.p (.clo g ps)::oo::oo::oo::oo::.p (int (i:Nat))::.p (int ((q):Nat))::oF (oD (oB (oo::[])))) [(.b 0,.row (((A')++x :: ((y :: B)++R)).map (fun x=>([.str (f0 x),int (f1 x),.str (f2 x),.str (f3 x),.sl 2 (f4 x),.sl 2 (f5 x),.sl 1 (f6 x),.str (f7 x),.str (f8 x)]:List PV))) qiU 9 true)] (by omega) zF_ zF_ ⟨q,A',y :: B,rfl,hq,by simp;omega,n1,n2,by simpa using (List.Perm.append_left A' (List.Perm.swap y x (B++R))).trans hpb,rfl,rfl⟩
  ·intro hlt2
   have hxy:ltC cf x y=false:=hlt2
   refine zS ?_
   ((with_reducible and_intros)<;>try exact sc_)
   rw [← hW]
   have hfin:SrtP (ltC cf) ((A'++[y])++x :: B):=qpm hO hsb hb (.inr ⟨A',y,rfl,hxy⟩)
   have hrow2:A'++y :: x :: (B++R)=((A'++[y])++x :: B)++R:=by simp
   rw [hrow2] at hpb ⊢
   refine qab (l.length - (i+1)) (.row (.b 0)::.p (int 0)::.p (int (l.length:Nat))::.p (.clo g ps)::oo::oo::oo::oo::.p (int ((i+1):Nat))::oF (oD (oC []))) [(.b 0,.row ((((A'++[y])++x :: B)++(R)).map (fun x=>([.str (f0 x),int (f1 x),.str (f2 x),.str (f3 x),.sl 2 (f4 x),.sl 2 (f5 x),.sl 1 (f6 x),.str (f7 x),.str (f8 x)]:List PV))) qiU 9 true)] (by omega) zF_ zF_ ⟨i+1,(A'++[y])++x :: B,R,rfl,by omega,.inl (by simp;omega),hpb,hfin,rfl,rfl⟩
set_option maxHeartbeats 2000000 in
theorem qtf {α:Type} (f0:α→List UInt8) (f1:α→Int) (f2:α→List UInt8) (f3:α→List UInt8) (f4:α→List (List PV)) (f5:α→List (List PV)) (f6:α→List (List PV)) (f7:α→List UInt8) (f8:α→List UInt8) (cf:α→α→Int) (hO:OrdP (ltC cf)) (g:FuncId) (ps:List PV) (hg:Unit→fnB Tryz.prog g=true) (l:List α) (hl:l.length≤12) (hc:∀ x∈l,∀ y∈l,PCall Tryz.prog E g (.agg [.str (f0 x),int (f1 x),.str (f2 x),.str (f3 x),.sl 2 (f4 x),.sl 2 (f5 x),.sl 1 (f6 x),.str (f7 x),.str (f8 x)] :: .agg [.str (f0 y),int (f1 y),.str (f2 y),.str (f3 y),.sl 2 (f4 y),.sl 2 (f5 y),.sl 1 (f6 y),.str (f7 y),.str (f8 y)] :: ps) (·=int (cf x y)))
  (hn:∀ x y,Zbh [] (.p (.agg [.str (f0 x),int (f1 x),.str (f2 x),.str (f3 x),.sl 2 (f4 x),.sl 2 (f5 x),.sl 1 (f6 x),.str (f7 x),.str (f8 x)]) :: .p (.agg [.str (f0 y),int (f1 y),.str (f2 y),.str (f3 y),.sl 2 (f4 y),.sl 2 (f5 y),.sl 1 (f6 y),.str (f7 y),.str (f8 y)]) :: ps.map .p)=some (.agg [.str (f0 x),int (f1 x),.str (f2 x),.str (f3 x),.sl 2 (f4 x),.sl 2 (f5 x),.sl 1 (f6 x),.str (f7 x),.str (f8 x)] :: .agg [.str (f0 y),int (f1 y),.str (f2 y),.str (f3 y),.sl 2 (f4 y),.sl 2 (f5 y),.sl 1 (f6 y),.str (f7 y),.str (f8 y)] :: ps)) (hr:∀ x y,Zbj (.p (.agg [.str (f0 x),int (f1 x),.str (f2 x),.str (f3 x),.sl 2 (f4 x),.sl 2 (f5 x),.sl 1 (f6 x),.str (f7 x),.str (f8 x)]) :: .p (.agg [.str (f0 y),int (f1 y),.str (f2 y),.str (f3 y),.sl 2 (f4 y),.sl 2 (f5 y),.sl 1 (f6 y),.str (f7 y),.str (f8 y)]) :: ps.map .p)=true) (lim:Nat):RCall Tryz.prog E 85 qiU 9 (l.map (fun x=>([.str (f0 x),int (f1 x),.str (f2 x),.str (f3 x),.sl 2 (f4 x),.sl 2 (f5 x),.sl 1 (f6 x),.str (f7 x),.str (f8 x)]:List PV))) [int 0,int (l.length:Nat),int (lim:Nat),.clo g ps] (fun x es'=>x=.tup []∧∃ l':List α,es'=l'.map (fun x=>([.str (f0 x),int (f1 x),.str (f2 x),.str (f3 x),.sl 2 (f4 x),.sl 2 (f5 x),.sl 1 (f6 x),.str (f7 x),.str (f8 x)]:List PV))∧l'.Perm l∧SrtP (ltC cf) l'):=by
 unfold RCall
 refine qff mixed Tryz.func85 qcN ?_
 simp only [a0,l0,OS.ao,XX,Nat.reduceSub,zN,qa8,ZZ,WW,Ze,reduceCtorEq,zd,ze,za,zf,zb]
 refine qad (fun n fr L=>(0:Nat)=n∧fr=(.row (.b 0)::.p (int 0)::.p (int (l.length:Nat))::.p (int (lim:Nat))::.p (.clo g ps)::oC (oo::(.p (.bool true)::.p (.bool true)::oG (oG (oD [])))))∧L=[(.b 0,.row (l.map (fun x=>([.str (f0 x),int (f1 x),.str (f2 x),.str (f3 x),.sl 2 (f4 x),.sl 2 (f5 x),.sl 1 (f6 x),.str (f7 x),.str (f8 x)]:List PV))) qiU 9 true)]) ((0:Nat)) (.row (.b 0)::.p (int 0)::.p (int (l.length:Nat))::.p (int (lim:Nat))::.p (.clo g ps)::oC (oo::(.p (.bool true)::.p (.bool true)::oG (oG (oD []))))) [(.b 0,.row (l.map (fun x=>([.str (f0 x),int (f1 x),.str (f2 x),.str (f3 x),.sl 2 (f4 x),.sl 2 (f5 x),.sl 1 (f6 x),.str (f7 x),.str (f8 x)]:List PV))) qiU 9 true)] zF_ zF_ ⟨rfl,rfl,rfl⟩ ?_
 rintro n fr L ⟨rfl,rfl,rfl⟩
 simp only [qaZ,ZZ,WW,Ze,reduceCtorEq,zd,ze,za,zf,zb]
 have h12:decide ((l.length:Int)≤12)=true:=by rw [decide_eq_true_eq];omega
 simp only [ZZ,WW,Ze,reduceCtorEq,zd,ze,za,zf,zb,h12,Int.sub_zero]
 refine ⟨qai (by omega) (by omega),?_⟩
 refine useR (qnc f0 f1 f2 f3 f4 f5 f6 f7 f8 cf hO g ps hg l hl hc hn hr) rfl rfl rfl zE_ ?_
 rintro x es ⟨rfl,l',rfl,hp,hs⟩
 refine zS ?_
 exact qwk _ rfl ⟨rfl,l',rfl,hp,hs⟩
set_option maxHeartbeats 2000000 in
theorem qqq {α:Type} (f0:α→List UInt8) (f1:α→Int) (f2:α→List UInt8) (f3:α→List UInt8) (f4:α→List (List PV)) (f5:α→List (List PV)) (f6:α→List (List PV)) (f7:α→List UInt8) (f8:α→List UInt8) (cf:α→α→Int) (hO:OrdP (ltC cf)) (g:FuncId) (ps:List PV) (hg:Unit→fnB Tryz.prog g=true) (l:List α) (hl:l.length≤12) (hc:∀ x∈l,∀ y∈l,PCall Tryz.prog E g (.agg [.str (f0 x),int (f1 x),.str (f2 x),.str (f3 x),.sl 2 (f4 x),.sl 2 (f5 x),.sl 1 (f6 x),.str (f7 x),.str (f8 x)] :: .agg [.str (f0 y),int (f1 y),.str (f2 y),.str (f3 y),.sl 2 (f4 y),.sl 2 (f5 y),.sl 1 (f6 y),.str (f7 y),.str (f8 y)] :: ps) (·=int (cf x y)))
  (hn:∀ x y,Zbh [] (.p (.agg [.str (f0 x),int (f1 x),.str (f2 x),.str (f3 x),.sl 2 (f4 x),.sl 2 (f5 x),.sl 1 (f6 x),.str (f7 x),.str (f8 x)]) :: .p (.agg [.str (f0 y),int (f1 y),.str (f2 y),.str (f3 y),.sl 2 (f4 y),.sl 2 (f5 y),.sl 1 (f6 y),.str (f7 y),.str (f8 y)]) :: ps.map .p)=some (.agg [.str (f0 x),int (f1 x),.str (f2 x),.str (f3 x),.sl 2 (f4 x),.sl 2 (f5 x),.sl 1 (f6 x),.str (f7 x),.str (f8 x)] :: .agg [.str (f0 y),int (f1 y),.str (f2 y),.str (f3 y),.sl 2 (f4 y),.sl 2 (f5 y),.sl 1 (f6 y),.str (f7 y),.str (f8 y)] :: ps)) (hr:∀ x y,Zbj (.p (.agg [.str (f0 x),int (f1 x),.str (f2 x),.str (f3 x),.sl 2 (f4 x),.sl 2 (f5 x),.sl 1 (f6 x),.str (f7 x),.str (f8 x)]) :: .p (.agg [.str (f0 y),int (f1 y),.str (f2 y),.str (f3 y),.sl 2 (f4 y),.sl 2 (f5 y),.sl 1 (f6 y),.str (f7 y),.str (f8 y)]) :: ps.map .p)=true):RCall Tryz.prog E 50 qiU 9 (l.map (fun x=>([.str (f0 x),int (f1 x),.str (f2 x),.str (f3 x),.sl 2 (f4 x),.sl 2 (f5 x),.sl 1 (f6 x),.str (f7 x),.str (f8 x)]:List PV))) [.clo g ps] (fun x es'=>x=.tup []∧∃ l':List α,es'=l'.map (fun x=>([.str (f0 x),int (f1 x),.str (f2 x),.str (f3 x),.sl 2 (f4 x),.sl 2 (f5 x),.sl 1 (f6 x),.str (f7 x),.str (f8 x)]:List PV))∧l'.Perm l∧SrtP (ltC cf) l'):=by
 have wr:IntKind.u64.wrap (l.length:Int)=l.length:=by simp [IntKind.wrap,IntKind.bits,IntKind.signed];omega
 unfold RCall
 refine qff mixed Tryz.func50 qb9 ?_
 simp only [a0,l0,OS.ao,XX,Nat.reduceSub,zN,qa0,ZZ,WW,Ze,reduceCtorEq,zd,ze,za,zf,zb]
 rw [wr]
 refine use1 (qnx (l.length:Nat) (by omega) (by omega)) rfl (.inl rfl) ?_
 generalize Lib.bitLen _=lim
 refine zS ?_
 refine useR (qtf f0 f1 f2 f3 f4 f5 f6 f7 f8 cf hO g ps hg l hl hc hn hr lim) rfl rfl rfl zE_ ?_
 rintro x es ⟨rfl,l',rfl,hp,hs⟩
 refine zS ?_
 exact qwk _ rfl ⟨rfl,l',rfl,hp,hs⟩
end
abbrev qi2:IC:=(sR [qO 2 (.mov (.c (.bool false)))] (sR [qM 3 0,qM 4 0,qT 5 .neq 3 4,qM 2 5] .ret))
theorem qi6:chkF Tryz.prog Tryz.f87 qi2 [.t 2] 6=true:=by kernel_rfl
abbrev qhS:IC:=(sR [jI 4 0] (sR [qM 7 0,jC 8 87 [.t 7],qM 5 8] (sR [qM 9 1,jC 10 87 [.t 9],qM 6 10] (.seq (sR [qM 11 5] (jW 11 (.seq (sR [qM 12 6] (jW 12 (sR [jI 4 0] .ret))) (sR [jI 4 (-1)] .ret)))) (.seq (sR [qM 13 6] (jW 13 (sR [jI 4 1] .ret))) (.seq (sR [qM 14 0,qM 15 1,qT 16 .lss 14 15] (jW 16 (sR [jI 4 (-1)] .ret))) (.seq (sR [qM 17 0,qM 18 1,qT 19 .gtr 17 18] (jW 19 (sR [jI 4 1] .ret))) (sR [jI 4 0] .ret))))))))
theorem qh4:chkF Tryz.prog Tryz.f53 qhS [.t 4] 20=true:=by kernel_rfl
def qfd:IC:=(sR [qT 9 .lss 8 7] (.seq (jE 9) (.seq (.block 1 (sR [qX 10 1 6 8,qL 11 10,qM 5 11] (sR [qM 12 5,qM 13 3,qT 14 .neq 12 13] (jW 14 (sR [qM 15 5,qM 2 15] .ret))))) (.reg [qB 16 .add 8 (cI 1),qM 8 16]))))
abbrev qlG:IC:=(sR [jI 2 0] (sR [jI 3 0] (.seq (sR [qM 6 0,qN 7 6,jI 8 0] (.block 0 (.loop qfd))) (sR [qM 17 3,qM 2 17] .ret))))
theorem qlU:chkF Tryz.prog Tryz.f52 qlG [.t 2] 18=true:=by kernel_rfl
def sgnC (a b:Int):Int:=if a < b then -1 else if b < a then 1 else 0
section
variable {E:Envt}
theorem qm7 (n:Int):PCall Tryz.prog E 87 [int n] (·=.bool false):=by
 refine qah mixed Tryz.func87 qi6 ?_
 refine zV ?_
 simp
theorem qoX (a b:Int):PCall Tryz.prog E 53 [int a,int b] (·=int (sgnC a b)):=by
 refine qah mixed Tryz.func53 qh4 ?_
 refine zV ?_
 refine use1 (qm7 a) rfl (.inl rfl) ?_
 refine zS ?_
 refine use1 (qm7 b) rfl (.inl rfl) ?_
 refine zS ?_
 unfold sgnC
 refine br ?_ ?_
 ·intro h
  refine zS ?_
  rw [if_pos (of_decide_eq_true h)]
 intro h
 refine zS ?_
 refine br ?_ ?_
 ·intro h2
  refine zS ?_
  rw [if_neg (of_decide_eq_false h),if_pos (of_decide_eq_true h2)]
 intro h2
 refine zS ?_
 rw [if_neg (of_decide_eq_false h),if_neg (of_decide_eq_false h2)]
set_option maxHeartbeats 2000000 in
theorem qyn (l:List Int) (hl:l.length≤1000000):PCall Tryz.prog E 52 [ints l] (·=int (qar l)):=by
 refine qah mixed Tryz.func52 qlU ?_
 refine zV ?_
 simp only [ints,ZZ,WW,Ze,reduceCtorEq,zd,ze,za,zf,zb]
 generalize hes:l.map (fun x=>[PV.int IntKind.i64 x])=es
 have hln:es.length=l.length:=by rw [← hes];simp
 refine qad (fun n fr L=>∃ (k:Nat),k≤l.length∧n=l.length - k∧(qar l=qar (l.drop k))∧fr=(.p (.sl 1 es)::oo::.p (int 0)::.p (int 0)::oo::oo::.p (.sl 1 es)::.p (int (es.length:Nat))::.p (int (k:Nat))::oD (oo::[]))∧L=[]) (l.length) (.p (.sl 1 es)::oo::.p (int 0)::.p (int 0)::oo::oo::.p (.sl 1 es)::.p (int (es.length:Nat))::.p (int (0:Nat))::oD (oo::[])) [] zF_ zF_ ⟨0,by omega,by omega,rfl,rfl,rfl⟩ ?_
 rintro n fr L ⟨k,hk,rfl,hF,rfl,rfl⟩
 simp only [qfd,ZZ,WW,Ze,reduceCtorEq,zd,ze,za,zf,zb]
 refine br ?_ ?_
 ·intro h
  have hlt:k < l.length:=by have:=of_decide_eq_true h;omega
  obtain ⟨x,hx⟩:∃ x,l[k]?=some x:=⟨_,List.getElem?_eq_getElem hlt⟩
  have hg:es.getD k []=[.int .i64 x]:=by rw [← hes];exact qaR hx
  have hd:=qcf l k x hx
  simp only [ZZ,WW,Ze,reduceCtorEq,zd,ze,za,zf,zb,hg]
  ((with_reducible and_intros)<;>try exact sc_)
  refine br ?_ ?_
  ·intro h2
   have h3:¬ x=0:=by simpa using h2
   refine zS ?_
   rw [hF,hd,if_neg h3]
  ·intro h2
   have h3:x=0:=by simpa using h2
   rw [if_pos h3] at hd
   refine zS ?_
   ((with_reducible and_intros)<;>try exact sc_)
   refine qab (l.length - (k+1)) (.p (.sl 1 es)::oo::.p (int 0)::.p (int 0)::oo::oo::.p (.sl 1 es)::.p (int (es.length:Nat))::.p (int ((k+1):Nat))::oD (oo::[])) [] (by omega) zF_ zF_ ⟨k+1,by omega,rfl,by rw [hF,hd],rfl,rfl⟩
 ·intro h
  have hge:l.length≤k:=by have:=of_decide_eq_false h;omega
  refine zS ?_
  rw [hF,List.drop_eq_nil_of_le (by omega)]
  rfl
theorem qmi (s t:List UInt8):PCall Tryz.prog E 54 [.str s,.str t] (·=int (Lib.compareBytes s t)):=
 qbK rfl rfl fun w _=>(Any.strings_Compare Tryz.layCompare ⟨s.toArray⟩ ⟨t.toArray⟩ w).mono fun e w' h=>⟨h.1,by rw [h.2];exact Grow.refl _ _⟩
end
abbrev qcA:IC:=(sR [qO 2 (.nilr 103 9)] (.seq (sR [qM 3 0,qO 4 (.isn (.t 3))] (jW 4 (sR [qO 2 (.nilr 103 9)] .ret))) (sR [qO 5 (.bsr 103 9 []),qM 6 0,qO 7 (.app 103 9 160 (.t 5) (.t 6)),qM 2 7] .ret)))
theorem qcP:chkF Tryz.prog Tryz.f49 qcA [.t 2] 8=true:=by kernel_rfl
abbrev qgQ:IC:=(sR [qO 2 (.box 103 (.t 0)),qO 3 (.box 103 (.t 1)),jI 4 0] (.seq (.drg [wF 5 1 2,qL 6 5,wF 7 1 3,qL 8 7,qO 9 (.pcall 0 53 [.t 6,.t 8]),wF 10 0 2,qL 11 10,wF 12 0 3,qL 13 12,qO 14 (.pcall 1 54 [.t 11,.t 13]),qO 15 (.bsl 1 [.t 9,.t 14]),qO 16 (.pcall 2 52 [.t 15]),qM 4 16]) .ret))
theorem qg3:chkF Tryz.prog Tryz.f51 qgQ [.t 4] 17=true:=by kernel_rfl
section
variable {E:Envt}
theorem qqy (es:List (List PV)) (hn:es.length≤1000000):FCall Tryz.prog E 49 [.sl 9 es] qax 9 (·=es):=by
 unfold FCall
 refine qf0 mixed Tryz.func49 qcP ?_
 refine zV ?_
 intro b hb
 refine br ?_ ?_
 ·intro h
  have:=hb h
  refine zS ?_
  exact qke 2 [] rfl rfl this.symm
 ·intro h
  refine zS ?_
  exact ⟨by omega,qke 5 es rfl rfl rfl⟩
theorem CmpP.sgn:CmpP sgnC where
 anti x y:=by unfold sgnC;split<;>split<;>(try split)<;>(try split)<;>omega
 tr x y z:=by unfold sgnC;split<;>split<;>split<;>(try split)<;>(try split)<;>(try split)<;>omega
def ordM (x y:Ltr):Int:=orC (fun x y:Ltr=>sgnC x.at_ y.at_) (fun x y:Ltr=>Lib.compareBytes x.id y.id) x y
theorem ordM_cmp:CmpP ordM:=CmpP.or (CmpP.on (fun x:Ltr=>x.at_) CmpP.sgn) (CmpP.on (fun x:Ltr=>x.id) CmpP.cb)
theorem qrS (a b:Int):qar [a,b]=if a=0 then b else a:=by
 show (if a=0 then (if b=0 then 0 else b) else a)=_
 by_cases h:a=0
 ·rw [if_pos h,if_pos h]
  split
  ·omega
  ·rfl
 ·rw [if_neg h,if_neg h]
theorem qwH (x y:Ltr):PCall Tryz.prog E 51 [.agg (ltV x),.agg (ltV y)] (·=int (ordM x y)):=by
 simp only [ltV]
 refine qah mixed Tryz.func51 qg3 ?_
 refine zV ?_
 refine drg3 (x1:=int (sgnC x.at_ y.at_)) (x2:=int (Lib.compareBytes x.id y.id)) (x3:=int (ordM x y)) ?_
 refine zS ?_
 ((repeat' (with_reducible apply And.intro))<;>try (first|exact usep (qoX _ _) rfl (.inl rfl)|exact usep (qmi _ _) rfl (.inl rfl)|(rw [show ordM x y=qar [sgnC x.at_ y.at_,Lib.compareBytes x.id y.id] from (qrS _ _).symm];exact usep (qyn [_,_] (by simp)) rfl (.inl rfl))|(exact sc_)))
end
end Go.Proofs.YtjgdjinhkgjpeabGreatDoor
