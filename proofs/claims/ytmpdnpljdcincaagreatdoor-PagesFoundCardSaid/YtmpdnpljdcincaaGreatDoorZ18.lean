import Derived.Test.YtmpdnpljdcincaaGreatDoorZ14
import Derived.Test.YtmpdnpljdcincaaGreatDoorZ4
import Derived.Test.YtmpdnpljdcincaaGreatDoorLayBitsLen
import Derived.Test.YtmpdnpljdcincaaGreatDoorZ15
import Derived.Test.YtmpdnpljdcincaaGreatDoorZ16
import Derived.Test.YtmpdnpljdcincaaGreatDoorZ11
set_option linter.unusedVariables false
set_option linter.unusedSimpArgs false
set_option linter.defProp false
namespace Go.Proofs.YtmpdnpljdcincaaGreatDoor
open Nat renaming le_trans→yu,reduceAdd→zd,reduceEqDiff→za,reduceLT→zf,reduceLeDiff→zb,reduceMul→ze,reduceSub→zx
open List renaming cons_append→zp,getElem?_eq_getElem→zh,getElem?_eq_some_iff→zt,length_append→zC,length_cons→zj,length_map→zE,length_nil→zr,length_set→yq,length_take→zN,map_append→zT,map_congr_left→zX,map_cons→zo,map_nil→zw,mem_of_getElem?→zy,nil_append→zq,range→zJ,replicate_succ→zi,replicate_zero→zm,take_of_length_le→zG,take_succ_eq_append_getElem→zB
open Option renaming map_some→zQ
open Go.RowKit
def qbd:IC:=(.seq (.seq (.drg [qM 18 9,qM 19 1,qT 20 .gtr 18 19,qM 21 20,⟨some 22,.mov (.t 3),(some (21,true))⟩,⟨some 23,.mov (.t 0),(some (21,true))⟩,⟨some 24,.mov (.t 9),(some (21,true))⟩,⟨some 25,.ixa 1 (.t 23) (.t 24),(some (21,true))⟩,⟨some 26,.ld 1 false (.t 25),(some (21,true))⟩,⟨some 27,.mov (.t 0),(some (21,true))⟩,⟨some 28,.mov (.t 9),(some (21,true))⟩,⟨some 29,.bin .sub (.t 28) (cI 1),(some (21,true))⟩,⟨some 30,.ixa 1 (.t 27) (.t 29),(some (21,true))⟩,⟨some 31,.ld 1 false (.t 30),(some (21,true))⟩,⟨some 32,.callv (.t 22) [.t 26,.t 31],(some (21,true))⟩,⟨some 33,.bin .lss (.t 32) (cI 0),(some (21,true))⟩,qO 34 (.pick (.t 21) (.t 33) (.c (.bool false)))]) (.cond (.t 34) .skip (.exit 2))) (.seq (.block 3 (.drg [qM 37 0,qM 38 9,qM 39 0,qM 40 9,qB 41 .sub 40 (cI 1),qM 42 0,qM 43 9,qB 44 .sub 43 (cI 1),qX 45 1 42 44,qL 46 45,qM 47 0,qM 48 9,qX 49 1 47 48,qL 50 49,qX 51 1 37 38,qS 1 51 46,qX 52 1 39 41,qS 1 52 50])) (.reg [qM 35 9,qB 36 .sub 35 (cI 1),qM 9 36])))
def qbe:IC:=(.seq (sR [qM 12 8,qM 13 2,qT 14 .lss 12 13] (.cond (.t 14) .skip (.exit 0))) (.seq (.block 1 (sR [qM 17 8,qM 9 17] (.block 2 (.loop qbd)))) (.reg [qM 15 8,qB 16 .add 15 (cI 1),qM 8 16])))
def qbB:IC:=(sR [qM 10 1,qB 11 .add 10 (cI 1),qM 8 11] (.block 0 (.loop qbe)))
def qby:List IRes:=[]
theorem qd9:chkF Tryz.prog Tryz.f292 qbB qby 53=true:=by kernel_rfl
def qb6:IC:=(.block 1 (sR [qM 21 2,qM 22 1,qT 23 .sub 21 22,qM 12 23] (.seq (sR [qM 24 12,qB 25 .leq 24 (cI 12)] (.cond (.t 25) (sR [qM 26 0,qM 27 1,qM 28 2,qM 29 4,qO 30 (.call 292 [.t 26,.t 27,.t 28,.t 29])] .ret) .skip)) (.seq (sR [qM 31 3,qB 32 .eql 31 (cI 0)] (.cond (.t 32) (sR [qM 33 0,qM 34 1,qM 35 2,qM 36 4,qO 37 (.call 293 [.t 33,.t 34,.t 35,.t 36])] .ret) .skip)) (.seq (sR [qM 38 10,qO 39 (.not (.t 38))] (.cond (.t 39) (sR [qM 40 0,qM 41 1,qM 42 2,qM 43 4,qO 44 (.call 294 [.t 40,.t 41,.t 42,.t 43])] (.reg [qM 45 3,qB 46 .sub 45 (cI 1),qM 3 46])) .skip)) (.cut (sR [qM 48 0,qM 49 1,qM 50 2,qM 51 4,qO 52 (.call 295 [.t 48,.t 49,.t 50,.t 51]),qM 47 52,qO 53 (.ext 0 (.t 47)),qO 54 (.ext 1 (.t 47)),qM 13 53,qM 14 54] (.seq (sR [qM 55 14,qB 56 .eql 55 (cI 2)] (.cond (.t 56) (sR [qM 57 0,qM 58 1,qM 59 2,qM 60 4,qO 61 (.call 296 [.t 57,.t 58,.t 59,.t 60])] (sR [qM 62 2,qB 63 .sub 62 (cI 1),qM 64 13,qM 65 1,qT 66 .sub 64 65,qT 67 .sub 63 66,qM 13 67] (.reg [qO 14 (.mov (cI 1))]))) .skip)) (.cut (.seq (sR [qM 68 10,qM 69 68,⟨some 70,.mov (.t 11),(some (69,true))⟩,qO 71 (.pick (.t 69) (.t 70) (.c (.bool false))),qM 72 71,⟨some 73,.mov (.t 14),(some (72,true))⟩,⟨some 74,.bin .eql (.t 73) (cI 1),(some (72,true))⟩,qO 75 (.pick (.t 72) (.t 74) (.c (.bool false)))] (.cond (.t 75) (sR [qM 76 0,qM 77 1,qM 78 2,qM 79 4,qO 80 (.call 297 [.t 76,.t 77,.t 78,.t 79])] (.cond (.t 80) .ret .skip)) .skip)) (.cut (.seq (.seq (.drg [qM 81 1,qB 82 .gtr 81 (cI 0),qM 83 82,⟨some 84,.mov (.t 4),(some (83,true))⟩,⟨some 85,.mov (.t 0),(some (83,true))⟩,⟨some 86,.mov (.t 1),(some (83,true))⟩,⟨some 87,.bin .sub (.t 86) (cI 1),(some (83,true))⟩,⟨some 88,.ixa 1 (.t 85) (.t 87),(some (83,true))⟩,⟨some 89,.ld 1 false (.t 88),(some (83,true))⟩,⟨some 90,.mov (.t 0),(some (83,true))⟩,⟨some 91,.mov (.t 13),(some (83,true))⟩,⟨some 92,.ixa 1 (.t 90) (.t 91),(some (83,true))⟩,⟨some 93,.ld 1 false (.t 92),(some (83,true))⟩,⟨some 94,.callv (.t 84) [.t 89,.t 93],(some (83,true))⟩,⟨some 95,.bin .lss (.t 94) (cI 0),(some (83,true))⟩,⟨some 96,.not (.t 95),(some (83,true))⟩,qO 97 (.pick (.t 83) (.t 96) (.c (.bool false)))]) (.cond (.t 97) (sR [qM 98 0,qM 99 1,qM 100 2,qM 101 13,qM 102 4,qO 103 (.call 298 [.t 98,.t 99,.t 100,.t 101,.t 102]),qM 15 103] (sR [qM 104 15,qM 1 104] (.exit 1))) .skip)) (sR [qM 106 0,qM 107 1,qM 108 2,qM 109 13,qM 110 4,qO 111 (.call 299 [.t 106,.t 107,.t 108,.t 109,.t 110]),qM 105 111,qO 112 (.ext 0 (.t 105)),qO 113 (.ext 1 (.t 105)),qM 16 112,qM 17 113] (sR [qM 114 17,qM 11 114] (sR [qM 115 16,qM 116 1,qT 117 .sub 115 116,qM 118 2,qM 119 16,qT 120 .sub 118 119,qM 18 117,qM 19 120] (sR [qM 121 12,qB 122 .quo 121 (cI 8),qM 20 122] (sR [qM 123 18,qM 124 19,qT 125 .lss 123 124] (.cond (.t 125) (sR [qM 126 18,qM 127 20,qT 128 .geq 126 127,qM 10 128] (sR [qM 129 0,qM 130 1,qM 131 16,qM 132 3,qM 133 4,qO 134 (.call 271 [.t 129,.t 130,.t 131,.t 132,.t 133])] (.reg [qM 135 16,qB 136 .add 135 (cI 1),qM 1 136]))) (sR [qM 137 19,qM 138 20,qT 139 .geq 137 138,qM 10 139] (sR [qM 140 0,qM 141 16,qB 142 .add 141 (cI 1),qM 143 2,qM 144 3,qM 145 4,qO 146 (.call 271 [.t 140,.t 142,.t 143,.t 144,.t 145])] (.reg [qM 147 16,qM 2 147])))))))))))))))))))))
def qcF:IC:=(sR [qO 10 (.mov (.c (.bool true)))] (sR [qO 11 (.mov (.c (.bool true)))] (.block 0 (.loop qb6))))
def qcB:List IRes:=[]
theorem qgm:chkF Tryz.prog Tryz.f271 qcF qcB 148=true:=by kernel_rfl
def qc9:IC:=(sR [qM 5 0,qN 6 5,qM 4 6] (.reg [qM 7 0,qM 8 4,qM 9 4,qO 10 (.cvi .u64 (.t 9)),qO 11 (.call 133 [.t 10]),qM 12 1,qO 13 (.call 271 [.t 7,.c (.int .i64 0),.t 8,.t 11,.t 12])]))
def qc5:List IRes:=[]
theorem qg2:chkF Tryz.prog Tryz.f243 qc9 qc5 14=true:=by kernel_rfl
abbrev qhL:Nat:=3
theorem qng:∀ (ps:List PV) (L:Objs),Zl L (ps.map .p)=true
 |[],_=>rfl
 |_ :: r,L=>qng r L
section
variable {E:Envt}
theorem qpd (x:Int) (h0:0≤x) (h1:x≤18446744073709551615):PCall Tryz.prog E 133 [.int .u64 x] (·=int (Lib.bitLen x.toNat:Nat)):=
 qbp rfl rfl fun w _=>(Any.bits_Len Tryz.layBitsLen x w h0 h1).mono fun e w' h=>⟨h.1,by rw [h.2];exact Grow.refl _ _⟩
theorem qoT {α:Type} (f0:α→Int) (cf:α→α→Int) (hO:OrdP (ltC cf)) (g:FuncId) (ps:List PV) (hg:Unit→fnB Tryz.prog g=true) (l:List α) (hl:l.length≤12) (hc:∀ x∈l,∀ y∈l,PCall Tryz.prog E g (int (f0 x) :: int (f0 y) :: ps) (·=int (cf x y)))
  (hn:∀ x y,Zbh [] (.p (int (f0 x)) :: .p (int (f0 y)) :: ps.map .p)=some (int (f0 x) :: int (f0 y) :: ps)) (hr:∀ x y,Zbj (.p (int (f0 x)) :: .p (int (f0 y)) :: ps.map .p)=true):RCall Tryz.prog E 292 qhL 1 (l.map (fun x=>([int (f0 x)]:List PV))) [int 0,int (l.length:Nat),.clo g ps] (fun x es'=>x=.tup []∧∃ l':List α,es'=l'.map (fun x=>([int (f0 x)]:List PV))∧l'.Perm l∧SrtP (ltC cf) l'):=by
 unfold RCall
 refine qfP mixed Tryz.func292 qd9 ?_
 simp only [a0,l0,OS.ao,zo,zw,zj,zr,zp,zq,zx,zd,zi,zm,zE,qbB,qby,ZZ,WW,Ze,reduceCtorEq,zd,ze,zb,zf,za]
 ((with_reducible and_intros)<;>try exact sc_)
 rw [show l.map (fun x=>([int (f0 x)]:List PV))=(l.take 1++l.drop 1).map (fun x=>([int (f0 x)]:List PV)) from by rw [List.take_append_drop]]
 refine qad (fun n fr L=>∃ (i:Nat) (P:List α) (C:List α),l.length - i=n∧(1≤i)∧(P.length=i∨l.length=0)∧((P++C).Perm l)∧(SrtP (ltC cf) P)∧fr=(.row (.b 0)::.p (int 0)::.p (int (l.length:Nat))::.p (.clo g ps)::oo::oo::oo::oo::.p (int (i:Nat))::oF (oD (oC [])))∧L=[(.b 0,.row ((P++C).map (fun x=>([int (f0 x)]:List PV))) qhL 1 true)]) (l.length - 1) _ _ (by (simp only [ZZ,WW,Ze,reduceCtorEq,zd,ze,zb,zf,za];try trivial)) (by (simp only [ZZ,WW,Ze,reduceCtorEq,zd,ze,zb,zf,za];try trivial)) ⟨1,l.take 1,l.drop 1,rfl,by omega,by rw [zN];omega,by rw [List.take_append_drop],by cases l with|nil=>exact List.Pairwise.nil|cons x r=>simp [SrtP],rfl,rfl⟩ ?_
 rintro n fr L ⟨i,P,C,rfl,hi,hP,hp,hs,rfl,rfl⟩
 simp only [qbe,ZZ,WW,Ze,reduceCtorEq,zd,ze,zb,zf,za]
 have hpl:P.length+C.length=l.length:=by rw [← zC,hp.length_eq]
 refine br ?_ ?_
 rotate_left
 ·intro h
  have hge:l.length≤i:=by have:=of_decide_eq_false h;omega
  have hC:C=[]:=List.eq_nil_of_length_eq_zero (by omega)
  subst hC
  rw [List.append_nil] at hp ⊢
  refine zS ?_
  exact qlE _ rfl ⟨rfl,P,rfl,hp,hs⟩
 intro h
 have hlt:i < l.length:=by have:=of_decide_eq_true h;omega
 have hP:P.length=i:=by omega
 obtain ⟨x,R,rfl⟩:∃ x R,C=x :: R:=by
  cases C with
  |nil=>simp at hpl;omega
  |cons x R=>exact ⟨x,R,rfl⟩
 have hxl:x∈l:=hp.mem_iff.1 (by simp)
 refine zS ?_
 refine qad (fun n fr L=>∃ (j:Nat) (A:List α) (B:List α),j=n∧(A.length=j)∧(j+B.length=i)∧(SrtP (ltC cf) (A++B))∧(∀ b∈B,ltC cf x b=true)∧((A++x :: (B++R)).Perm l)∧fr=(.row (.b 0)::.p (int 0)::.p (int (l.length:Nat))::.p (.clo g ps)::oo::oo::oo::oo::.p (int (i:Nat))::.p (int (j:Nat))::oF (oD (oB (oo::[]))))∧L=[(.b 0,.row ((A++x :: (B++R)).map (fun x=>([int (f0 x)]:List PV))) qhL 1 true)]) (i) _ _ (by (simp only [ZZ,WW,Ze,reduceCtorEq,zd,ze,zb,zf,za];try trivial)) (by (simp only [ZZ,WW,Ze,reduceCtorEq,zd,ze,zb,zf,za];try trivial)) ⟨i,P,[],rfl,hP,by simp,by rw [List.append_nil];exact hs,(fun b hb=>by cases hb),hp,rfl,rfl⟩ ?_
 rintro n fr L ⟨j,A,B,rfl,hj,hji,hsb,hb,hpb,rfl,rfl⟩
 simp only [qbd,ZZ,WW,Ze,reduceCtorEq,zd,ze,zb,zf,za]
 have hWl:((A++x :: (B++R)).map (fun x=>([int (f0 x)]:List PV))).length=l.length:=by rw [zE,hpb.length_eq]
 rcases List.eq_nil_or_concat A with rfl|⟨A',y,hAy⟩
 ·simp only [zr] at hj
  subst hj
  generalize hW:(([]:List α)++x :: (B++R)).map (fun x=>([int (f0 x)]:List PV))=W at *
  refine drg0 ?_
  have z00:decide ((0:Int) < ((0:Nat):Int))=false:=rfl
  simp only [ZZ,WW,Ze,reduceCtorEq,zd,ze,zb,zf,za,hWl,z00,Bool.false_eq_true,false_implies,hg ()]
  refine ⟨qng _ _,qpD (fun h=>by cases h) (fun _=>?_)⟩
  refine zS ?_
  ((with_reducible and_intros)<;>try exact sc_)
  rw [← hW]
  have hfin:SrtP (ltC cf) (([]:List α)++x :: B):=qmo hO hsb hb (.inl rfl)
  refine qac (l.length - (i+1)) _ _ (by omega) (by (simp only [ZZ,WW,Ze,reduceCtorEq,zd,ze,zb,zf,za];try trivial)) (by (simp only [ZZ,WW,Ze,reduceCtorEq,zd,ze,zb,zf,za];try trivial)) ⟨i+1,x :: B,R,rfl,by omega,.inl (by simp;omega),by simpa using hpb,hfin,rfl,rfl⟩
 ·obtain rfl:A=A'++[y]:=by rw [hAy];simp
  obtain ⟨q,rfl⟩:∃ q,j=q+1:=⟨A'.length,by rw [← hj];simp⟩
  have hq:A'.length=q:=by simpa using hj
  have hrow:(A'++[y])++x :: (B++R)=A'++y :: x :: (B++R):=by simp
  have hyl:y∈l:=hpb.mem_iff.1 (by simp)
  have e1:(((q+1:Nat):Int) - 1)=(q:Nat):=by omega
  have z0:decide ((0:Int) < ((q+1:Nat):Int))=true:=by rw [decide_eq_true_eq];omega
  rw [hrow] at hWl hpb ⊢
  obtain ⟨g1,g0⟩:=qse (fun x=>([int (f0 x)]:List PV)) A' (B++R) x y []
  have s1:=qsd (fun x=>([int (f0 x)]:List PV)) A' (B++R) x y
  rw [hq] at g1 g0 s1
  try simp only at g1 g0 s1
  generalize hW:(A'++y :: x :: (B++R)).map (fun x=>([int (f0 x)]:List PV))=W at *
  refine drg0 ?_
  simp only [ZZ,WW,Ze,reduceCtorEq,zd,ze,zb,zf,za,hWl,e1,z0,g1,g0,hg ()]
  refine ⟨⟨by omega,by omega⟩,by omega,qat (by omega) (by omega),⟨by omega,by omega⟩,by omega,qng _ _,?_⟩
  refine useG (fun _=>hc x hxl y hyl) ((qll (hr x y) (L':=[])).trans (hn x y)) (.inl (hr x y)) ?_
  refine zS ?_
  refine br ?_ ?_
  ·intro hlt2
   have hxy:ltC cf x y=true:=hlt2
   obtain ⟨n1,n2⟩:=qsK hsb hb hxy
   refine drg0 ?_
   have g2:(W.set (q+1) [int (f0 y)]).getD q []=[int (f0 y)]:=by
    rw [List.getD,List.getElem?_set_ne (by omega)]
    exact g0
   simp only [ZZ,WW,Ze,reduceCtorEq,zd,ze,zb,zf,za,hWl,e1,g1,g0,g2,s1,yq,qob]
   ((with_reducible and_intros)<;>try exact sc_)
   refine qac ((q)) _ _ (by omega) (by (simp only [ZZ,WW,Ze,reduceCtorEq,zd,ze,zb,zf,za];try trivial)) (by (simp only [ZZ,WW,Ze,reduceCtorEq,zd,ze,zb,zf,za];try trivial)) ⟨q,A',y :: B,rfl,hq,by simp;omega,n1,n2,by simpa using (List.Perm.append_left A' (List.Perm.swap y x (B++R))).trans hpb,rfl,rfl⟩
  ·intro hlt2
   have hxy:ltC cf x y=false:=hlt2
   refine zS ?_
   ((with_reducible and_intros)<;>try exact sc_)
   rw [← hW]
   have hfin:SrtP (ltC cf) ((A'++[y])++x :: B):=qmo hO hsb hb (.inr ⟨A',y,rfl,hxy⟩)
   have hrow2:A'++y :: x :: (B++R)=((A'++[y])++x :: B)++R:=by simp
   rw [hrow2] at hpb ⊢
   refine qac (l.length - (i+1)) _ _ (by omega) (by (simp only [ZZ,WW,Ze,reduceCtorEq,zd,ze,zb,zf,za];try trivial)) (by (simp only [ZZ,WW,Ze,reduceCtorEq,zd,ze,zb,zf,za];try trivial)) ⟨i+1,(A'++[y])++x :: B,R,rfl,by omega,.inl (by simp;omega),hpb,hfin,rfl,rfl⟩
theorem quG {α:Type} (f0:α→Int) (cf:α→α→Int) (hO:OrdP (ltC cf)) (g:FuncId) (ps:List PV) (hg:Unit→fnB Tryz.prog g=true) (l:List α) (hl:l.length≤12) (hc:∀ x∈l,∀ y∈l,PCall Tryz.prog E g (int (f0 x) :: int (f0 y) :: ps) (·=int (cf x y)))
  (hn:∀ x y,Zbh [] (.p (int (f0 x)) :: .p (int (f0 y)) :: ps.map .p)=some (int (f0 x) :: int (f0 y) :: ps)) (hr:∀ x y,Zbj (.p (int (f0 x)) :: .p (int (f0 y)) :: ps.map .p)=true) (lim:Nat):RCall Tryz.prog E 271 qhL 1 (l.map (fun x=>([int (f0 x)]:List PV))) [int 0,int (l.length:Nat),int (lim:Nat),.clo g ps] (fun x es'=>x=.tup []∧∃ l':List α,es'=l'.map (fun x=>([int (f0 x)]:List PV))∧l'.Perm l∧SrtP (ltC cf) l'):=by
 unfold RCall
 refine qfP mixed Tryz.func271 qgm ?_
 simp only [a0,l0,OS.ao,zo,zw,zj,zr,zp,zq,zx,zd,zi,zm,zE,qcF,qcB,ZZ,WW,Ze,reduceCtorEq,zd,ze,zb,zf,za]
 refine qad (fun n fr L=>(0:Nat)=n∧fr=(.row (.b 0)::.p (int 0)::.p (int (l.length:Nat))::.p (int (lim:Nat))::.p (.clo g ps)::oC (oo::(.p (.bool true)::.p (.bool true)::oG (oG (oD [])))))∧L=[(.b 0,.row (l.map (fun x=>([int (f0 x)]:List PV))) qhL 1 true)]) ((0:Nat)) _ _ (by (simp only [ZZ,WW,Ze,reduceCtorEq,zd,ze,zb,zf,za];try trivial)) (by (simp only [ZZ,WW,Ze,reduceCtorEq,zd,ze,zb,zf,za];try trivial)) ⟨rfl,rfl,rfl⟩ ?_
 rintro n fr L ⟨rfl,rfl,rfl⟩
 simp only [qb6,ZZ,WW,Ze,reduceCtorEq,zd,ze,zb,zf,za]
 have h12:decide ((l.length:Int)≤12)=true:=by rw [decide_eq_true_eq];omega
 simp only [ZZ,WW,Ze,reduceCtorEq,zd,ze,zb,zf,za,h12,Int.sub_zero]
 refine ⟨qat (by omega) (by omega),?_⟩
 refine useR (qoT f0 cf hO g ps hg l hl hc hn hr) rfl rfl rfl zE_ ?_
 rintro x es ⟨rfl,l',rfl,hp,hs⟩
 refine zS ?_
 exact qlE _ rfl ⟨rfl,l',rfl,hp,hs⟩
theorem qrT {α:Type} (f0:α→Int) (cf:α→α→Int) (hO:OrdP (ltC cf)) (g:FuncId) (ps:List PV) (hg:Unit→fnB Tryz.prog g=true) (l:List α) (hl:l.length≤12) (hc:∀ x∈l,∀ y∈l,PCall Tryz.prog E g (int (f0 x) :: int (f0 y) :: ps) (·=int (cf x y)))
  (hn:∀ x y,Zbh [] (.p (int (f0 x)) :: .p (int (f0 y)) :: ps.map .p)=some (int (f0 x) :: int (f0 y) :: ps)) (hr:∀ x y,Zbj (.p (int (f0 x)) :: .p (int (f0 y)) :: ps.map .p)=true):RCall Tryz.prog E 243 qhL 1 (l.map (fun x=>([int (f0 x)]:List PV))) [.clo g ps] (fun x es'=>x=.tup []∧∃ l':List α,es'=l'.map (fun x=>([int (f0 x)]:List PV))∧l'.Perm l∧SrtP (ltC cf) l'):=by
 have wr:IntKind.u64.wrap (l.length:Int)=l.length:=by simp [IntKind.wrap,IntKind.bits,IntKind.signed];omega
 unfold RCall
 refine qfP mixed Tryz.func243 qg2 ?_
 simp only [a0,l0,OS.ao,zo,zw,zj,zr,zp,zq,zx,zd,zi,zm,zE,qc9,qc5,ZZ,WW,Ze,reduceCtorEq,zd,ze,zb,zf,za]
 rw [wr]
 refine use1 (qpd (l.length:Nat) (by omega) (by omega)) rfl (.inl rfl) ?_
 generalize Lib.bitLen _=lim
 refine zS ?_
 refine useR (quG f0 cf hO g ps hg l hl hc hn hr lim) rfl rfl rfl zE_ ?_
 rintro x es ⟨rfl,l',rfl,hp,hs⟩
 refine zS ?_
 exact qlE _ rfl ⟨rfl,l',rfl,hp,hs⟩
end
def qde:IC:=(sR [qT 30 .lss 29 28] (.seq (.cond (.t 30) .skip (.exit 2)) (.seq (.block 3 (sR [qX 31 1 27 29,qL 32 31,qM 8 32] (.seq (sR [qL 33 1,qM 34 8,qX 35 7 33 34,qF 36 5 35,qL 37 36,qB 38 .eql 37 (.c (.str []))] (.cond (.t 38) (.reg [qM 39 6,qL 40 1,qM 41 8,qX 42 7 40 41,qF 43 0 42,qL 44 43,qO 45 (.bldg [.str [],.nl 1] [(0,1,.t 44)]),qO 46 (.bsr 175 2 [.t 45]),qO 47 (.app 175 2 40 (.t 39) (.t 46)),qM 6 47]) .skip)) (.cut (sR [qM 48 6,qM 49 6,qN 50 49,qB 51 .sub 50 (cI 1),qX 52 2 48 51,qM 9 52] (.drp [1,2,3,4,5,6,7,8,9,10,11,0,12,13,14] [qM 54 9,qO 55 (.nck (.t 54)),qF 56 1 55,qL 57 56,qL 58 1,qM 59 8,qX 60 7 58 59,qF 61 0 60,qL 62 61,qO 63 (.bsl 1 [.t 62]),qO 64 (.app 9 1 16 (.t 57) (.t 63)),qM 53 9,qO 65 (.nck (.t 53)),qF 66 1 65,qS 1 66 64])))))) (.reg [qB 67 .add 29 (cI 1),qM 29 67]))))
def qdf:IC:=(sR [qT 17 .lss 16 15] (.seq (.cond (.t 17) .skip (.exit 0)) (.seq (.block 1 (sR [qM 18 16,qM 5 18] (.reg [qM 19 4,qM 20 5,qM 21 5,qX 22 1 19 20,qS 1 22 21]))) (.reg [qB 23 .add 16 (cI 1),qM 16 23]))))
def qes:IC:=(sR [qO 1 (.box 30 (.t 0)),qO 2 (.mov (.c (.nl 2))),⟨none,.re,none⟩] (sR [qO 10 (.mkf 241 [.t 1]),qO 3 (.alc 255 [.raw .nilFunc]),qS 1 3 10] (sR [qL 11 1,⟨none,.re,none⟩,qN 12 11,qO 13 (.mks 3 1 8 [.int .i64 0] (.t 12) (.t 12)),qM 4 13] (.seq (sR [qM 14 4,qN 15 14,qO 16 (.mov (cI 0))] (.block 0 (.loop qdf))) (sR [qM 24 4,qO 25 (.mkf 244 [.t 3]),qO 26 (.call 243 [.t 24,.t 25])] (sR [qO 6 (.nilr 175 2)] (.seq (sR [qM 27 4,qN 28 27,qO 29 (.mov (cI 0))] (.block 2 (.loop qde))) (sR [qM 68 6,qM 2 68,⟨none,.re,none⟩] .ret))))))))
def qef:List IRes:=[.t 2]
theorem qiq:chkF Tryz.prog Tryz.f196 qes qef 69=true:=by kernel_rfl
def qcI:IC:=(sR [qT 24 .lss 23 22] (.seq (.cond (.t 24) .skip (.exit 0)) (.seq (.block 1 (sR [qX 25 1 21 23,qL 26 25,qM 8 26] (.reg [qL 27 1,qM 28 8,qX 29 7 27 28,qF 30 0 29,qL 31 30,qO 32 (.bsr 9 1 [.t 31]),qM 33 6,qO 34 (.app 9 1 16 (.t 32) (.t 33)),⟨none,.re,none⟩,qM 6 34]))) (.reg [qB 35 .add 23 (cI 1),qM 23 35]))))
def qdD:IC:=(sR [qO 3 (.mov (.c (.nl 1)))] (sR [qL 10 1,qM 11 0,qO 12 (.call 242 [.t 10,.t 11]),qM 9 12,qO 13 (.ext 0 (.t 9)),qO 14 (.ext 1 (.t 9)),qM 4 13,qM 5 14] (sR [qL 15 1,qM 16 0,qX 17 7 15 16,qF 18 0 17,qL 19 18,qO 20 (.bsl 1 [.t 19]),qM 6 20] (.seq (sR [qM 21 4,qN 22 21,qO 23 (.mov (cI 0))] (.block 0 (.loop qcI))) (sR [qM 36 6,qM 3 36] .ret)))))
def qdr:List IRes:=[.t 3]
theorem qhB:chkF Tryz.prog Tryz.f241 qdD qdr 37=true:=by kernel_rfl
def qdC:IC:=(sR [qO 5 (.mov (cI 0))] (.seq (.drg [qL 6 2,qM 7 0,qO 8 (.pcv 0 (.t 6) [.t 7]),qL 9 2,qM 10 1,qO 11 (.pcv 1 (.t 9) [.t 10]),qO 12 (.pcall 2 245 [.t 8,.t 11]),qM 5 12]) .ret))
def qdq:List IRes:=[.t 5]
theorem qhA:chkF Tryz.prog Tryz.f244 qdC qdq 13=true:=by kernel_rfl
def wayF (il:List Itm) (i:Nat):List (List UInt8):=((upF il (atI il i)).map fun v=>(atI il v.toNat).1).reverse++[(atI il i).1]
theorem qAD {il:List Itm} (hP:qbI il) {i:Nat} (hi:i < il.length):∀ v∈upF il (atI il i),∃ j:Nat,v=(j:Nat)∧j < il.length:=by
 intro v hv
 obtain ⟨h20,h1|⟨j,hj,h1,h2⟩⟩:=qmh hP hi
 ·unfold upOf at h1
  rw [upF,if_pos h1] at hv
  cases hv
 ·unfold upOf at h1
  rw [upF,if_neg (by rw [h1];exact qnP j),h1] at hv
  obtain ⟨y,hy⟩:∃ y,il[j]?=some y:=⟨_,zh (by omega)⟩
  rw [qkl hP hy,List.mem_singleton] at hv
  exact ⟨j,hv,by omega⟩
theorem qtR (il:List Itm) (x:Itm):(upF il x).length≤1:=by
 unfold upF
 split<;>simp
theorem qr8 {il:List Itm} (hP:qbI il) {i:Nat} (hi:i < il.length):i < 20∧((wayF il i=[pid i]∧kyF il i=100 * i)∨∃ j,j < i∧wayF il i=[pid j,pid i]∧kyF il i=100 * j+(i+1)):=by
 obtain ⟨h20,h1|⟨j,hj,h1,h2⟩⟩:=qmh hP hi
 ·refine ⟨h20,.inl ⟨?_,by rw [kyF,if_pos h1]⟩⟩
  unfold upOf at h1
  rw [wayF,upF,if_pos h1,qw4 hP hi]
  rfl
 ·refine ⟨h20,.inr ⟨j,hj,?_,?_⟩⟩
  ·have h1':=h1
   unfold upOf at h1'
   obtain ⟨y,hy⟩:∃ y,il[j]?=some y:=⟨_,zh (by omega)⟩
   rw [wayF,upF,if_neg (by rw [h1'];exact qnP j),h1',qkl hP hy,qw4 hP hi]
   simp only [zo,zw,Int.toNat_natCast]
   rw [qw4 hP (by omega)]
   rfl
  ·have:=qrv ⟨j,by omega⟩
   simp only at this
   rw [kyF,if_neg (by rw [h1];exact qnP j),h1,this]
theorem qBG:∀ a b:Fin 20,Lib.compareBytes (pid a.val) (pid b.val)=if a.val < b.val then -1 else if a.val=b.val then 0 else 1:=by decide +kernel
theorem qAh {a b:Nat} (ha:a < 20) (hb:b < 20):Lib.compareBytes (pid a) (pid b)=if a < b then -1 else if a=b then 0 else 1:=qBG ⟨a,ha⟩ ⟨b,hb⟩
theorem qAA {il:List Itm} (hP:qbI il) {i j:Nat} (hi:i < il.length) (hj:j < il.length):lexC (wayF il i) (wayF il j) < 0↔kyF il i < kyF il j:=by
 obtain ⟨i20,hi2⟩:=qr8 hP hi
 obtain ⟨j20,hj2⟩:=qr8 hP hj
 rcases hi2 with ⟨w1,k1⟩|⟨a,ha,w1,k1⟩<;>rcases hj2 with ⟨w2,k2⟩|⟨b,hb,w2,k2⟩<;>rw [w1,w2,k1,k2]<;>simp only [lexC]<;>(repeat rw [qAh (by omega) (by omega)])<;>repeat' split
 all_goals omega
def cfW (il:List Itm) (i j:Nat):Int:=if i < il.length∧j < il.length then lexC (wayF il i) (wayF il j) else (kyF il i:Int) - kyF il j
theorem qyj {il:List Itm} (hP:qbI il):ltC (cfW il)=fun i j=>decide (kyF il i < kyF il j):=by
 funext i j
 unfold ltC cfW
 rw [decide_eq_decide]
 split
 ·rename_i h
  exact qAA hP h.1 h.2
 ·omega
theorem qAf {il:List Itm} (hP:qbI il):OrdP (ltC (cfW il)):=by
 rw [qyj hP]
 constructor
 ·intro x y h
  simp only [decide_eq_true_eq,decide_eq_false_iff_not] at *
  omega
 ·intro x y z h1 h2
  simp only [decide_eq_false_iff_not] at *
  omega
theorem qAe {il:List Itm} (hP:qbI il) {o:List Nat} (hp:o.Perm (zJ il.length)) (hs:SrtP (ltC (cfW il)) o):o=ordX il:=by
 refine qwK hP hp ?_
 unfold SrtP at hs
 rw [qyj hP] at hs
 refine hs.imp fun h=>?_
 simp only [decide_eq_false_iff_not] at h
 omega
section
variable {E:Envt}
theorem qx2 (il:List Itm) (hP:qbI il) (i:Nat) (hi:i < il.length):PCall Tryz.prog E 241 [int (i:Nat),.ptr [.sl 7 (itE il)]] (·=.sl 1 (strE (wayF il i))):=by
 have h20:=hP.1
 obtain ⟨x,hx⟩:∃ x,il[i]?=some x:=⟨_,zh hi⟩
 have hg:=qeo hx
 have ha:=qn5 hx
 have hu:=qAD hP hi
 have hul:=qtR il x
 have hw:wayF il i=((upF il x).map fun v=>(atI il v.toNat).1).reverse++[x.1]:=by rw [wayF,ha]
 rw [ha] at hu
 rw [hw]
 simp only [itC] at hg
 refine qag mixed Tryz.func241 qhB ?_
 simp only [a0,l0,OS.ao,zo,zw,zj,zr,zp,zq,zx,zd,zi,zm,qdD,qdr,ZZ,WW,Ze,reduceCtorEq,zd,ze,zb,zf,za]
 refine use1 (qjK il hP i x hx) rfl (.inl rfl) ?_
 generalize upF il x=u at *
 simp only [ZZ,WW,Ze,reduceCtorEq,zd,ze,zb,zf,za,hg,qan,qik]
 ((with_reducible and_intros)<;>try exact sc_)
 refine qad (fun n fr L=>∃ (k:Nat) (w:List (List UInt8)),k≤u.length∧n=u.length - k∧(w=((u.take k).map fun v=>(atI il v.toNat).1).reverse++[x.1])∧fr=(.p (int (i:Nat))::.p (.ptr [.sl 7 (itE il)])::oo::oo::oo::oo::.p (.sl 1 (strE w))::oD (oC (oB (.p (.sl 1 (ixE u))::.p (int (u.length:Nat))::.p (int (k:Nat))::oD (oC (oo::[]))))))∧L=[]) (u.length) _ [] (by simp only [ZZ,WW,Ze,reduceCtorEq,zd,ze,zb,zf,za,qik];try trivial) (by (simp only [ZZ,WW,Ze,reduceCtorEq,zd,ze,zb,zf,za];try trivial)) ⟨0,[x.1],by omega,by omega,rfl,rfl,rfl⟩ ?_
 rintro n fr L ⟨k,w,hk,rfl,hwk,rfl,rfl⟩
 simp only [qcI,ZZ,WW,Ze,reduceCtorEq,zd,ze,zb,zf,za]
 refine br ?_ ?_
 ·intro h
  have hlt:k < u.length:=by have:=of_decide_eq_true h;omega
  obtain ⟨v,hv⟩:∃ v,u[k]?=some v:=⟨_,zh hlt⟩
  have hgu:=qu7 hv
  obtain ⟨j,hvj,hjl⟩:=hu v (zy hv)
  obtain ⟨y,hy⟩:∃ y,il[j]?=some y:=⟨_,zh hjl⟩
  have hgy:=qeo hy
  simp only [itC] at hgy
  have hwl:w.length≤3:=by rw [hwk];simp only [zC,List.length_reverse,zE,zN,List.length_singleton];omega
  rw [hvj] at hgu
  simp only [ZZ,WW,Ze,reduceCtorEq,zd,ze,zb,zf,za,hgu,hgy,qan,qik,qai]
  ((with_reducible and_intros)<;>try exact sc_)
  rw [qbc]
  refine ⟨_,_,qbA (k:=.l 32) rfl,?_⟩
  refine zS ?_
  ((with_reducible and_intros)<;>try exact sc_)
  refine qac (u.length - (k+1)) _ [] (by omega) (by (simp only [ZZ,WW,Ze,reduceCtorEq,zd,ze,zb,zf,za];try trivial)) (by (simp only [ZZ,WW,Ze,reduceCtorEq,zd,ze,zb,zf,za];try trivial)) ⟨k+1,y.1 :: w,by omega,rfl,by rw [hwk,zB hlt,(zt.1 hv).2,hvj];simp [qn5 hy],rfl,rfl⟩
 intro h
 have hge:u.length≤k:=by have:=of_decide_eq_false h;omega
 rw [zG hge] at hwk
 refine zS ?_
 rw [hwk]
theorem qyo (il:List Itm) (hP:qbI il) (i j:Nat) (hi:i < il.length) (hj:j < il.length):PCall Tryz.prog E 244 [int (i:Nat),int (j:Nat),.ptr [.clo 241 [.ptr [.sl 7 (itE il)]]]] (·=int (cfW il i j)):=by
 have hc:cfW il i j=lexC (wayF il i) (wayF il j):=by rw [cfW,if_pos ⟨hi,hj⟩]
 rw [hc]
 refine qag mixed Tryz.func244 qhA ?_
 simp only [a0,l0,OS.ao,zo,zw,zj,zr,zp,zq,zx,zd,zi,zm,qdC,qdq,ZZ,WW,Ze,reduceCtorEq,zd,ze,zb,zf,za]
 refine ⟨[.sl 1 (strE (wayF il i)),.sl 1 (strE (wayF il j)),int (lexC (wayF il i) (wayF il j))],?_⟩
 refine zS ?_
 have wl:∀ i,(wayF il i).length≤2:=fun i=>by
  have:=qtR il (atI il i)
  simp only [wayF,zC,List.length_reverse,zE,List.length_singleton]
  omega
 have w1:=wl i
 have w2:=wl j
 exact ⟨⟨by kernel_rfl,usep (qx2 il hP i hi) rfl (.inl rfl)⟩,⟨by kernel_rfl,usep (qx2 il hP j hj) rfl (.inl rfl)⟩,usep (qqM _ _ (by omega) (by omega)) rfl (.inl rfl)⟩
end
abbrev tFm:Nat:=175
abbrev fWay:Nat:=241
abbrev tStF:Nat:=9
def fmC (f:Fam):List PV:=[.str f.1,.sl 1 (strE f.2)]
def fmA (I:List Fam):List (List AV):=I.map fun f=>[.p (.str f.1),.p (.sl 1 (strE f.2))]
theorem qm8:∀ I:List Fam,Zbb (fmA I)=some (I.map fmC)
 |[]=>rfl
 |f :: r=>by
  have ih:=qm8 r
  simp only [fmA,zo] at ih ⊢
  rw [Zbb,ih]
  rfl
theorem qoZ (I:List Fam) (k:Key):(fmA I).map (fun x=>x.map fun y=>AV.kill k y)=fmA I:=by
 unfold fmA
 rw [List.map_map]
 exact zX fun _ _=>rfl
theorem qvk (I:List Fam) (s:List UInt8):(fmA I++[[.p (.str s),AV.row (.l 64)]]).map (fun x=>x.map fun y=>AV.ren (r1 64 1000) y)=fmA I++[[.p (.str s),AV.row (.l 1000)]]:=by
 rw [zT]
 congr 1
 unfold fmA
 rw [List.map_map]
 exact zX fun _ _=>rfl
theorem qlD (I:List Fam):(fmA I).length=I.length:=by simp [fmA]
theorem qk6 (I:List Fam) (x:List AV):(fmA I++[x]).length=I.length+1:=by rw [zC,qlD];rfl
theorem qmq (I:List Fam) (x:List AV):(fmA I++[x]).getD I.length []=x:=by
 rw [List.getD,List.getElem?_append_right (by rw [qlD];exact Nat.le_refl _),qlD,Nat.sub_self]
 rfl
theorem qoY (I:List Fam) (x y:List AV):(fmA I++[x]).set I.length y=fmA I++[y]:=by
 rw [List.set_append_right _ _ (by rw [qlD];exact Nat.le_refl _),qlD,Nat.sub_self]
 rfl
theorem qqs (I:List Fam) (k:Key) (s:List UInt8) (c:AV):(fmA I++[[.p (.str s),c]]).map (fun x=>x.map fun y=>AV.kill k y)=fmA I++[[.p (.str s),c.kill k]]:=by
 rw [zT,qoZ];rfl
def FmJ (L:Objs) (k:Nat):Option (List Fam×Fam)→Prop
 |none=>Zas L (.l 6)=some (.rowv (fmA []) tFm 2)
 |some (I,c)=>I.length≤k∧c.2.length≤k∧Zas L (.l 6)=some (.rowv (fmA I++[[.p (.str c.1),.row (.l 1000)]]) tFm 2)∧Zas L (.l 1000)=some (.row (strE c.2) tStF 1 true)
theorem qsQ {E:Envt} {fr:List AV} {L:Objs} {I:List Fam} {c:Fam} {x:List (List AV)} (hfr:∀ y,fr.map (·.thaw (.l 1000) y)=fr) (hx:∀ y,x.map (fun c=>c.map (AV.thaw (.l 1000) y))=x) (h1:Zas L (.l 6)=some (.rowv (fmA I++[[.p (.str c.1),.row (.l 1000)]]++x) tFm 2)) (h2:Zas L (.l 1000)=some (.row (strE c.2) tStF 1 true)) {es:List (List PV)} {e z:Nat} {ap:Bool} (h3:Zas L (.l 13)=some (.row es e z ap)) :
  ∃ L',ReOk E fr L fr L'∧Zas L' (.l 6)=some (.rowv (fmA (I++[c])++x) tFm 2)∧Zas L' (.l 13)=some (.row es e z ap):=by
 have hr:=qbA (E:=E) (fr:=fr) h2
 rw [hfr] at hr
 refine ⟨_,hr,?_,?_⟩
 ·rw [qfe,if_neg (by simp),h1,zQ,AO.thaw]
  congr 2
  rw [zT,zT,hx]
  simp [fmA,AV.thaw]
 ·rw [qfe,if_neg (by simp),h3];rfl
def ixK (n k:Nat):List (List PV):=(zJ n).map fun i=>[int ((if i < k then i else 0:Nat):Nat)]
theorem qu6 (n k:Nat):(ixK n k).length=n:=by simp [ixK]
theorem qzH {n k:Nat} (h:k < n):(ixK n k).set k [int (k:Nat)]=ixK n (k+1):=by
 apply List.ext_getElem
 ·simp [ixK]
 ·intro i h1 h2
  simp only [ixK,zE,List.length_range,yq] at h1 h2
  rw [List.getElem_set]
  simp only [ixK,List.getElem_map,List.getElem_range]
  by_cases e:k=i
  ·subst e
   rw [if_pos rfl,if_pos (by omega)]
  ·rw [if_neg e]
   by_cases e2:i < k
   ·rw [if_pos e2,if_pos (by omega)]
   ·rw [if_neg e2,if_neg (by omega)]
theorem qwX (n:Nat):List.replicate n [int 0]=ixK n 0:=by simp [ixK,List.map_const']
theorem qzI (n:Nat):ixK n n=(zJ n).map fun i=>[int ((i:Nat):Int)]:=by
 unfold ixK
 refine zX fun i hi=>?_
 rw [List.mem_range] at hi
 rw [if_pos hi]
section
variable {E:Envt}
set_option maxHeartbeats 4000000 in
theorem qpz (il:List Itm) (hP:qbI il) (h12:il.length≤12):PCall Tryz.prog E 196 [.sl 7 (itE il)] (·=.sl 2 ((famF il).map fmC)):=by
 refine qag mixed Tryz.func196 qiq ?_
 simp only [a0,l0,OS.ao,zo,zw,zj,zr,zp,zq,zx,zd,zi,zm,qes,qef,ZZ,WW,Ze,reduceCtorEq,zd,ze,zb,zf,za]
 rw [qbc]
 refine ⟨_,_,qkc (k:=.l 1) (cs:=[.sl 7 (itE il)]) rfl,?_⟩
 simp only [ZZ,WW,Ze,reduceCtorEq,zd,ze,zb,zf,za,qan]
 ((with_reducible and_intros)<;>try exact sc_)
 rw [qbc]
 refine ⟨_,_,qkc (k:=.l 3) (cs:=[.clo 241 [.ptr [.sl 7 (itE il)]]]) rfl,?_⟩
 simp only [ZZ,WW,Ze,reduceCtorEq,zd,ze,zb,zf,za,qan]
 refine ⟨by omega,?_⟩
 rw [qwX,qu6]
 refine qad (fun n fr L=>∃ (k:Nat),k≤il.length∧n=il.length - k∧fr=(oo::.p (.ptr [.sl 7 (itE il)])::oo::.p (.ptr [.clo fWay [.ptr [.sl 7 (itE il)]]])::.row (.l 13)::oD (oB (.p (int (il.length:Nat))::.p (int (k:Nat))::oF (oE (oC [])))))∧L=[(.l 13,.row (ixK il.length k) 3 1 true)]) (il.length) _ _ zF_ (by (simp only [ZZ,WW,Ze,reduceCtorEq,zd,ze,zb,zf,za];try trivial)) ⟨0,by omega,by omega,rfl,rfl⟩ ?_
 rintro n fr L ⟨k,hk,rfl,rfl,rfl⟩
 simp only [qdf,ZZ,WW,Ze,reduceCtorEq,zd,ze,zb,zf,za]
 refine br ?_ ?_
 ·intro h
  have hlt:k < il.length:=by have:=of_decide_eq_true h;omega
  have hst:=qzH hlt
  have hgk:(ixK il.length k).getD k []=[int 0]:=by rw [ixK,qaC (List.getElem?_range hlt)];simp
  simp only [ZZ,WW,Ze,reduceCtorEq,zd,ze,zb,zf,za,qu6,hst,hgk]
  ((with_reducible and_intros)<;>try exact sc_)
  refine qac (il.length - (k+1)) _ _ (by omega) (by (simp only [ZZ,WW,Ze,reduceCtorEq,zd,ze,zb,zf,za];try trivial)) (by (simp only [ZZ,WW,Ze,reduceCtorEq,zd,ze,zb,zf,za];try trivial)) ⟨k+1,by omega,rfl,rfl,rfl⟩
 intro h
 have hge:k=il.length:=by have:=of_decide_eq_false h;omega
 subst hge
 rw [qzI]
 refine zS ?_
 refine useR (qrT (fun i:Nat=>(i:Int)) (cfW il) (qAf hP) 244 [.ptr [.clo 241 [.ptr [.sl 7 (itE il)]]]] (fun _=>by kernel_rfl) (zJ il.length) (by rw [List.length_range];exact h12) (fun i hi j hj=>qyo il hP i j (by simpa using hi) (by simpa using hj)) (fun _ _=>rfl) (fun _ _=>rfl)) rfl rfl rfl zE_ ?_
 rintro _ _ ⟨rfl,o,rfl,hp,hs⟩
 have ho:=qAe hP hp hs
 subst ho
 have hol:(ordX il).length=il.length:=by rw [hp.length_eq,List.length_range]
 simp only [ZZ,WW,Ze,reduceCtorEq,zd,ze,zb,zf,za,zE,hol]
 obtain ⟨OC,hOC⟩:∃ OC:List (List PV),OC=(ordX il).map fun x=>[int ((x:Nat):Int)]:=⟨_,rfl⟩
 rw [← hOC]
 have hOl:OC.length=il.length:=by rw [hOC,zE,hol]
 obtain ⟨J,hJ⟩:∃ J:Nat→Objs→Prop,J=fun k L=>(k < il.length∧FmJ L k (stG il ((ordX il).take k))∧Zas L (.l 13)=some (.row OC qhL 1 true))∨(k=il.length∧Zas L (.l 6)=some (.row ((famF il).map fmC) tFm 2 true)):=⟨_,rfl⟩
 have hfr:∀ (q:Nat) (y:PV),List.map (fun x:AV=>x.thaw (.l 1000) y) (oo::.p (.ptr [.sl 7 (itE il)])::oo::oo::oo::oo::.row (.l 6)::oE (oC (.row (.l 13)::.p (int (il.length:Nat))::.p (int (q:Nat))::oF (oC (oB (oo::[]))))))=(oo::.p (.ptr [.sl 7 (itE il)])::oo::oo::oo::oo::.row (.l 6)::oE (oC (.row (.l 13)::.p (int (il.length:Nat))::.p (int (q:Nat))::oF (oC (oB (oo::[])))))):=by
  intro q y
  have e1:(Key.l 6=.l 1000)=False:=by simp
  have e2:(Key.l 13=.l 1000)=False:=by simp
  simp only [zo,zw,AV.thaw,e1,e2,if_false]
 have hnx:∀ k L,k≤il.length→FmJ L k (stG il ((ordX il).take k))→Zas L (.l 13)=some (.row OC qhL 1 true)→∃ L',ReOk E (oo::.p (.ptr [.sl 7 (itE il)])::oo::oo::oo::oo::.row (.l 6)::oE (oC (.row (.l 13)::.p (int (il.length:Nat))::.p (int (k:Nat))::oF (oC (oB (oo::[])))))) L (oo::.p (.ptr [.sl 7 (itE il)])::oo::oo::oo::oo::.row (.l 6)::oE (oC (.row (.l 13)::.p (int (il.length:Nat))::.p (int (k:Nat))::oF (oC (oB (oo::[])))))) L'∧J k L':=by
  intro k L hk h h13
  by_cases hkl:k < il.length
  ·exact ⟨L,ReOk.refl,by rw [hJ];exact .inl ⟨hkl,h,h13⟩⟩
  ·have hke:k=il.length:=by omega
   have hG:=qzv hP
   rw [zG (by omega)] at h
   generalize stG il (ordX il)=G at *
   cases G with
   |none=>
    refine ⟨_,qhh h (qm8 []),?_⟩
    rw [hJ,← hG]
    refine .inr ⟨hke,?_⟩
    rw [qab,if_pos rfl]
    rfl
   |some G=>
    obtain ⟨I,c⟩:=G
    obtain ⟨_,_,h1,h2⟩:=h
    obtain ⟨L1,r1,h3,_⟩:=qsQ (E:=E) (fr:=(oo::.p (.ptr [.sl 7 (itE il)])::oo::oo::oo::oo::.row (.l 6)::oE (oC (.row (.l 13)::.p (int (il.length:Nat))::.p (int (k:Nat))::oF (oC (oB (oo::[]))))))) (x:=[]) (hfr k) (fun _=>rfl) (by rw [List.append_nil];exact h1) h2 h13
    rw [List.append_nil] at h3
    refine ⟨_,ReOk.trans r1 (qhh h3 (qm8 _)),?_⟩
    rw [hJ,← hG]
    refine .inr ⟨hke,?_⟩
    rw [qab,if_pos rfl]
    rfl
 obtain ⟨L1,q1,q2⟩:=hnx 0 [(.l 13,.row OC qhL 1 true),(.l 6,.rowv (fmA []) tFm 2)] (by omega) rfl rfl
 refine qoP (fun m fr L=>∃ k,k≤il.length∧m=il.length - k∧fr=(oo::.p (.ptr [.sl 7 (itE il)])::oo::oo::oo::oo::.row (.l 6)::oE (oC (.row (.l 13)::.p (int (il.length:Nat))::.p (int (k:Nat))::oF (oC (oB (oo::[]))))))∧J k L) il.length _ L1 (ReOk.trans (qmV zF_) (ReOk.trans (qmU (k:=.l 6) rfl) q1)) ⟨0,by omega,by omega,rfl,q2⟩ ?_
 clear q1 q2 L1
 rintro m fr L ⟨k,hk,rfl,rfl,hj⟩
 simp only [qde,ZZ,WW,Ze,reduceCtorEq,zd,ze,zb,zf,za]
 rw [hJ] at hj
 refine br ?_ ?_
 ·intro h
  have hlt:k < il.length:=by have:=of_decide_eq_true h;omega
  rcases hj with ⟨_,hj,h13⟩|⟨e,_⟩
  rotate_left
  ·omega
  obtain ⟨i,hi⟩:∃ i,(ordX il)[k]?=some i:=⟨_,zh (by omega)⟩
  have hgo:OC.getD k []=[int ((i:Nat):Int)]:=by rw [hOC];exact qaC hi
  have hil:i < il.length:=(qrk hP i).1 (zy hi)
  obtain ⟨x,hx⟩:∃ x,il[i]?=some x:=⟨_,zh hil⟩
  have hg:=qeo hx
  have hax:=qn5 hx
  simp only [itC] at hg
  have hnx1:=fun L=>hnx (k+1) L (by omega)
  have hsn:stG il ((ordX il).take (k+1))=stpG il (stG il ((ordX il).take k)) i:=by rw [← qwd,zB (by omega),(zt.1 hi).2]
  have hps:=qyz hP (k:=k+1) (by omega) (by omega)
  rw [hsn] at hnx1 hps
  generalize stG il ((ordX il).take k)=G at *
  unfold stpG at hnx1 hps
  rw [hax] at hnx1 hps
  by_cases hup:upOf x=[]
  ·rw [if_pos hup] at hnx1
   unfold upOf at hup
   cases G with
   |none=>
    have hj:Zas L (.l 6)=some (.rowv (fmA []) tFm 2):=hj
    have hk0:(fmA []).map (fun x=>x.map fun y=>AV.kill (.l 6) y)=fmA []:=qoZ [] _
    obtain ⟨I,hI⟩:∃ I:List Fam,I=[]:=⟨_,rfl⟩
    rw [← hI] at hj hk0
    have hIl:I.length≤20:=by rw [hI];simp
    have hk46:(fmA I).map (fun x=>x.map fun y=>AV.kill (.l 46) y)=fmA I:=qoZ I _
    have hix:((I.length+1:Nat):Int) - 1=(I.length:Nat):=by omega
    simp only [ZZ,WW,Ze,reduceCtorEq,zd,ze,zb,zf,za,hgo,hg,qan,hOl,hj,h13,hup,hk0,hk46,qlD,qas,qab,qav,decide_true]
    ((with_reducible and_intros)<;>try exact sc_)
    generalize hLL:Zat (Zau (Key.l 6) _) (Key.l 6) _=LL
    have q6:Zas LL (.l 6)=some (.rowv (fmA I++[[.p (.str x.1),.p (.nl 1)]]) tFm 2):=by rw [← hLL,qab,if_pos rfl]
    have q13:Zas LL (.l 13)=some (.row OC qhL 1 true):=by
     rw [← hLL]
     simp only [qas,qab,qav,h13,ZZ,WW,Ze,reduceCtorEq,zd,ze,zb,zf,za]
    refine qbh (oo::.p (.ptr [.sl 7 (itE il)])::oo::oo::oo::oo::.row (.l 6)::oo::.p (int (i:Nat))::oE (oB (.row (.l 13)::.p (int (il.length:Nat))::.p (int (k:Nat))::oF (oC (oB (oo::[])))))) LL (qmV zF_) ?_
    clear hLL hj h13
    have hln:=qk6 I [.p (.str x.1),.p (.nl 1)]
    have hix:((I.length+1:Nat):Int) - 1=(I.length:Nat):=by omega
    have hla:=qmq I [.p (.str x.1),.p (.nl 1)]
    have hk64:=qqs I (.l 64) x.1 (.p (.nl 1))
    simp only [AV.kill] at hk64
    simp only [ZZ,WW,Ze,reduceCtorEq,zd,ze,zb,zf,za,hg,qan,q6,hln,hix,hla,qas,qab,qav]
    ((with_reducible and_intros)<;>try exact sc_)
    refine ⟨[],?_⟩
    simp only [ZZ,WW,Ze,reduceCtorEq,zd,ze,zb,zf,za,hg,qan,q6,hln,hix,hla,hk64,qoY,qas,qab,qav]
    refine ⟨by omega,⟨by omega,by omega⟩,by omega,by omega,qat (by omega) (by omega),?_⟩
    generalize hLM:Zat (Zat (Zau (Key.l 64) LL) (Key.l 64) _) (Key.l 6) _=LM
    have w6:Zas (mapO (r1 64 1000) LM) (.l 6)=some (.rowv (fmA I++[[.p (.str x.1),.row (.l 1000)]]) tFm 2):=by
     rw [qcQ,if_neg (by simp),if_neg (by simp),← hLM,qab,if_pos rfl]
     simp only [zQ,AO.ren]
     exact congrArg (fun c=>some (AO.rowv c tFm 2)) (qvk _ _)
    have w1:Zas (mapO (r1 64 1000) LM) (.l 1000)=some (.row (strE [x.1]) tStF 1 true):=by
     rw [qcQ,if_pos rfl,← hLM,qab,if_neg (by simp),qab,if_pos rfl]
     rfl
    have w13:Zas (mapO (r1 64 1000) LM) (.l 13)=some (.row OC qhL 1 true):=by
     rw [qcQ,if_neg (by simp),if_neg (by simp),← hLM,qab,if_neg (by simp),qab,if_neg (by simp),qav,q13]
     rfl
    rw [hI] at w6
    obtain ⟨L2,r2,h2⟩:=hnx1 (mapO (r1 64 1000) LM) ⟨by show ([]:List Fam).length≤k+1;simp,by show [x.1].length≤k+1;simp,w6,w1⟩ w13
    refine qkh (il.length - (k+1)) _ L2 (by omega) (ReOk.trans (qss 64 1000) (ReOk.trans (qmV (by simp only [AV.ren,r1,ZZ,WW,Ze,reduceCtorEq,zd,ze,zb,zf,za];try trivial)) r2)) ⟨k+1,by omega,rfl,rfl,h2⟩
   |some G=>
    obtain ⟨I,c⟩:=G
    obtain ⟨hI,hc,h6,h1⟩:=hj
    have hI:I.length≤k:=hI
    have hc:c.2.length≤k:=hc
    have hln:=qk6 I [.p (.str c.1),.row (.l 1000)]
    have hk1:=qqs I (.l 6) c.1 (.row (.l 1000))
    have hk46:=qqs I (.l 46) c.1 (.row (.l 1000))
    simp only [AV.kill,Key.l.injEq,za,if_false] at hk1 hk46
    simp only [ZZ,WW,Ze,reduceCtorEq,zd,ze,zb,zf,za,hgo,hg,qan,hOl,h6,h13,hup,hln,hk1,hk46,qas,qab,qav,decide_true]
    ((with_reducible and_intros)<;>try exact sc_)
    generalize hLL:Zat (Zau (Key.l 6) _) (Key.l 6) _=LL
    have q6:Zas LL (.l 6)=some (.rowv (fmA I++[[.p (.str c.1),.row (.l 1000)]]++[[.p (.str x.1),.p (.nl 1)]]) tFm 2):=by rw [← hLL,qab,if_pos rfl]
    have q13:Zas LL (.l 13)=some (.row OC qhL 1 true):=by
     rw [← hLL]
     simp only [qas,qab,qav,h13,ZZ,WW,Ze,reduceCtorEq,zd,ze,zb,zf,za]
    have q1:Zas LL (.l 1000)=some (.row (strE c.2) tStF 1 true):=by
     rw [← hLL]
     simp only [qas,qab,qav,h1,ZZ,WW,Ze,reduceCtorEq,zd,ze,zb,zf,za]
    obtain ⟨L3,r3,q6,q13⟩:=qsQ (E:=E) (fr:=(oo::.p (.ptr [.sl 7 (itE il)])::oo::oo::oo::oo::.row (.l 6)::oo::.p (int (i:Nat))::oE (oB (.row (.l 13)::.p (int (il.length:Nat))::.p (int (k:Nat))::oF (oC (oB (oo::[]))))))) (x:=[[.p (.str x.1),.p (.nl 1)]]) (by
     intro y
     have e1:(Key.l 6=.l 1000)=False:=by simp
     have e2:(Key.l 13=.l 1000)=False:=by simp
     simp only [zo,zw,AV.thaw,e1,e2,if_false]) (fun _=>rfl) q6 q1 q13
    refine qbh (oo::.p (.ptr [.sl 7 (itE il)])::oo::oo::oo::oo::.row (.l 6)::oo::.p (int (i:Nat))::oE (oB (.row (.l 13)::.p (int (il.length:Nat))::.p (int (k:Nat))::oF (oC (oB (oo::[])))))) L3 (ReOk.trans (qmV zF_) r3) ?_
    clear r3 hLL h6 h13 h1 q1
    have hIl:(I++[c]).length≤20:=by simp;omega
    generalize hI2:I++[c]=I2 at *
    have hln:=qk6 I2 [.p (.str x.1),.p (.nl 1)]
    have hix:((I2.length+1:Nat):Int) - 1=(I2.length:Nat):=by omega
    have hla:=qmq I2 [.p (.str x.1),.p (.nl 1)]
    have hk64:=qqs I2 (.l 64) x.1 (.p (.nl 1))
    simp only [AV.kill] at hk64
    simp only [ZZ,WW,Ze,reduceCtorEq,zd,ze,zb,zf,za,hg,qan,q6,hln,hix,hla,qas,qab,qav]
    ((with_reducible and_intros)<;>try exact sc_)
    refine ⟨[],?_⟩
    simp only [ZZ,WW,Ze,reduceCtorEq,zd,ze,zb,zf,za,hg,qan,q6,hln,hix,hla,hk64,qoY,qas,qab,qav]
    refine ⟨by omega,⟨by omega,by omega⟩,by omega,by omega,qat (by omega) (by omega),?_⟩
    generalize hLM:Zat (Zat (Zau (Key.l 64) L3) (Key.l 64) _) (Key.l 6) _=LM
    have w6:Zas (mapO (r1 64 1000) LM) (.l 6)=some (.rowv (fmA I2++[[.p (.str x.1),.row (.l 1000)]]) tFm 2):=by
     rw [qcQ,if_neg (by simp),if_neg (by simp),← hLM,qab,if_pos rfl]
     simp only [zQ,AO.ren]
     exact congrArg (fun c=>some (AO.rowv c tFm 2)) (qvk _ _)
    have w1:Zas (mapO (r1 64 1000) LM) (.l 1000)=some (.row (strE [x.1]) tStF 1 true):=by
     rw [qcQ,if_pos rfl,← hLM,qab,if_neg (by simp),qab,if_pos rfl]
     rfl
    have w13:Zas (mapO (r1 64 1000) LM) (.l 13)=some (.row OC qhL 1 true):=by
     rw [qcQ,if_neg (by simp),if_neg (by simp),← hLM,qab,if_neg (by simp),qab,if_neg (by simp),qav,q13]
     rfl
    have hI3:I2.length≤k+1:=by rw [← hI2,zC];simp;omega
    rw [← hI2] at w6 hI3
    obtain ⟨L2,r2,h2⟩:=hnx1 (mapO (r1 64 1000) LM) ⟨hI3,by show [x.1].length≤k+1;simp,w6,w1⟩ w13
    refine qkh (il.length - (k+1)) _ L2 (by omega) (ReOk.trans (qss 64 1000) (ReOk.trans (qmV (by simp only [AV.ren,r1,ZZ,WW,Ze,reduceCtorEq,zd,ze,zb,zf,za];try trivial)) r2)) ⟨k+1,by omega,rfl,rfl,h2⟩
  ·rw [if_neg hup] at hnx1 hps
   unfold upOf at hup
   cases G with
   |none=>obtain ⟨I,c,e⟩:=hps;cases e
   |some G=>
    obtain ⟨I,c⟩:=G
    obtain ⟨hI,hc,h6,h1⟩:=hj
    have hI:I.length≤k:=hI
    have hc:c.2.length≤k:=hc
    have hln:=qk6 I [.p (.str c.1),.row (.l 1000)]
    have hix:((I.length+1:Nat):Int) - 1=(I.length:Nat):=by omega
    have hla:=qmq I [.p (.str c.1),.row (.l 1000)]
    simp only [ZZ,WW,Ze,reduceCtorEq,zd,ze,zb,zf,za,hgo,hg,qan,hOl,h6,h13,h1,hup,hln,qas,qab,qav,decide_false]
    ((with_reducible and_intros)<;>try exact sc_)
    refine qbh _ _ ReOk.refl ?_
    simp only [ZZ,WW,Ze,reduceCtorEq,zd,ze,zb,zf,za,hgo,hg,qan,hOl,h6,h13,h1,hup,hln,hix,hla,qai,qas,qab,qav]
    ((with_reducible and_intros)<;>try exact sc_)
    refine ⟨[],?_⟩
    have hk2:=qqs I (.l 1000) c.1 (.row (.l 1000))
    simp only [AV.kill,if_true] at hk2
    have hln2:=qk6 I [.p (.str c.1),oo]
    have hla2:=qmq I [.p (.str c.1),oo]
    simp only [ZZ,WW,Ze,reduceCtorEq,zd,ze,zb,zf,za,hg,qan,h6,h13,h1,hln,hix,hla,hk2,hln2,hla2,qoY,qai,qas,qab,qav]
    refine ⟨by omega,⟨by omega,by omega⟩,by omega,by omega,by omega,qat (by omega) (by omega),?_⟩
    generalize hLL:Zat (Zat (Zau (Key.l 1000) L) (Key.l 1000) _) (Key.l 6) _=LL
    obtain ⟨L2,r2,h2⟩:=hnx1 LL ⟨by show I.length≤k+1;omega,by show (c.2++[x.1]).length≤k+1;simp only [zC,List.length_singleton];omega,by rw [← hLL,qab,if_pos rfl],by rw [← hLL,qab,if_neg (by simp),qab,if_pos rfl,qjR];rfl⟩ (by rw [← hLL,qab,if_neg (by simp),qab,if_neg (by simp),qav,h13];rfl)
    refine qkh (il.length - (k+1)) _ L2 (by omega) (ReOk.trans (qmV zF_) r2) ⟨k+1,by omega,rfl,rfl,h2⟩
 ·intro h
  have hge:k=il.length:=by have:=of_decide_eq_false h;omega
  rcases hj with ⟨e,_⟩|⟨_,hO⟩
  ·omega
  subst hge
  refine zS ?_
  rw [qbc]
  refine ⟨_,_,qbA (k:=.l 6) hO,?_⟩
  refine zS ?_
  trivial
end
def qd4:IC:=(sR [qT 14 .lss 13 12] (.seq (.cond (.t 14) .skip (.exit 0)) (.seq (.block 1 (sR [qX 15 2 11 13,qO 16 (.ld 2 true (.t 15)),qO 9 (.alc 175 [.str [],.nl 1]),qS 2 9 16] (sR [qF 17 1 9,qL 18 17,qO 19 (.mkf 197 [.t 4]),qO 20 (.call 92 [.t 18,.t 19])] (.cond (.t 20) (.reg [qM 21 7,qO 22 (.ld 2 true (.t 9)),qO 23 (.bsl 2 [.t 22]),qO 24 (.app 175 2 40 (.t 21) (.t 23)),qM 7 24]) .skip)))) (.cut (.reg [qB 25 .add 13 (cI 1),qM 13 25])))))
def qfM:IC:=(sR [qO 3 (.box 30 (.t 0)),qO 4 (.box 27 (.t 1)),qO 5 (.box 3 (.t 2)),qO 6 (.mov (.c (.nl 2))),⟨none,.re,none⟩] (sR [qO 7 (.nilr 175 2)] (.seq (sR [qL 10 3,qO 11 (.call 196 [.t 10]),qN 12 11,qO 13 (.mov (cI 0))] (.block 0 (.loop qd4))) (sR [qM 26 7,qO 27 (.mkf 199 [.t 3,.t 5]),qO 28 (.call 198 [.t 26,.t 27])] (sR [qM 29 7,qM 6 29,⟨none,.re,none⟩] .ret)))))
def qfx:List IRes:=[.t 6]
theorem qjD:chkF Tryz.prog Tryz.f150 qfM qfx 30=true:=by kernel_rfl
def qeD:IC:=(sR [qO 3 (.mov (.c (.bool false)))] (sR [qL 4 1,qM 5 0,qO 6 (.call 151 [.t 4,.t 5]),qO 7 (.fld 1 1 false (.t 6)),qB 8 .eql 7 (cI 1),qM 3 8] .ret))
def qek:List IRes:=[.t 3]
theorem qiv:chkF Tryz.prog Tryz.f197 qeD qek 9=true:=by kernel_rfl
def qbj:IC:=(sR [qO 4 (.box 175 (.t 0)),qO 5 (.box 175 (.t 1)),qO 6 (.mov (cI 0))] (sR [qL 14 2,qF 15 0 4,qL 16 15,qO 17 (.call 152 [.t 14,.t 16]),qM 13 17,qO 18 (.ext 0 (.t 13)),qO 19 (.ext 1 (.t 13)),qO 7 (.alc 79 [.str [],.str [],.int .i64 0,.str [],.int .i64 0,.str [],.str []]),qS 7 7 18,qM 8 19] (sR [qL 21 2,qF 22 0 5,qL 23 22,qO 24 (.call 152 [.t 21,.t 23]),qM 20 24,qO 25 (.ext 0 (.t 20)),qO 26 (.ext 1 (.t 20)),qO 9 (.alc 79 [.str [],.str [],.int .i64 0,.str [],.int .i64 0,.str [],.str []]),qS 7 9 25,qM 10 26] (.seq (.drg [qF 27 1 7,qL 28 27,qF 29 1 9,qL 30 29,qO 31 (.pcall 0 200 [.t 28,.t 30]),qF 32 4 7,qL 33 32,qF 34 4 9,qL 35 34,qO 36 (.pcall 1 85 [.t 33,.t 35]),qM 11 31,qM 12 36]) (.seq (sR [qL 37 3] (.block 0 (sR [qB 39 .eql 37 (cI 1),qM 38 39] (.cond (.t 38) (.reg [qO 11 (.mov (cI 0)),qO 12 (.mov (cI 0))]) (sR [qB 41 .eql 37 (cI 2),qM 40 41] (.cond (.t 40) (.reg [qO 11 (.mov (cI 0))]) .skip)))))) (.cut (sR [qM 42 11,qM 43 12,qF 44 0 4,qL 45 44,qF 46 0 5,qL 47 46,qO 48 (.call 200 [.t 45,.t 47]),qO 49 (.bsl 1 [.t 42,.t 43,.t 48]),qO 50 (.call 201 [.t 49]),qM 6 50] .ret)))))))
def qbi:List IRes:=[.t 6]
theorem qcn:chkF Tryz.prog Tryz.f199 qbj qbi 51=true:=by kernel_rfl
section
variable {E:Envt}
theorem qra (l:List Rul) (hl:l.length≤1000000) (s:List UInt8):PCall Tryz.prog E 151 [.sl 3 (rlE l),.str s] (fun x=>∃ i w v,x=.agg [i,int w,v]∧decide (w=1)=qog l s):=by
 refine qag mixed Tryz.func151 qfQ ?_
 simp only [a0,l0,OS.ao,zo,zw,zj,zr,zp,zq,zx,zd,zi,zm,qcS,qcO,ZZ,WW,Ze,reduceCtorEq,zd,ze,zb,zf,za]
 simp only [ZZ,WW,Ze,reduceCtorEq,zd,ze,zb,zf,za,qcx]
 refine qad (fun n fr L=>∃ (k:Nat),k≤l.length∧n=l.length - k∧(l.find? (fun r=>decide (r.id=s))=(l.drop k).find? (fun r=>decide (r.id=s)))∧fr=(oo::.p (.str s)::oo::oo::.adr (.l 4) 0::oo::oo::.p (.sl 3 (rlE l))::.p (int (l.length:Nat))::.p (int (k:Nat))::oD (oB (oo::[])))∧L=[(.l 4,.box [.p (.str []),.p (int 0),.p (.nl 2)] 130)]) (l.length) _ _ (by simp only [ZZ,WW,Ze,reduceCtorEq,zd,ze,zb,zf,za,qcx];try trivial) (by (simp only [ZZ,WW,Ze,reduceCtorEq,zd,ze,zb,zf,za];try trivial)) ⟨0,by omega,by omega,rfl,rfl,rfl⟩ ?_
 rintro n fr L ⟨k,hk,rfl,hF,rfl,rfl⟩
 simp only [qb8,ZZ,WW,Ze,reduceCtorEq,zd,ze,zb,zf,za]
 refine br ?_ ?_
 ·intro h
  have hlt:k < l.length:=by have:=of_decide_eq_true h;omega
  obtain ⟨r,hr⟩:∃ r,l[k]?=some r:=⟨_,zh hlt⟩
  have hg:=qmS hr
  have hd:l.drop k=r :: l.drop (k+1):=by rw [List.drop_eq_getElem_cons hlt,(zt.1 hr).2]
  rw [hd,List.find?_cons] at hF
  simp only [ZZ,WW,Ze,reduceCtorEq,zd,ze,zb,zf,za,hg,qcx]
  ((with_reducible and_intros)<;>try exact sc_)
  refine br ?_ ?_
  ·intro h2
   have h3:r.id=s:=by simpa using h2
   rw [decide_eq_true h3] at hF
   refine zS ?_
   refine ⟨_,_,_,rfl,?_⟩
   unfold qog rlOf
   rw [hF]
   rfl
  ·intro h2
   have h3:¬ r.id=s:=by simpa using h2
   rw [decide_eq_false h3] at hF
   refine zS ?_
   ((with_reducible and_intros)<;>try exact sc_)
   refine qac (l.length - (k+1)) _ _ (by omega) (by (simp only [ZZ,WW,Ze,reduceCtorEq,zd,ze,zb,zf,za];try trivial)) (by (simp only [ZZ,WW,Ze,reduceCtorEq,zd,ze,zb,zf,za];try trivial)) ⟨k+1,by omega,rfl,hF,rfl,rfl⟩
 intro h
 have hge:l.length≤k:=by have:=of_decide_eq_false h;omega
 rw [List.drop_eq_nil_of_le hge] at hF
 refine zS ?_
 refine ⟨_,_,_,rfl,?_⟩
 unfold qog rlOf
 rw [hF]
 rfl
theorem qwp (l:List Rul) (hl:l.length≤1000000) (s:List UInt8):PCall Tryz.prog E 197 [.str s,.ptr [.sl 3 (rlE l)]] (·=.bool (qog l s)):=by
 refine qag mixed Tryz.func197 qiv ?_
 simp only [a0,l0,OS.ao,zo,zw,zj,zr,zp,zq,zx,zd,zi,zm,qeD,qek,ZZ,WW,Ze,reduceCtorEq,zd,ze,zb,zf,za]
 refine use (qra l hl s) rfl (.inl rfl) ?_
 rintro _ ⟨i,w,v,rfl,h⟩
 refine zS ?_
 exact congrArg PV.bool h
theorem qAb {il:List Itm} (hP:qbI il) {order:Int} (ho:order=1∨order=2∨order=3) (s t:List UInt8) (a b:List (List PV)):PCall Tryz.prog E 199 [.agg [.str s,.sl 1 a],.agg [.str t,.sl 1 b],.ptr [.sl 7 (itE il)],.ptr [int order]] (·=int (cfR il order s t)):=by
 rw [cfR,cf3]
 unfold whoC qyl
 have i1:=qkX (E:=E) il hP s
 have i2:=qkX (E:=E) il hP t
 simp only [itC] at i1 i2
 generalize itOf il s=x at *
 generalize itOf il t=y at *
 generalize (getI il s).isSome=b1 at *
 generalize (getI il t).isSome=b2 at *
 have e12:decide ((1:Int)=2)=false:=rfl
 have e21:decide ((2:Int)=1)=false:=rfl
 have e31:decide ((3:Int)=1)=false:=rfl
 have e32:decide ((3:Int)=2)=false:=rfl
 rcases ho with rfl|rfl|rfl
 ·skip
  refine qag mixed Tryz.func199 qcn ?_
  simp only [a0,l0,OS.ao,zo,zw,zj,zr,zp,zq,zx,zd,zi,zm,qbj,qbi,ZZ,WW,Ze,reduceCtorEq,zd,ze,zb,zf,za]
  refine use1 i1 rfl (.inl rfl) ?_
  refine zS ?_
  refine use1 i2 rfl (.inl rfl) ?_
  refine zS ?_
  refine ⟨[int (Lib.compareBytes x.2.1 y.2.1),int (sgnC x.2.2.2.2.1 y.2.2.2.2.1)],?_⟩
  refine zS ?_
  refine ⟨usep (qc2 x.2.1 y.2.1) rfl (.inl rfl),usep (qkE x.2.2.2.2.1 y.2.2.2.2.1) rfl (.inl rfl),?_⟩
  simp only [ZZ,WW,Ze,reduceCtorEq,zd,ze,zb,zf,za,e12,e21,e31,e32,decide_true,decide_false]
  refine qbh _ _ ReOk.refl ?_
  refine zS ?_
  refine use1 (qc2 s t) rfl (.inl rfl) ?_
  refine zS ?_
  refine use1 (qvX [0,0,Lib.compareBytes s t] (by simp)) rfl (.inl rfl) ?_
  refine zS ?_
  rfl
 ·skip
  refine qag mixed Tryz.func199 qcn ?_
  simp only [a0,l0,OS.ao,zo,zw,zj,zr,zp,zq,zx,zd,zi,zm,qbj,qbi,ZZ,WW,Ze,reduceCtorEq,zd,ze,zb,zf,za]
  refine use1 i1 rfl (.inl rfl) ?_
  refine zS ?_
  refine use1 i2 rfl (.inl rfl) ?_
  refine zS ?_
  refine ⟨[int (Lib.compareBytes x.2.1 y.2.1),int (sgnC x.2.2.2.2.1 y.2.2.2.2.1)],?_⟩
  refine zS ?_
  refine ⟨usep (qc2 x.2.1 y.2.1) rfl (.inl rfl),usep (qkE x.2.2.2.2.1 y.2.2.2.2.1) rfl (.inl rfl),?_⟩
  simp only [ZZ,WW,Ze,reduceCtorEq,zd,ze,zb,zf,za,e12,e21,e31,e32,decide_true,decide_false]
  refine qbh _ _ ReOk.refl ?_
  refine zS ?_
  refine use1 (qc2 s t) rfl (.inl rfl) ?_
  refine zS ?_
  refine use1 (qvX [0,sgnC x.2.2.2.2.1 y.2.2.2.2.1,Lib.compareBytes s t] (by simp)) rfl (.inl rfl) ?_
  refine zS ?_
  rfl
 ·skip
  refine qag mixed Tryz.func199 qcn ?_
  simp only [a0,l0,OS.ao,zo,zw,zj,zr,zp,zq,zx,zd,zi,zm,qbj,qbi,ZZ,WW,Ze,reduceCtorEq,zd,ze,zb,zf,za]
  refine use1 i1 rfl (.inl rfl) ?_
  refine zS ?_
  refine use1 i2 rfl (.inl rfl) ?_
  refine zS ?_
  refine ⟨[int (Lib.compareBytes x.2.1 y.2.1),int (sgnC x.2.2.2.2.1 y.2.2.2.2.1)],?_⟩
  refine zS ?_
  refine ⟨usep (qc2 x.2.1 y.2.1) rfl (.inl rfl),usep (qkE x.2.2.2.2.1 y.2.2.2.2.1) rfl (.inl rfl),?_⟩
  simp only [ZZ,WW,Ze,reduceCtorEq,zd,ze,zb,zf,za,e12,e21,e31,e32,decide_true,decide_false]
  refine qbh _ _ ReOk.refl ?_
  refine zS ?_
  refine use1 (qc2 s t) rfl (.inl rfl) ?_
  refine zS ?_
  refine use1 (qvX [Lib.compareBytes x.2.1 y.2.1,sgnC x.2.2.2.2.1 y.2.2.2.2.1,Lib.compareBytes s t] (by simp)) rfl (.inl rfl) ?_
  refine zS ?_
  rfl
set_option maxHeartbeats 4000000 in
theorem qr3 (il:List Itm) (hP:qbI il) (h12:il.length≤12) (l:List Rul) (hl:l.length≤1000000) (order:Int) (ho:order=1∨order=2∨order=3):PCall Tryz.prog E 150 [.sl 7 (itE il),.sl 3 (rlE l),int order] (·=.sl 2 ((chS il l order).map (encF il))):=by
 have hFO:=qpz (E:=E) il hP h12
 have hfe:(famF il).map fmC=(qhK il).map (encF il):=qxh il
 rw [hfe] at hFO
 have hTl:(qhK il).length≤12:=yu (qhW il []) h12
 refine qag mixed Tryz.func150 qjD ?_
 simp only [a0,l0,OS.ao,zo,zw,zj,zr,zp,zq,zx,zd,zi,zm,qfM,qfx,ZZ,WW,Ze,reduceCtorEq,zd,ze,zb,zf,za]
 rw [qbc]
 refine ⟨_,_,ReOk.trans (qkc (k:=.l 3) (cs:=[.sl 7 (itE il)]) rfl) (ReOk.trans (qkc (k:=.l 4) (cs:=[.sl 3 (rlE l)]) rfl) (qkc (k:=.l 5) (cs:=[int order]) rfl)),?_⟩
 refine zS ?_
 refine use1 hFO rfl (.inl rfl) ?_
 simp only [ZZ,WW,Ze,reduceCtorEq,zd,ze,zb,zf,za,zE]
 refine qad (fun n fr L=>∃ (k:Nat) (w:List (List PV)),k≤(qhK il).length∧n=(qhK il).length - k∧(w=(((qhK il).take k).filter (fun s=>(s :: qij il s).any (qog l))).map (encF il))∧fr=(oo::oo::oo::.p (.ptr [.sl 7 (itE il)])::.p (.ptr [.sl 3 (rlE l)])::.p (.ptr [int order])::oo::.row (.l 7)::oo::oo::oo::.p (.sl 2 ((qhK il).map (encF il)))::.p (int ((qhK il).length:Nat))::.p (int (k:Nat))::oE [])∧L=[(.l 7,.row w 175 2 true)]) ((qhK il).length) _ _ (by simp only [ZZ,WW,Ze,reduceCtorEq,zd,ze,zb,zf,za,zE];try trivial) (by (simp only [ZZ,WW,Ze,reduceCtorEq,zd,ze,zb,zf,za];try trivial)) ⟨0,[],by omega,by omega,rfl,rfl,rfl⟩ ?_
 rintro n fr L ⟨k,w,hk,rfl,hw,rfl,rfl⟩
 simp only [qd4,ZZ,WW,Ze,reduceCtorEq,zd,ze,zb,zf,za]
 refine br ?_ ?_
 ·intro h
  have hlt:k < (qhK il).length:=by have:=of_decide_eq_true h;omega
  obtain ⟨x,hx⟩:∃ x,(qhK il)[k]?=some x:=⟨_,zh hlt⟩
  have hg:((qhK il).map (encF il)).getD k []=[.str x,.sl 1 (strE (x :: qij il x))]:=qaC hx
  have htk:(qhK il).take (k+1)=(qhK il).take k++[x]:=by rw [zB hlt,(zt.1 hx).2]
  have hwl:w.length≤12:=by
   rw [hw,zE]
   refine yu (List.length_filter_le _ _) ?_
   rw [zN]
   omega
  have hkl:(qij il x).length≤12:=yu (qhW il x) h12
  have hc:=qf1 (E:=E) (x :: qij il x) 197 [.ptr [.sl 3 (rlE l)]] (qog l) (by simp;omega) (fun _=>by kernel_rfl) rfl (fun y _=>qwp l hl y) (fun _=>rfl) (fun _=>rfl)
  simp only [ZZ,WW,Ze,reduceCtorEq,zd,ze,zb,zf,za,hg,zE]
  ((with_reducible and_intros)<;>try exact sc_)
  refine use1 hc rfl (.inr rfl) ?_
  refine zS ?_
  refine br ?_ ?_
  ·intro h2
   refine zS ?_
   ((with_reducible and_intros)<;>try exact sc_)
   refine qbh _ _ ReOk.refl ?_
   refine zS ?_
   ((with_reducible and_intros)<;>try exact sc_)
   refine qac ((qhK il).length - (k+1)) _ _ (by omega) (by (simp only [ZZ,WW,Ze,reduceCtorEq,zd,ze,zb,zf,za];try trivial)) (by (simp only [ZZ,WW,Ze,reduceCtorEq,zd,ze,zb,zf,za];try trivial)) ⟨k+1,w++[[.str x,.sl 1 (strE (x :: qij il x))]],by omega,rfl,by rw [htk,List.filter_append,zT,← hw,List.filter_cons,if_pos h2];rfl,rfl,rfl⟩
  ·intro h2
   refine zS ?_
   ((with_reducible and_intros)<;>try exact sc_)
   refine qbh _ _ ReOk.refl ?_
   refine zS ?_
   ((with_reducible and_intros)<;>try exact sc_)
   refine qac ((qhK il).length - (k+1)) _ _ (by omega) (by (simp only [ZZ,WW,Ze,reduceCtorEq,zd,ze,zb,zf,za];try trivial)) (by (simp only [ZZ,WW,Ze,reduceCtorEq,zd,ze,zb,zf,za];try trivial)) ⟨k+1,w,by omega,rfl,by rw [htk,List.filter_append,zT,← hw,List.filter_cons,if_neg (by rw [h2];simp)];simp,rfl,rfl⟩
 intro h
 have hge:(qhK il).length≤k:=by have:=of_decide_eq_false h;omega
 rw [zG hge] at hw
 have hw:w=(chT il l).map fun s=>[PV.str s,.sl 1 (strE (s :: qij il s))]:=hw
 subst hw
 refine zS ?_
 refine useR (qrU (fun s=>s) (fun s=>strE (s :: qij il s)) (cfR il order) (by rw [← qvy];exact (qo9 il order).ord) 199 [.ptr [.sl 7 (itE il)],.ptr [int order]] (fun _=>by kernel_rfl) (chT il l) (yu (yu (List.length_filter_le _ _) (qhW il [])) h12) (fun s _ t _=>qAb hP ho s t _ _) (fun _ _=>rfl) (fun _ _=>rfl)) rfl rfl rfl zE_ ?_
 rintro _ _ ⟨rfl,o,rfl,hp,hs⟩
 rw [← qvy] at hs
 have hoe:=qxt hp hs
 subst hoe
 refine zS ?_
 rw [qbc]
 refine ⟨_,_,ReOk.refl,?_⟩
 refine zS ?_
 rfl
end
def qd2:IC:=(sR [qT 15 .lss 14 13] (.seq (.cond (.t 15) .skip (.exit 0)) (.seq (.block 1 (sR [qM 16 14,qX 17 1 12 14,qL 18 17,qM 6 16,qM 7 18] (sR [qM 19 7,qM 20 19,⟨some 21,.mov (.t 5),(some (20,true))⟩,⟨some 22,.mov (.t 6),(some (20,true))⟩,⟨some 23,.ixa 1 (.t 21) (.t 22),(some (20,true))⟩,⟨some 24,.ld 1 false (.t 23),(some (20,true))⟩,⟨some 25,.bin .neq (.t 24) (.c (.int .u8 32)),(some (20,true))⟩,qO 26 (.pick (.t 20) (.t 25) (.c (.bool false))),qM 27 26,⟨some 28,.mov (.t 5),(some (27,true))⟩,⟨some 29,.mov (.t 6),(some (27,true))⟩,⟨some 30,.ixa 1 (.t 28) (.t 29),(some (27,true))⟩,⟨some 31,.ld 1 false (.t 30),(some (27,true))⟩,⟨some 32,.bin .neq (.t 31) (.c (.int .u8 10)),(some (27,true))⟩,qO 33 (.pick (.t 27) (.t 32) (.c (.bool false)))] (.cond (.t 33) (.reg [qM 34 5,qM 35 6,qX 36 1 34 35,⟨none,.st 1 (.t 36) (.c (.int .u8 35)),none⟩]) .skip)))) (.cut (.reg [qB 37 .add 14 (cI 1),qM 14 37])))))
def qfK:IC:=(sR [qO 4 (.mov (.c (.str [])))] (sR [qM 8 0,qO 9 (.s2b 5 (.t 8)),qM 5 9] (.seq (sR [qM 10 0,qM 11 1,qO 12 (.call 204 [.t 10,.t 11]),qN 13 12,qO 14 (.mov (cI 0))] (.block 0 (.loop qd2))) (sR [qM 38 5,qO 39 (.b2s (.t 38)),qM 4 39] .ret))))
def qfv:List IRes:=[.t 4]
theorem qjB:chkF Tryz.prog Tryz.f153 qfK qfv 40=true:=by kernel_rfl
section
theorem qrW (s:List UInt8) (l:List (Int×Int)) (hs:s.length≤1000000) (hl:l.length≤1000000) (hv:Lib.validD s=true) (hb:∀ p∈l,0≤p.1∧p.1 < p.2∧p.2≤s.length) :
  PCall Tryz.prog E0 153 [.str s,sps l] (·=.str (qdl s l)):=by
 refine qag mixed Tryz.func153 qjB ?_
 simp only [a0,l0,OS.ao,zo,zw,zj,zr,zp,zq,zx,zd,zi,zm,qfK,qfv,ZZ,WW,Ze,reduceCtorEq,zd,ze,zb,zf,za]
 ((with_reducible and_intros)<;>try exact sc_)
 refine useF (qqy s l hs hl hv hb) rfl rfl ?_
 rintro es rfl
 have hrf:qdl s l=(zJ s.length).map (redG s fun j=>decide (j < s.length) && cov (qfW s l) j):=zX fun j hj=>by
  simp only [List.mem_range] at hj
  simp [redG,hj]
 rw [hrf]
 generalize cov (qfW s l)=C at *
 rw [qDk]
 simp only [ZZ,WW,Ze,reduceCtorEq,zd,ze,zb,zf,za,qlY,qid]
 refine qad (fun n fr L=>∃ (k:Nat) (g:Nat→UInt8),k≤s.length∧n=s.length - k∧(g=redG s (fun j=>decide (j < k) && C j))∧fr=(oC (oo::(.row (.l 9)::oC (oB (.row (.l 12)::.p (int (s.length:Nat))::.p (int (k:Nat))::oE (oD (oo::[])))))))∧L=[(.l 9,.row (bU s.length g) 5 1 false),(.l 12,.row (bl (tab s.length C)) 4 1 true)]) (s.length) _ _ (by (simp only [ZZ,WW,Ze,reduceCtorEq,zd,ze,zb,zf,za];try trivial)) (by (simp only [ZZ,WW,Ze,reduceCtorEq,zd,ze,zb,zf,za];try trivial)) ⟨0,fun j=>s.getD j 0,by omega,by omega,by funext j;simp [redG],rfl,rfl⟩ ?_
 rintro n fr L ⟨k,g,hk,rfl,hg,rfl,rfl⟩
 simp only [qd2,ZZ,WW,Ze,reduceCtorEq,zd,ze,zb,zf,za]
 refine br ?_ ?_
 ·intro h
  have hlt:k < s.length:=by have:=of_decide_eq_true h;omega
  have hgi:(bU s.length g).getD k []=[.int .u8 ((g k).toNat:Nat)]:=qBK hlt
  have hbl:=qBJ s.length g
  have hset:(bU s.length g).set k [.int .u8 35]=bU s.length (fun j=>if j=k then 35 else g j):=qBI (35:UInt8)
  simp only [ZZ,WW,Ze,reduceCtorEq,zd,ze,zb,zf,za,qlY,qid,qvG hlt,hgi,hbl]
  ((with_reducible and_intros)<;>try exact sc_)
  refine br ?_ ?_
  ·intro hc
   simp only [Bool.and_eq_true,Bool.not_eq_true'] at hc
   have hb:qiY (g k)=false:=by simp [qiY,hc.1.2,hc.2]
   have hnx:=qzb (s:=s) (i:=k) (by rw [← hg];exact hb)
   have hm:(fun j=>decide (j < k) && C j || decide (j=k))=(fun j=>decide (j < k+1) && C j):=by
    funext j
    by_cases hj:j=k
    ·subst hj;simp [hc.1.1]
    ·simp only [hj,decide_false,Bool.or_false]
     congr 1
     simp only [decide_eq_decide]
     omega
   rw [← hg,hm] at hnx
   simp only [ZZ,WW,Ze,reduceCtorEq,zd,ze,zb,zf,za,hgi,hbl,hset,hnx]
   ((with_reducible and_intros)<;>try exact sc_)
   refine qaq zE_ ?_
   refine zS ?_
   ((with_reducible and_intros)<;>try exact sc_)
   refine qac (s.length - (k+1)) _ _ (by omega) (by (simp only [ZZ,WW,Ze,reduceCtorEq,zd,ze,zb,zf,za];try trivial)) (by (simp only [ZZ,WW,Ze,reduceCtorEq,zd,ze,zb,zf,za];try trivial)) ⟨k+1,redG s (fun j=>decide (j < k+1) && C j),by omega,rfl,rfl,rfl,rfl⟩
  ·intro hc
   have hnx:g=redG s (fun j=>decide (j < k+1) && C j):=by
    cases hck:C k with
    |false=>
     rw [hg]
     congr 1
     funext j
     by_cases hj:j=k
     ·subst hj;simp [hck]
     ·congr 1
      simp only [decide_eq_decide]
      omega
    |true=>
     rw [hck] at hc
     have hb:qiY (g k)=true:=by
      simp only [Bool.true_and,Bool.and_eq_false_iff,Bool.not_eq_false'] at hc
      rcases hc with hc|hc<;>simp [qiY,hc]
     have hnx:=qwB (s:=s) (i:=k) (by rw [← hg];exact hb)
     have hm:(fun j=>decide (j < k) && C j || decide (j=k))=(fun j=>decide (j < k+1) && C j):=by
      funext j
      by_cases hj:j=k
      ·subst hj;simp [hck]
      ·simp only [hj,decide_false,Bool.or_false]
       congr 1
       simp only [decide_eq_decide]
       omega
     rw [hm] at hnx
     rw [hg]
     exact hnx
   refine zS ?_
   refine qaq zE_ ?_
   refine zS ?_
   ((with_reducible and_intros)<;>try exact sc_)
   refine qac (s.length - (k+1)) _ _ (by omega) (by (simp only [ZZ,WW,Ze,reduceCtorEq,zd,ze,zb,zf,za];try trivial)) (by (simp only [ZZ,WW,Ze,reduceCtorEq,zd,ze,zb,zf,za];try trivial)) ⟨k+1,g,by omega,rfl,hnx,rfl,rfl⟩
 ·intro h
  have hge:k=s.length:=by have:=of_decide_eq_false h;omega
  subst hge
  simp only [ZZ,WW,Ze,reduceCtorEq,zd,ze,zb,zf,za,qxu]
  rw [hg]
end
end Go.Proofs.YtmpdnpljdcincaaGreatDoor
