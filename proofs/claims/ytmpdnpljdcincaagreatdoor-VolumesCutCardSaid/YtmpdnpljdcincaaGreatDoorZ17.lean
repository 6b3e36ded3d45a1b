import Derived.Test.YtmpdnpljdcincaaGreatDoorZ15
set_option linter.unusedVariables false
set_option linter.unusedSimpArgs false
set_option linter.defProp false
namespace Go.Proofs.YtmpdnpljdcincaaGreatDoor
open Nat renaming le_trans→yl,reduceAdd→zd,reduceEqDiff→za,reduceLT→zf,reduceLeDiff→zb,reduceMul→ze
open List renaming append_nil→z6,getElem?_eq_getElem→zg,getElem?_eq_some_iff→zk,length_append→zp,length_map→zw,length_set→yq,length_take→zJ,map_append→zF,map_congr_left→zP,map_cons→zx,map_nil→yr,mem_of_getElem?→zm,mem_range→yA,range→zA,take_append_drop→yt,take_of_length_le→zq,take_succ_eq_append_getElem→zo
open Option renaming map_some→zN
open Go.RowKit
def qaX:IC:=(.seq (.seq (.drg [qM 18 9,qM 19 1,qT 20 .gtr 18 19,qM 21 20,⟨some 22,.mov (.t 3),(some (21,true))⟩,⟨some 23,.mov (.t 0),(some (21,true))⟩,⟨some 24,.mov (.t 9),(some (21,true))⟩,⟨some 25,.ixa 1 (.t 23) (.t 24),(some (21,true))⟩,⟨some 26,.ld 1 false (.t 25),(some (21,true))⟩,⟨some 27,.mov (.t 0),(some (21,true))⟩,⟨some 28,.mov (.t 9),(some (21,true))⟩,⟨some 29,.bin .sub (.t 28) (cI 1),(some (21,true))⟩,⟨some 30,.ixa 1 (.t 27) (.t 29),(some (21,true))⟩,⟨some 31,.ld 1 false (.t 30),(some (21,true))⟩,⟨some 32,.callv (.t 22) [.t 26,.t 31],(some (21,true))⟩,⟨some 33,.bin .lss (.t 32) (cI 0),(some (21,true))⟩,qO 34 (.pick (.t 21) (.t 33) (.c (.bool false)))]) (.cond (.t 34) .skip (.exit 2))) (.seq (.block 3 (.drg [qM 37 0,qM 38 9,qM 39 0,qM 40 9,qB 41 .sub 40 (cI 1),qM 42 0,qM 43 9,qB 44 .sub 43 (cI 1),qX 45 1 42 44,qL 46 45,qM 47 0,qM 48 9,qX 49 1 47 48,qL 50 49,qX 51 1 37 38,qS 1 51 46,qX 52 1 39 41,qS 1 52 50])) (.reg [qM 35 9,qB 36 .sub 35 (cI 1),qM 9 36])))
def qaY:IC:=(.seq (sR [qM 12 8,qM 13 2,qT 14 .lss 12 13] (jE 14)) (.seq (.block 1 (sR [qM 17 8,qM 9 17] (.block 2 (.loop qaX)))) (.reg [qM 15 8,qB 16 .add 15 (cI 1),qM 8 16])))
def qbe:IC:=(sR [qM 10 1,qB 11 .add 10 (cI 1),qM 8 11] (.block 0 (.loop qaY)))
theorem qc0:chkF Tryz.prog Tryz.f292 qbe [] 53=true:=by kernel_rfl
def qbz:IC:=(.block 1 (sR [qM 21 2,qM 22 1,qT 23 .sub 21 22,qM 12 23] (.seq (sR [qM 24 12,qB 25 .leq 24 (cI 12)] (jW 25 (sR [qM 26 0,qM 27 1,qM 28 2,qM 29 4,jC 30 292 [.t 26,.t 27,.t 28,.t 29]] .ret))) (.seq (sR [qM 31 3,qB 32 .eql 31 (cI 0)] (jW 32 (sR [qM 33 0,qM 34 1,qM 35 2,qM 36 4,jC 37 293 [.t 33,.t 34,.t 35,.t 36]] .ret))) (.seq (sR [qM 38 10,qO 39 (.not (.t 38))] (jW 39 (sR [qM 40 0,qM 41 1,qM 42 2,qM 43 4,jC 44 294 [.t 40,.t 41,.t 42,.t 43]] (.reg [qM 45 3,qB 46 .sub 45 (cI 1),qM 3 46])))) (.cut (sR [qM 48 0,qM 49 1,qM 50 2,qM 51 4,jC 52 295 [.t 48,.t 49,.t 50,.t 51],qM 47 52,qO 53 (.ext 0 (.t 47)),qO 54 (.ext 1 (.t 47)),qM 13 53,qM 14 54] (.seq (sR [qM 55 14,qB 56 .eql 55 (cI 2)] (jW 56 (sR [qM 57 0,qM 58 1,qM 59 2,qM 60 4,jC 61 296 [.t 57,.t 58,.t 59,.t 60]] (sR [qM 62 2,qB 63 .sub 62 (cI 1),qM 64 13,qM 65 1,qT 66 .sub 64 65,qT 67 .sub 63 66,qM 13 67] (.reg [jI 14 1]))))) (.cut (.seq (sR [qM 68 10,qM 69 68,⟨some 70,.mov (.t 11),(some (69,true))⟩,qO 71 (.pick (.t 69) (.t 70) (.c (.bool false))),qM 72 71,⟨some 73,.mov (.t 14),(some (72,true))⟩,⟨some 74,.bin .eql (.t 73) (cI 1),(some (72,true))⟩,qO 75 (.pick (.t 72) (.t 74) (.c (.bool false)))] (jW 75 (sR [qM 76 0,qM 77 1,qM 78 2,qM 79 4,jC 80 297 [.t 76,.t 77,.t 78,.t 79]] (jW 80 .ret)))) (.cut (.seq (.seq (.drg [qM 81 1,qB 82 .gtr 81 (cI 0),qM 83 82,⟨some 84,.mov (.t 4),(some (83,true))⟩,⟨some 85,.mov (.t 0),(some (83,true))⟩,⟨some 86,.mov (.t 1),(some (83,true))⟩,⟨some 87,.bin .sub (.t 86) (cI 1),(some (83,true))⟩,⟨some 88,.ixa 1 (.t 85) (.t 87),(some (83,true))⟩,⟨some 89,.ld 1 false (.t 88),(some (83,true))⟩,⟨some 90,.mov (.t 0),(some (83,true))⟩,⟨some 91,.mov (.t 13),(some (83,true))⟩,⟨some 92,.ixa 1 (.t 90) (.t 91),(some (83,true))⟩,⟨some 93,.ld 1 false (.t 92),(some (83,true))⟩,⟨some 94,.callv (.t 84) [.t 89,.t 93],(some (83,true))⟩,⟨some 95,.bin .lss (.t 94) (cI 0),(some (83,true))⟩,⟨some 96,.not (.t 95),(some (83,true))⟩,qO 97 (.pick (.t 83) (.t 96) (.c (.bool false)))]) (jW 97 (sR [qM 98 0,qM 99 1,qM 100 2,qM 101 13,qM 102 4,jC 103 298 [.t 98,.t 99,.t 100,.t 101,.t 102],qM 15 103] (sR [qM 104 15,qM 1 104] (.exit 1))))) (sR [qM 106 0,qM 107 1,qM 108 2,qM 109 13,qM 110 4,jC 111 299 [.t 106,.t 107,.t 108,.t 109,.t 110],qM 105 111,qO 112 (.ext 0 (.t 105)),qO 113 (.ext 1 (.t 105)),qM 16 112,qM 17 113] (sR [qM 114 17,qM 11 114] (sR [qM 115 16,qM 116 1,qT 117 .sub 115 116,qM 118 2,qM 119 16,qT 120 .sub 118 119,qM 18 117,qM 19 120] (sR [qM 121 12,qB 122 .quo 121 (cI 8),qM 20 122] (sR [qM 123 18,qM 124 19,qT 125 .lss 123 124] (.cond (.t 125) (sR [qM 126 18,qM 127 20,qT 128 .geq 126 127,qM 10 128] (sR [qM 129 0,qM 130 1,qM 131 16,qM 132 3,qM 133 4,jC 134 271 [.t 129,.t 130,.t 131,.t 132,.t 133]] (.reg [qM 135 16,qB 136 .add 135 (cI 1),qM 1 136]))) (sR [qM 137 19,qM 138 20,qT 139 .geq 137 138,qM 10 139] (sR [qM 140 0,qM 141 16,qB 142 .add 141 (cI 1),qM 143 2,qM 144 3,qM 145 4,jC 146 271 [.t 140,.t 142,.t 143,.t 144,.t 145]] (.reg [qM 147 16,qM 2 147])))))))))))))))))))))
def qbQ:IC:=(sR [qO 10 (.mov (.c (.bool true)))] (sR [qO 11 (.mov (.c (.bool true)))] (.block 0 (.loop qbz))))
theorem qev:chkF Tryz.prog Tryz.f271 qbQ [] 148=true:=by kernel_rfl
def qb9:IC:=(sR [qM 5 0,qN 6 5,qM 4 6] (.reg [qM 7 0,qM 8 4,qM 9 4,qO 10 (.cvi .u64 (.t 9)),jC 11 133 [.t 10],qM 12 1,jC 13 271 [.t 7,.c (.int .i64 0),.t 8,.t 11,.t 12]]))
theorem qeQ:chkF Tryz.prog Tryz.f243 qb9 [] 14=true:=by kernel_rfl
abbrev qfr:Nat:=3
theorem qlz:∀ (ps:List PV) (L:Objs),Zk L (ps.map .p)=true
 |[],_=>rfl
 |_ :: r,L=>qlz r L
section
variable {E:Envt}
theorem qnU (x:Int) (h0:0≤x) (h1:x≤18446744073709551615):PCall Tryz.prog E 133 [.int .u64 x] (·=int (Lib.bitLen x.toNat:Nat)):=
 qbm rfl rfl fun w _=>(Any.bits_Len Tryz.layBitsLen x w h0 h1).mono fun e w' h=>⟨h.1,by rw [h.2];exact Grow.refl _ _⟩
theorem qnw {α:Type} (f0:α→Int) (cf:α→α→Int) (hO:OrdP (ltC cf)) (g:FuncId) (ps:List PV) (hg:Unit→fnB Tryz.prog g=true) (l:List α) (hl:l.length≤12) (hc:∀ x∈l,∀ y∈l,PCall Tryz.prog E g (int (f0 x) :: int (f0 y) :: ps) (·=int (cf x y)))
  (hn:∀ x y,Zbg [] (.p (int (f0 x)) :: .p (int (f0 y)) :: ps.map .p)=some (int (f0 x) :: int (f0 y) :: ps)) (hr:∀ x y,Zbi (.p (int (f0 x)) :: .p (int (f0 y)) :: ps.map .p)=true):RCall Tryz.prog E 292 qfr 1 (l.map (fun x=>([int (f0 x)]:List PV))) [int 0,int (l.length:Nat),.clo g ps] (fun x es'=>x=.tup []∧∃ l':List α,es'=l'.map (fun x=>([int (f0 x)]:List PV))∧l'.Perm l∧SrtP (ltC cf) l'):=by
 unfold RCall
 refine qep mixed Tryz.func292 qc0 ?_
 simp only [a0,l0,OS.ao,XX,Nat.reduceSub,zw,qbe,ZZ,WW,Zd,reduceCtorEq,zd,ze,zb,zf,za]
 ((with_reducible and_intros)<;>try exact sc_)
 rw [show l.map (fun x=>([int (f0 x)]:List PV))=(l.take 1++l.drop 1).map (fun x=>([int (f0 x)]:List PV)) from by rw [yt]]
 refine qac (fun n fr L=>∃ (i:Nat) (P:List α) (C:List α),l.length - i=n∧(1≤i)∧(P.length=i∨l.length=0)∧((P++C).Perm l)∧(SrtP (ltC cf) P)∧fr=(.row (.b 0)::.p (int 0)::.p (int (l.length:Nat))::.p (.clo g ps)::oo::oo::oo::oo::.p (int (i:Nat))::oF (oD (oC [])))∧L=[(.b 0,.row ((P++C).map (fun x=>([int (f0 x)]:List PV))) qfr 1 true)]) (l.length - 1) _ _ zF_ zF_ ⟨1,l.take 1,l.drop 1,rfl,by omega,by rw [zJ];omega,by rw [yt],by cases l with|nil=>exact List.Pairwise.nil|cons x r=>simp [SrtP],rfl,rfl⟩ ?_
 rintro n fr L ⟨i,P,C,rfl,hi,hP,hp,hs,rfl,rfl⟩
 simp only [qaY,ZZ,WW,Zd,reduceCtorEq,zd,ze,zb,zf,za]
 have hpl:P.length+C.length=l.length:=by rw [← zp,hp.length_eq]
 refine br ?_ ?_
 rotate_left
 ·intro h
  have hge:l.length≤i:=by have:=of_decide_eq_false h;omega
  have hC:C=[]:=List.eq_nil_of_length_eq_zero (by omega)
  subst hC
  rw [z6] at hp ⊢
  refine zS ?_
  exact qjR _ rfl ⟨rfl,P,rfl,hp,hs⟩
 intro h
 have hlt:i < l.length:=by have:=of_decide_eq_true h;omega
 have hP:P.length=i:=by omega
 obtain ⟨x,R,rfl⟩:∃ x R,C=x :: R:=by
  cases C with
  |nil=>simp at hpl;omega
  |cons x R=>exact ⟨x,R,rfl⟩
 have hxl:x∈l:=hp.mem_iff.1 (by simp)
 refine zS ?_
 refine qac (fun n fr L=>∃ (j:Nat) (A:List α) (B:List α),j=n∧(A.length=j)∧(j+B.length=i)∧(SrtP (ltC cf) (A++B))∧(∀ b∈B,ltC cf x b=true)∧((A++x :: (B++R)).Perm l)∧fr=(.row (.b 0)::.p (int 0)::.p (int (l.length:Nat))::.p (.clo g ps)::oo::oo::oo::oo::.p (int (i:Nat))::.p (int (j:Nat))::oF (oD (oB (oo::[]))))∧L=[(.b 0,.row ((A++x :: (B++R)).map (fun x=>([int (f0 x)]:List PV))) qfr 1 true)]) (i) _ _ zF_ zF_ ⟨i,P,[],rfl,hP,by simp,by rw [z6];exact hs,(fun b hb=>by cases hb),hp,rfl,rfl⟩ ?_
 rintro n fr L ⟨j,A,B,rfl,hj,hji,hsb,hb,hpb,rfl,rfl⟩
 simp only [qaX,ZZ,WW,Zd,reduceCtorEq,zd,ze,zb,zf,za]
 have hWl:((A++x :: (B++R)).map (fun x=>([int (f0 x)]:List PV))).length=l.length:=by rw [zw,hpb.length_eq]
 rcases List.eq_nil_or_concat A with rfl|⟨A',y,hAy⟩
 ·simp only [List.length_nil] at hj
  subst hj
  generalize hW:(([]:List α)++x :: (B++R)).map (fun x=>([int (f0 x)]:List PV))=W at *
  refine drg0 ?_
  have z00:decide ((0:Int) < ((0:Nat):Int))=false:=rfl
  simp only [ZZ,WW,Zd,reduceCtorEq,zd,ze,zb,zf,za,hWl,z00,Bool.false_eq_true,false_implies,hg ()]
  refine ⟨qlz _ _,qpZ (fun h=>by cases h) (fun _=>?_)⟩
  refine zS ?_
  ((with_reducible and_intros)<;>try exact sc_)
  rw [← hW]
  have hfin:SrtP (ltC cf) (([]:List α)++x :: B):=qkK hO hsb hb (.inl rfl)
  refine qab (l.length - (i+1)) _ _ (by omega) zF_ zF_ ⟨i+1,x :: B,R,rfl,by omega,.inl (by simp;omega),by simpa using hpb,hfin,rfl,rfl⟩
 ·obtain rfl:A=A'++[y]:=by rw [hAy];simp
  obtain ⟨q,rfl⟩:∃ q,j=q+1:=⟨A'.length,by rw [← hj];simp⟩
  have hq:A'.length=q:=by simpa using hj
  have hrow:(A'++[y])++x :: (B++R)=A'++y :: x :: (B++R):=by simp
  have hyl:y∈l:=hpb.mem_iff.1 (by simp)
  have e1:(((q+1:Nat):Int) - 1)=(q:Nat):=by omega
  have z0:decide ((0:Int) < ((q+1:Nat):Int))=true:=by rw [decide_eq_true_eq];omega
  rw [hrow] at hWl hpb ⊢
  obtain ⟨g1,g0⟩:=qrb (fun x=>([int (f0 x)]:List PV)) A' (B++R) x y []
  have s1:=qra (fun x=>([int (f0 x)]:List PV)) A' (B++R) x y
  rw [hq] at g1 g0 s1
  try simp only at g1 g0 s1
  generalize hW:(A'++y :: x :: (B++R)).map (fun x=>([int (f0 x)]:List PV))=W at *
  refine drg0 ?_
  simp only [ZZ,WW,Zd,reduceCtorEq,zd,ze,zb,zf,za,hWl,e1,z0,g1,g0,hg ()]
  refine ⟨⟨by omega,by omega⟩,by omega,qal (by omega) (by omega),⟨by omega,by omega⟩,by omega,qlz _ _,?_⟩
  refine useG (fun _=>hc x hxl y hyl) ((qjt (hr x y) (L':=[])).trans (hn x y)) (.inl (hr x y)) ?_
  refine zS ?_
  refine br ?_ ?_
  ·intro hlt2
   have hxy:ltC cf x y=true:=hlt2
   obtain ⟨n1,n2⟩:=qrI hsb hb hxy
   refine drg0 ?_
   have g2:(W.set (q+1) [int (f0 y)]).getD q []=[int (f0 y)]:=by
    rw [List.getD,List.getElem?_set_ne (by omega)]
    exact g0
   simp only [ZZ,WW,Zd,reduceCtorEq,zd,ze,zb,zf,za,hWl,e1,g1,g0,g2,s1,yq,qmL]
   ((with_reducible and_intros)<;>try exact sc_)
   refine qab ((q)) _ _ (by omega) zF_ zF_ ⟨q,A',y :: B,rfl,hq,by simp;omega,n1,n2,by simpa using (List.Perm.append_left A' (List.Perm.swap y x (B++R))).trans hpb,rfl,rfl⟩
  ·intro hlt2
   have hxy:ltC cf x y=false:=hlt2
   refine zS ?_
   ((with_reducible and_intros)<;>try exact sc_)
   rw [← hW]
   have hfin:SrtP (ltC cf) ((A'++[y])++x :: B):=qkK hO hsb hb (.inr ⟨A',y,rfl,hxy⟩)
   have hrow2:A'++y :: x :: (B++R)=((A'++[y])++x :: B)++R:=by simp
   rw [hrow2] at hpb ⊢
   refine qab (l.length - (i+1)) _ _ (by omega) zF_ zF_ ⟨i+1,(A'++[y])++x :: B,R,rfl,by omega,.inl (by simp;omega),hpb,hfin,rfl,rfl⟩
theorem qtT {α:Type} (f0:α→Int) (cf:α→α→Int) (hO:OrdP (ltC cf)) (g:FuncId) (ps:List PV) (hg:Unit→fnB Tryz.prog g=true) (l:List α) (hl:l.length≤12) (hc:∀ x∈l,∀ y∈l,PCall Tryz.prog E g (int (f0 x) :: int (f0 y) :: ps) (·=int (cf x y)))
  (hn:∀ x y,Zbg [] (.p (int (f0 x)) :: .p (int (f0 y)) :: ps.map .p)=some (int (f0 x) :: int (f0 y) :: ps)) (hr:∀ x y,Zbi (.p (int (f0 x)) :: .p (int (f0 y)) :: ps.map .p)=true) (lim:Nat):RCall Tryz.prog E 271 qfr 1 (l.map (fun x=>([int (f0 x)]:List PV))) [int 0,int (l.length:Nat),int (lim:Nat),.clo g ps] (fun x es'=>x=.tup []∧∃ l':List α,es'=l'.map (fun x=>([int (f0 x)]:List PV))∧l'.Perm l∧SrtP (ltC cf) l'):=by
 unfold RCall
 refine qep mixed Tryz.func271 qev ?_
 simp only [a0,l0,OS.ao,XX,Nat.reduceSub,zw,qbQ,ZZ,WW,Zd,reduceCtorEq,zd,ze,zb,zf,za]
 refine qac (fun n fr L=>(0:Nat)=n∧fr=(.row (.b 0)::.p (int 0)::.p (int (l.length:Nat))::.p (int (lim:Nat))::.p (.clo g ps)::oC (oo::(.p (.bool true)::.p (.bool true)::oG (oG (oD [])))))∧L=[(.b 0,.row (l.map (fun x=>([int (f0 x)]:List PV))) qfr 1 true)]) ((0:Nat)) _ _ zF_ zF_ ⟨rfl,rfl,rfl⟩ ?_
 rintro n fr L ⟨rfl,rfl,rfl⟩
 simp only [qbz,ZZ,WW,Zd,reduceCtorEq,zd,ze,zb,zf,za]
 have h12:decide ((l.length:Int)≤12)=true:=by rw [decide_eq_true_eq];omega
 simp only [ZZ,WW,Zd,reduceCtorEq,zd,ze,zb,zf,za,h12,Int.sub_zero]
 refine ⟨qal (by omega) (by omega),?_⟩
 refine useR (qnw f0 cf hO g ps hg l hl hc hn hr) rfl rfl rfl zE_ ?_
 rintro x es ⟨rfl,l',rfl,hp,hs⟩
 refine zS ?_
 exact qjR _ rfl ⟨rfl,l',rfl,hp,hs⟩
theorem qqQ {α:Type} (f0:α→Int) (cf:α→α→Int) (hO:OrdP (ltC cf)) (g:FuncId) (ps:List PV) (hg:Unit→fnB Tryz.prog g=true) (l:List α) (hl:l.length≤12) (hc:∀ x∈l,∀ y∈l,PCall Tryz.prog E g (int (f0 x) :: int (f0 y) :: ps) (·=int (cf x y)))
  (hn:∀ x y,Zbg [] (.p (int (f0 x)) :: .p (int (f0 y)) :: ps.map .p)=some (int (f0 x) :: int (f0 y) :: ps)) (hr:∀ x y,Zbi (.p (int (f0 x)) :: .p (int (f0 y)) :: ps.map .p)=true):RCall Tryz.prog E 243 qfr 1 (l.map (fun x=>([int (f0 x)]:List PV))) [.clo g ps] (fun x es'=>x=.tup []∧∃ l':List α,es'=l'.map (fun x=>([int (f0 x)]:List PV))∧l'.Perm l∧SrtP (ltC cf) l'):=by
 have wr:IntKind.u64.wrap (l.length:Int)=l.length:=by simp [IntKind.wrap,IntKind.bits,IntKind.signed];omega
 unfold RCall
 refine qep mixed Tryz.func243 qeQ ?_
 simp only [a0,l0,OS.ao,XX,Nat.reduceSub,zw,qb9,ZZ,WW,Zd,reduceCtorEq,zd,ze,zb,zf,za]
 rw [wr]
 refine use1 (qnU (l.length:Nat) (by omega) (by omega)) rfl (.inl rfl) ?_
 generalize Lib.bitLen _=lim
 refine zS ?_
 refine useR (qtT f0 cf hO g ps hg l hl hc hn hr lim) rfl rfl rfl zE_ ?_
 rintro x es ⟨rfl,l',rfl,hp,hs⟩
 refine zS ?_
 exact qjR _ rfl ⟨rfl,l',rfl,hp,hs⟩
end
def qcd:IC:=(sR [qT 30 .lss 29 28] (.seq (.cond (.t 30) .skip (.exit 2)) (.seq (.block 3 (sR [qX 31 1 27 29,qL 32 31,qM 8 32] (.seq (sR [qL 33 1,qM 34 8,qX 35 7 33 34,qF 36 5 35,qL 37 36,qB 38 .eql 37 (.c (.str []))] (jW 38 (.reg [qM 39 6,qL 40 1,qM 41 8,qX 42 7 40 41,qF 43 0 42,qL 44 43,qO 45 (.bldg [.str [],.nl 1] [(0,1,.t 44)]),qO 46 (.bsr 175 2 [.t 45]),qO 47 (.app 175 2 40 (.t 39) (.t 46)),qM 6 47]))) (.cut (sR [qM 48 6,qM 49 6,qN 50 49,qB 51 .sub 50 (cI 1),qX 52 2 48 51,qM 9 52] (.drp [1,2,3,4,5,6,7,8,9,10,11,0,12,13,14] [qM 54 9,qO 55 (.nck (.t 54)),qF 56 1 55,qL 57 56,qL 58 1,qM 59 8,qX 60 7 58 59,qF 61 0 60,qL 62 61,qO 63 (.bsl 1 [.t 62]),qO 64 (.app 9 1 16 (.t 57) (.t 63)),qM 53 9,qO 65 (.nck (.t 53)),qF 66 1 65,qS 1 66 64])))))) (.reg [qB 67 .add 29 (cI 1),qM 29 67]))))
def qce:IC:=(sR [qT 17 .lss 16 15] (.seq (jE 17) (.seq (.block 1 (sR [qM 18 16,qM 5 18] (.reg [qM 19 4,qM 20 5,qM 21 5,qX 22 1 19 20,qS 1 22 21]))) (.reg [qB 23 .add 16 (cI 1),qM 16 23]))))
abbrev qfX:IC:=(sR [qO 1 (.box 30 (.t 0)),qO 2 (.mov (.c (.nl 2))),⟨none,.re,none⟩] (sR [qO 10 (.mkf 241 [.t 1]),qO 3 (.alc 255 [.raw .nilFunc]),qS 1 3 10] (sR [qL 11 1,⟨none,.re,none⟩,qN 12 11,qO 13 (.mks 3 1 8 [.int .i64 0] (.t 12) (.t 12)),qM 4 13] (.seq (sR [qM 14 4,qN 15 14,jI 16 0] (.block 0 (.loop qce))) (sR [qM 24 4,qO 25 (.mkf 244 [.t 3]),jC 26 243 [.t 24,.t 25]] (sR [qO 6 (.nilr 175 2)] (.seq (sR [qM 27 4,qN 28 27,jI 29 0] (.block 2 (.loop qcd))) (sR [qM 68 6,qM 2 68,⟨none,.re,none⟩] .ret))))))))
theorem qga:chkF Tryz.prog Tryz.f196 qfX [.t 2] 69=true:=by kernel_rfl
def qbS:IC:=(sR [qT 24 .lss 23 22] (.seq (jE 24) (.seq (.block 1 (sR [qX 25 1 21 23,qL 26 25,qM 8 26] (.reg [qL 27 1,qM 28 8,qX 29 7 27 28,qF 30 0 29,qL 31 30,qO 32 (.bsr 9 1 [.t 31]),qM 33 6,qO 34 (.app 9 1 16 (.t 32) (.t 33)),⟨none,.re,none⟩,qM 6 34]))) (.reg [qB 35 .add 23 (cI 1),qM 23 35]))))
abbrev qfb:IC:=(sR [qO 3 (.mov (.c (.nl 1)))] (sR [qL 10 1,qM 11 0,jC 12 242 [.t 10,.t 11],qM 9 12,qO 13 (.ext 0 (.t 9)),qO 14 (.ext 1 (.t 9)),qM 4 13,qM 5 14] (sR [qL 15 1,qM 16 0,qX 17 7 15 16,qF 18 0 17,qL 19 18,qO 20 (.bsl 1 [.t 19]),qM 6 20] (.seq (sR [qM 21 4,qN 22 21,jI 23 0] (.block 0 (.loop qbS))) (sR [qM 36 6,qM 3 36] .ret)))))
theorem qfi:chkF Tryz.prog Tryz.f241 qfb [.t 3] 37=true:=by kernel_rfl
abbrev qfa:IC:=(sR [jI 5 0] (.seq (.drg [qL 6 2,qM 7 0,qO 8 (.pcv 0 (.t 6) [.t 7]),qL 9 2,qM 10 1,qO 11 (.pcv 1 (.t 9) [.t 10]),qO 12 (.pcall 2 245 [.t 8,.t 11]),qM 5 12]) .ret))
theorem qfh:chkF Tryz.prog Tryz.f244 qfa [.t 5] 13=true:=by kernel_rfl
def wayF (il:List Itm) (i:Nat):List (List UInt8):=((upF il (atI il i)).map fun v=>(atI il v.toNat).1).reverse++[(atI il i).1]
theorem qAm {il:List Itm} (hP:qbl il) {i:Nat} (hi:i < il.length):∀ v∈upF il (atI il i),∃ j:Nat,v=(j:Nat)∧j < il.length:=by
 intro v hv
 obtain ⟨h20,h1|⟨j,hj,h1,h2⟩⟩:=qkE hP hi
 ·unfold upOf at h1
  rw [upF,if_pos h1] at hv
  cases hv
 ·unfold upOf at h1
  rw [upF,if_neg (by rw [h1];exact qmd j),h1] at hv
  obtain ⟨y,hy⟩:∃ y,il[j]?=some y:=⟨_,zg (by omega)⟩
  rw [qia hP hy,List.mem_singleton] at hv
  exact ⟨j,hv,by omega⟩
theorem qs4 (il:List Itm) (x:Itm):(upF il x).length≤1:=by
 unfold upF
 split<;>simp
theorem qq4 {il:List Itm} (hP:qbl il) {i:Nat} (hi:i < il.length):i < 20∧((wayF il i=[pid i]∧kyF il i=100 * i)∨∃ j,j < i∧wayF il i=[pid j,pid i]∧kyF il i=100 * j+(i+1)):=by
 obtain ⟨h20,h1|⟨j,hj,h1,h2⟩⟩:=qkE hP hi
 ·refine ⟨h20,.inl ⟨?_,by rw [kyF,if_pos h1]⟩⟩
  unfold upOf at h1
  rw [wayF,upF,if_pos h1,qwF hP hi]
  rfl
 ·refine ⟨h20,.inr ⟨j,hj,?_,?_⟩⟩
  ·have h1':=h1
   unfold upOf at h1'
   obtain ⟨y,hy⟩:∃ y,il[j]?=some y:=⟨_,zg (by omega)⟩
   rw [wayF,upF,if_neg (by rw [h1'];exact qmd j),h1',qia hP hy,qwF hP hi]
   simp only [zx,yr,Int.toNat_natCast]
   rw [qwF hP (by omega)]
   rfl
  ·have:=qqp ⟨j,by omega⟩
   simp only at this
   rw [kyF,if_neg (by rw [h1];exact qmd j),h1,this]
theorem qBq:∀ a b:Fin 20,Lib.compareBytes (pid a.val) (pid b.val)=if a.val < b.val then -1 else if a.val=b.val then 0 else 1:=by decide +kernel
theorem qzR {a b:Nat} (ha:a < 20) (hb:b < 20):Lib.compareBytes (pid a) (pid b)=if a < b then -1 else if a=b then 0 else 1:=qBq ⟨a,ha⟩ ⟨b,hb⟩
theorem qAh {il:List Itm} (hP:qbl il) {i j:Nat} (hi:i < il.length) (hj:j < il.length):lexC (wayF il i) (wayF il j) < 0↔kyF il i < kyF il j:=by
 obtain ⟨i20,hi2⟩:=qq4 hP hi
 obtain ⟨j20,hj2⟩:=qq4 hP hj
 rcases hi2 with ⟨w1,k1⟩|⟨a,ha,w1,k1⟩<;>rcases hj2 with ⟨w2,k2⟩|⟨b,hb,w2,k2⟩<;>rw [w1,w2,k1,k2]<;>simp only [lexC]<;>(repeat rw [qzR (by omega) (by omega)])<;>repeat' split
 all_goals omega
def cfW (il:List Itm) (i j:Nat):Int:=if i < il.length∧j < il.length then lexC (wayF il i) (wayF il j) else (kyF il i:Int) - kyF il j
theorem qx1 {il:List Itm} (hP:qbl il):ltC (cfW il)=fun i j=>decide (kyF il i < kyF il j):=by
 funext i j
 unfold ltC cfW
 rw [decide_eq_decide]
 split
 ·rename_i h
  exact qAh hP h.1 h.2
 ·omega
theorem qzP {il:List Itm} (hP:qbl il):OrdP (ltC (cfW il)):=by
 rw [qx1 hP]
 constructor
 ·intro x y h
  simp only [decide_eq_true_eq,decide_eq_false_iff_not] at *
  omega
 ·intro x y z h1 h2
  simp only [decide_eq_false_iff_not] at *
  omega
theorem qzO {il:List Itm} (hP:qbl il) {o:List Nat} (hp:o.Perm (zA il.length)) (hs:SrtP (ltC (cfW il)) o):o=ordX il:=by
 refine qwi hP hp ?_
 unfold SrtP at hs
 rw [qx1 hP] at hs
 refine hs.imp fun h=>?_
 simp only [decide_eq_false_iff_not] at h
 omega
section
variable {E:Envt}
theorem qxE (il:List Itm) (hP:qbl il) (i:Nat) (hi:i < il.length):PCall Tryz.prog E 241 [int (i:Nat),.ptr [.sl 7 (itE il)]] (·=.sl 1 (strE (wayF il i))):=by
 have h20:=hP.1
 obtain ⟨x,hx⟩:∃ x,il[i]?=some x:=⟨_,zg hi⟩
 have hg:=qc6 hx
 have ha:=qmw hx
 have hu:=qAm hP hi
 have hul:=qs4 il x
 have hw:wayF il i=((upF il x).map fun v=>(atI il v.toNat).1).reverse++[x.1]:=by rw [wayF,ha]
 rw [ha] at hu
 rw [hw]
 simp only [itC] at hg
 refine qag mixed Tryz.func241 qfi ?_
 refine zV ?_
 refine use1 (qhv il hP i x hx) rfl (.inl rfl) ?_
 generalize upF il x=u at *
 simp only [ZZ,WW,Zd,reduceCtorEq,zd,ze,zb,zf,za,hg,qan,qfT]
 ((with_reducible and_intros)<;>try exact sc_)
 refine qac (fun n fr L=>∃ (k:Nat) (w:List (List UInt8)),k≤u.length∧n=u.length - k∧(w=((u.take k).map fun v=>(atI il v.toNat).1).reverse++[x.1])∧fr=(.p (int (i:Nat))::.p (.ptr [.sl 7 (itE il)])::oo::oo::oo::oo::.p (.sl 1 (strE w))::oD (oC (oB (.p (.sl 1 (ixE u))::.p (int (u.length:Nat))::.p (int (k:Nat))::oD (oC (oo::[]))))))∧L=[]) (u.length) _ [] (by simp only [ZZ,WW,Zd,reduceCtorEq,zd,ze,zb,zf,za,qfT];try trivial) zF_ ⟨0,[x.1],by omega,by omega,rfl,rfl,rfl⟩ ?_
 rintro n fr L ⟨k,w,hk,rfl,hwk,rfl,rfl⟩
 simp only [qbS,ZZ,WW,Zd,reduceCtorEq,zd,ze,zb,zf,za]
 refine br ?_ ?_
 ·intro h
  have hlt:k < u.length:=by have:=of_decide_eq_true h;omega
  obtain ⟨v,hv⟩:∃ v,u[k]?=some v:=⟨_,zg hlt⟩
  have hgu:=qun hv
  obtain ⟨j,hvj,hjl⟩:=hu v (zm hv)
  obtain ⟨y,hy⟩:∃ y,il[j]?=some y:=⟨_,zg hjl⟩
  have hgy:=qc6 hy
  simp only [itC] at hgy
  have hwl:w.length≤3:=by rw [hwk];simp only [zp,List.length_reverse,zw,zJ,List.length_singleton];omega
  rw [hvj] at hgu
  simp only [ZZ,WW,Zd,reduceCtorEq,zd,ze,zb,zf,za,hgu,hgy,qan,qfT,qaf]
  ((with_reducible and_intros)<;>try exact sc_)
  rw [qaW]
  refine ⟨_,_,qaN (k:=.l 32) rfl,?_⟩
  refine zS ?_
  ((with_reducible and_intros)<;>try exact sc_)
  refine qab (u.length - (k+1)) _ [] (by omega) zF_ zF_ ⟨k+1,y.1 :: w,by omega,rfl,by rw [hwk,zo hlt,(zk.1 hv).2,hvj];simp [qmw hy],rfl,rfl⟩
 intro h
 have hge:u.length≤k:=by have:=of_decide_eq_false h;omega
 rw [zq hge] at hwk
 refine zS ?_
 rw [hwk]
theorem qx9 (il:List Itm) (hP:qbl il) (i j:Nat) (hi:i < il.length) (hj:j < il.length):PCall Tryz.prog E 244 [int (i:Nat),int (j:Nat),.ptr [.clo 241 [.ptr [.sl 7 (itE il)]]]] (·=int (cfW il i j)):=by
 have hc:cfW il i j=lexC (wayF il i) (wayF il j):=by rw [cfW,if_pos ⟨hi,hj⟩]
 rw [hc]
 refine qag mixed Tryz.func244 qfh ?_
 refine zV ?_
 refine ⟨[.sl 1 (strE (wayF il i)),.sl 1 (strE (wayF il j)),int (lexC (wayF il i) (wayF il j))],?_⟩
 refine zS ?_
 have wl:∀ i,(wayF il i).length≤2:=fun i=>by
  have:=qs4 il (atI il i)
  simp only [wayF,zp,List.length_reverse,zw,List.length_singleton]
  omega
 have w1:=wl i
 have w2:=wl j
 exact ⟨⟨by kernel_rfl,usep (qxE il hP i hi) rfl (.inl rfl)⟩,⟨by kernel_rfl,usep (qxE il hP j hj) rfl (.inl rfl)⟩,usep (qpI _ _ (by omega) (by omega)) rfl (.inl rfl)⟩
end
abbrev tFm:Nat:=175
abbrev fWay:Nat:=241
abbrev tStF:Nat:=9
def fmC (f:Fam):List PV:=[.str f.1,.sl 1 (strE f.2)]
def fmA (I:List Fam):List (List AV):=I.map fun f=>[.p (.str f.1),.p (.sl 1 (strE f.2))]
theorem qls:∀ I:List Fam,Zba (fmA I)=some (I.map fmC)
 |[]=>rfl
 |f :: r=>by
  have ih:=qls r
  simp only [fmA,zx] at ih ⊢
  rw [Zba,ih]
  rfl
theorem qnE (I:List Fam) (k:Key):(fmA I).map (fun x=>x.map fun y=>AV.kill k y)=fmA I:=by
 unfold fmA
 rw [List.map_map]
 exact zP fun _ _=>rfl
theorem quI (I:List Fam) (s:List UInt8):(fmA I++[[.p (.str s),AV.row (.l 64)]]).map (fun x=>x.map fun y=>AV.ren (r1 64 1000) y)=fmA I++[[.p (.str s),AV.row (.l 1000)]]:=by
 rw [zF]
 congr 1
 unfold fmA
 rw [List.map_map]
 exact zP fun _ _=>rfl
theorem qjP (I:List Fam):(fmA I).length=I.length:=by simp [fmA]
theorem qjb (I:List Fam) (x:List AV):(fmA I++[x]).length=I.length+1:=by rw [zp,qjP];rfl
theorem qkM (I:List Fam) (x:List AV):(fmA I++[x]).getD I.length []=x:=by
 rw [List.getD,List.getElem?_append_right (by rw [qjP];exact Nat.le_refl _),qjP,Nat.sub_self]
 rfl
theorem qnD (I:List Fam) (x y:List AV):(fmA I++[x]).set I.length y=fmA I++[y]:=by
 rw [List.set_append_right _ _ (by rw [qjP];exact Nat.le_refl _),qjP,Nat.sub_self]
 rfl
theorem qpd (I:List Fam) (k:Key) (s:List UInt8) (c:AV):(fmA I++[[.p (.str s),c]]).map (fun x=>x.map fun y=>AV.kill k y)=fmA I++[[.p (.str s),c.kill k]]:=by
 rw [zF,qnE];rfl
def FmJ (L:Objs) (k:Nat):Option (List Fam×Fam)→Prop
 |none=>Zar L (.l 6)=some (.rowv (fmA []) tFm 2)
 |some (I,c)=>I.length≤k∧c.2.length≤k∧Zar L (.l 6)=some (.rowv (fmA I++[[.p (.str c.1),.row (.l 1000)]]) tFm 2)∧Zar L (.l 1000)=some (.row (strE c.2) tStF 1 true)
theorem qrO {E:Envt} {fr:List AV} {L:Objs} {I:List Fam} {c:Fam} {x:List (List AV)} (hfr:∀ y,fr.map (·.thaw (.l 1000) y)=fr) (hx:∀ y,x.map (fun c=>c.map (AV.thaw (.l 1000) y))=x) (h1:Zar L (.l 6)=some (.rowv (fmA I++[[.p (.str c.1),.row (.l 1000)]]++x) tFm 2)) (h2:Zar L (.l 1000)=some (.row (strE c.2) tStF 1 true)) {es:List (List PV)} {e z:Nat} {ap:Bool} (h3:Zar L (.l 13)=some (.row es e z ap)) :
  ∃ L',ReOk E fr L fr L'∧Zar L' (.l 6)=some (.rowv (fmA (I++[c])++x) tFm 2)∧Zar L' (.l 13)=some (.row es e z ap):=by
 have hr:=qaN (E:=E) (fr:=fr) h2
 rw [hfr] at hr
 refine ⟨_,hr,?_,?_⟩
 ·rw [qdD,if_neg (by simp),h1,zN,AO.thaw]
  congr 2
  rw [zF,zF,hx]
  simp [fmA,AV.thaw]
 ·rw [qdD,if_neg (by simp),h3];rfl
def ixK (n k:Nat):List (List PV):=(zA n).map fun i=>[int ((if i < k then i else 0:Nat):Nat)]
theorem qum (n k:Nat):(ixK n k).length=n:=by simp [ixK]
theorem qzm {n k:Nat} (h:k < n):(ixK n k).set k [int (k:Nat)]=ixK n (k+1):=by
 apply List.ext_getElem
 ·simp [ixK]
 ·intro i h1 h2
  simp only [ixK,zw,List.length_range,yq] at h1 h2
  rw [List.getElem_set]
  simp only [ixK,List.getElem_map,List.getElem_range]
  by_cases e:k=i
  ·subst e
   rw [if_pos rfl,if_pos (by omega)]
  ·rw [if_neg e]
   by_cases e2:i < k
   ·rw [if_pos e2,if_pos (by omega)]
   ·rw [if_neg e2,if_neg (by omega)]
theorem qwx (n:Nat):List.replicate n [int 0]=ixK n 0:=by simp [ixK,List.map_const']
theorem qzn (n:Nat):ixK n n=(zA n).map fun i=>[int ((i:Nat):Int)]:=by
 unfold ixK
 refine zP fun i hi=>?_
 rw [yA] at hi
 rw [if_pos hi]
section
variable {E:Envt}
set_option maxHeartbeats 4000000 in
theorem qn8 (il:List Itm) (hP:qbl il) (h12:il.length≤12):PCall Tryz.prog E 196 [.sl 7 (itE il)] (·=.sl 2 ((famF il).map fmC)):=by
 refine qag mixed Tryz.func196 qga ?_
 refine zV ?_
 rw [qaW]
 refine ⟨_,_,qhZ (k:=.l 1) (cs:=[.sl 7 (itE il)]) rfl,?_⟩
 simp only [ZZ,WW,Zd,reduceCtorEq,zd,ze,zb,zf,za,qan]
 ((with_reducible and_intros)<;>try exact sc_)
 rw [qaW]
 refine ⟨_,_,qhZ (k:=.l 3) (cs:=[.clo 241 [.ptr [.sl 7 (itE il)]]]) rfl,?_⟩
 simp only [ZZ,WW,Zd,reduceCtorEq,zd,ze,zb,zf,za,qan]
 refine ⟨by omega,?_⟩
 rw [qwx,qum]
 refine qac (fun n fr L=>∃ (k:Nat),k≤il.length∧n=il.length - k∧fr=(oo::.p (.ptr [.sl 7 (itE il)])::oo::.p (.ptr [.clo fWay [.ptr [.sl 7 (itE il)]]])::.row (.l 13)::oD (oB (.p (int (il.length:Nat))::.p (int (k:Nat))::oF (oE (oC [])))))∧L=[(.l 13,.row (ixK il.length k) 3 1 true)]) (il.length) _ _ zF_ zF_ ⟨0,by omega,by omega,rfl,rfl⟩ ?_
 rintro n fr L ⟨k,hk,rfl,rfl,rfl⟩
 simp only [qce,ZZ,WW,Zd,reduceCtorEq,zd,ze,zb,zf,za]
 refine br ?_ ?_
 ·intro h
  have hlt:k < il.length:=by have:=of_decide_eq_true h;omega
  have hst:=qzm hlt
  have hgk:(ixK il.length k).getD k []=[int 0]:=by rw [ixK,qao (List.getElem?_range hlt)];simp
  simp only [ZZ,WW,Zd,reduceCtorEq,zd,ze,zb,zf,za,qum,hst,hgk]
  ((with_reducible and_intros)<;>try exact sc_)
  refine qab (il.length - (k+1)) _ _ (by omega) zF_ zF_ ⟨k+1,by omega,rfl,rfl,rfl⟩
 intro h
 have hge:k=il.length:=by have:=of_decide_eq_false h;omega
 subst hge
 rw [qzn]
 refine zS ?_
 refine useR (qqQ (fun i:Nat=>(i:Int)) (cfW il) (qzP hP) 244 [.ptr [.clo 241 [.ptr [.sl 7 (itE il)]]]] (fun _=>by kernel_rfl) (zA il.length) (by rw [List.length_range];exact h12) (fun i hi j hj=>qx9 il hP i j (by simpa using hi) (by simpa using hj)) (fun _ _=>rfl) (fun _ _=>rfl)) rfl rfl rfl zE_ ?_
 rintro _ _ ⟨rfl,o,rfl,hp,hs⟩
 have ho:=qzO hP hp hs
 subst ho
 have hol:(ordX il).length=il.length:=by rw [hp.length_eq,List.length_range]
 simp only [ZZ,WW,Zd,reduceCtorEq,zd,ze,zb,zf,za,zw,hol]
 obtain ⟨OC,hOC⟩:∃ OC:List (List PV),OC=(ordX il).map fun x=>[int ((x:Nat):Int)]:=⟨_,rfl⟩
 rw [← hOC]
 have hOl:OC.length=il.length:=by rw [hOC,zw,hol]
 obtain ⟨J,hJ⟩:∃ J:Nat→Objs→Prop,J=fun k L=>(k < il.length∧FmJ L k (stG il ((ordX il).take k))∧Zar L (.l 13)=some (.row OC qfr 1 true))∨(k=il.length∧Zar L (.l 6)=some (.row ((famF il).map fmC) tFm 2 true)):=⟨_,rfl⟩
 have hfr:∀ (q:Nat) (y:PV),List.map (fun x:AV=>x.thaw (.l 1000) y) (oo::.p (.ptr [.sl 7 (itE il)])::oo::oo::oo::oo::.row (.l 6)::oE (oC (.row (.l 13)::.p (int (il.length:Nat))::.p (int (q:Nat))::oF (oC (oB (oo::[]))))))=(oo::.p (.ptr [.sl 7 (itE il)])::oo::oo::oo::oo::.row (.l 6)::oE (oC (.row (.l 13)::.p (int (il.length:Nat))::.p (int (q:Nat))::oF (oC (oB (oo::[])))))):=by
  intro q y
  have e1:(Key.l 6=.l 1000)=False:=by simp
  have e2:(Key.l 13=.l 1000)=False:=by simp
  simp only [zx,yr,AV.thaw,e1,e2,if_false]
 have hnx:∀ k L,k≤il.length→FmJ L k (stG il ((ordX il).take k))→Zar L (.l 13)=some (.row OC qfr 1 true)→∃ L',ReOk E (oo::.p (.ptr [.sl 7 (itE il)])::oo::oo::oo::oo::.row (.l 6)::oE (oC (.row (.l 13)::.p (int (il.length:Nat))::.p (int (k:Nat))::oF (oC (oB (oo::[])))))) L (oo::.p (.ptr [.sl 7 (itE il)])::oo::oo::oo::oo::.row (.l 6)::oE (oC (.row (.l 13)::.p (int (il.length:Nat))::.p (int (k:Nat))::oF (oC (oB (oo::[])))))) L'∧J k L':=by
  intro k L hk h h13
  by_cases hkl:k < il.length
  ·exact ⟨L,ReOk.refl,by rw [hJ];exact .inl ⟨hkl,h,h13⟩⟩
  ·have hke:k=il.length:=by omega
   have hG:=qza hP
   rw [zq (by omega)] at h
   generalize stG il (ordX il)=G at *
   cases G with
   |none=>
    refine ⟨_,qdN h (qls []),?_⟩
    rw [hJ,← hG]
    refine .inr ⟨hke,?_⟩
    rw [qad,if_pos rfl]
    rfl
   |some G=>
    obtain ⟨I,c⟩:=G
    obtain ⟨_,_,h1,h2⟩:=h
    obtain ⟨L1,r1,h3,_⟩:=qrO (E:=E) (fr:=(oo::.p (.ptr [.sl 7 (itE il)])::oo::oo::oo::oo::.row (.l 6)::oE (oC (.row (.l 13)::.p (int (il.length:Nat))::.p (int (k:Nat))::oF (oC (oB (oo::[]))))))) (x:=[]) (hfr k) (fun _=>rfl) (by rw [z6];exact h1) h2 h13
    rw [z6] at h3
    refine ⟨_,ReOk.trans r1 (qdN h3 (qls _)),?_⟩
    rw [hJ,← hG]
    refine .inr ⟨hke,?_⟩
    rw [qad,if_pos rfl]
    rfl
 obtain ⟨L1,q1,q2⟩:=hnx 0 [(.l 13,.row OC qfr 1 true),(.l 6,.rowv (fmA []) tFm 2)] (by omega) rfl rfl
 refine qfR (fun m fr L=>∃ k,k≤il.length∧m=il.length - k∧fr=(oo::.p (.ptr [.sl 7 (itE il)])::oo::oo::oo::oo::.row (.l 6)::oE (oC (.row (.l 13)::.p (int (il.length:Nat))::.p (int (k:Nat))::oF (oC (oB (oo::[]))))))∧J k L) il.length _ L1 (ReOk.trans (qlb zF_) (ReOk.trans (qh8 (k:=.l 6) rfl) q1)) ⟨0,by omega,by omega,rfl,q2⟩ ?_
 clear q1 q2 L1
 rintro m fr L ⟨k,hk,rfl,rfl,hj⟩
 simp only [qcd,ZZ,WW,Zd,reduceCtorEq,zd,ze,zb,zf,za]
 rw [hJ] at hj
 refine br ?_ ?_
 ·intro h
  have hlt:k < il.length:=by have:=of_decide_eq_true h;omega
  rcases hj with ⟨_,hj,h13⟩|⟨e,_⟩
  rotate_left
  ·omega
  obtain ⟨i,hi⟩:∃ i,(ordX il)[k]?=some i:=⟨_,zg (by omega)⟩
  have hgo:OC.getD k []=[int ((i:Nat):Int)]:=by rw [hOC];exact qao hi
  have hil:i < il.length:=(qqg hP i).1 (zm hi)
  obtain ⟨x,hx⟩:∃ x,il[i]?=some x:=⟨_,zg hil⟩
  have hg:=qc6 hx
  have hax:=qmw hx
  simp only [itC] at hg
  have hnx1:=fun L=>hnx (k+1) L (by omega)
  have hsn:stG il ((ordX il).take (k+1))=stpG il (stG il ((ordX il).take k)) i:=by rw [← qvK,zo (by omega),(zk.1 hi).2]
  have hps:=qyl hP (k:=k+1) (by omega) (by omega)
  rw [hsn] at hnx1 hps
  generalize stG il ((ordX il).take k)=G at *
  unfold stpG at hnx1 hps
  rw [hax] at hnx1 hps
  by_cases hup:upOf x=[]
  ·rw [if_pos hup] at hnx1
   unfold upOf at hup
   cases G with
   |none=>
    have hj:Zar L (.l 6)=some (.rowv (fmA []) tFm 2):=hj
    have hk0:(fmA []).map (fun x=>x.map fun y=>AV.kill (.l 6) y)=fmA []:=qnE [] _
    obtain ⟨I,hI⟩:∃ I:List Fam,I=[]:=⟨_,rfl⟩
    rw [← hI] at hj hk0
    have hIl:I.length≤20:=by rw [hI];simp
    have hk46:(fmA I).map (fun x=>x.map fun y=>AV.kill (.l 46) y)=fmA I:=qnE I _
    have hix:((I.length+1:Nat):Int) - 1=(I.length:Nat):=by omega
    simp only [ZZ,WW,Zd,reduceCtorEq,zd,ze,zb,zf,za,hgo,hg,qan,hOl,hj,h13,hup,hk0,hk46,qjP,qap,qad,qar,decide_true]
    ((with_reducible and_intros)<;>try exact sc_)
    generalize hLL:Zas (Zat (Key.l 6) _) (Key.l 6) _=LL
    have q6:Zar LL (.l 6)=some (.rowv (fmA I++[[.p (.str x.1),.p (.nl 1)]]) tFm 2):=by rw [← hLL,qad,if_pos rfl]
    have q13:Zar LL (.l 13)=some (.row OC qfr 1 true):=by
     rw [← hLL]
     simp only [qap,qad,qar,h13,ZZ,WW,Zd,reduceCtorEq,zd,ze,zb,zf,za]
    refine qaF (oo::.p (.ptr [.sl 7 (itE il)])::oo::oo::oo::oo::.row (.l 6)::oo::.p (int (i:Nat))::oE (oB (.row (.l 13)::.p (int (il.length:Nat))::.p (int (k:Nat))::oF (oC (oB (oo::[])))))) LL (qlb zF_) ?_
    clear hLL hj h13
    have hln:=qjb I [.p (.str x.1),.p (.nl 1)]
    have hix:((I.length+1:Nat):Int) - 1=(I.length:Nat):=by omega
    have hla:=qkM I [.p (.str x.1),.p (.nl 1)]
    have hk64:=qpd I (.l 64) x.1 (.p (.nl 1))
    simp only [AV.kill] at hk64
    simp only [ZZ,WW,Zd,reduceCtorEq,zd,ze,zb,zf,za,hg,qan,q6,hln,hix,hla,qap,qad,qar]
    ((with_reducible and_intros)<;>try exact sc_)
    refine ⟨[],?_⟩
    simp only [ZZ,WW,Zd,reduceCtorEq,zd,ze,zb,zf,za,hg,qan,q6,hln,hix,hla,hk64,qnD,qap,qad,qar]
    refine ⟨by omega,⟨by omega,by omega⟩,by omega,by omega,qal (by omega) (by omega),?_⟩
    generalize hLM:Zas (Zas (Zat (Key.l 64) LL) (Key.l 64) _) (Key.l 6) _=LM
    have w6:Zar (mapO (r1 64 1000) LM) (.l 6)=some (.rowv (fmA I++[[.p (.str x.1),.row (.l 1000)]]) tFm 2):=by
     rw [qbW,if_neg (by simp),if_neg (by simp),← hLM,qad,if_pos rfl]
     simp only [zN,AO.ren]
     exact congrArg (fun c=>some (AO.rowv c tFm 2)) (quI _ _)
    have w1:Zar (mapO (r1 64 1000) LM) (.l 1000)=some (.row (strE [x.1]) tStF 1 true):=by
     rw [qbW,if_pos rfl,← hLM,qad,if_neg (by simp),qad,if_pos rfl]
     rfl
    have w13:Zar (mapO (r1 64 1000) LM) (.l 13)=some (.row OC qfr 1 true):=by
     rw [qbW,if_neg (by simp),if_neg (by simp),← hLM,qad,if_neg (by simp),qad,if_neg (by simp),qar,q13]
     rfl
    rw [hI] at w6
    obtain ⟨L2,r2,h2⟩:=hnx1 (mapO (r1 64 1000) LM) ⟨by show ([]:List Fam).length≤k+1;simp,by show [x.1].length≤k+1;simp,w6,w1⟩ w13
    refine qe4 (il.length - (k+1)) _ L2 (by omega) (ReOk.trans (qrq 64 1000) (ReOk.trans (qlb (by simp only [AV.ren,r1,ZZ,WW,Zd,reduceCtorEq,zd,ze,zb,zf,za];try trivial)) r2)) ⟨k+1,by omega,rfl,rfl,h2⟩
   |some G=>
    obtain ⟨I,c⟩:=G
    obtain ⟨hI,hc,h6,h1⟩:=hj
    have hI:I.length≤k:=hI
    have hc:c.2.length≤k:=hc
    have hln:=qjb I [.p (.str c.1),.row (.l 1000)]
    have hk1:=qpd I (.l 6) c.1 (.row (.l 1000))
    have hk46:=qpd I (.l 46) c.1 (.row (.l 1000))
    simp only [AV.kill,Key.l.injEq,za,if_false] at hk1 hk46
    simp only [ZZ,WW,Zd,reduceCtorEq,zd,ze,zb,zf,za,hgo,hg,qan,hOl,h6,h13,hup,hln,hk1,hk46,qap,qad,qar,decide_true]
    ((with_reducible and_intros)<;>try exact sc_)
    generalize hLL:Zas (Zat (Key.l 6) _) (Key.l 6) _=LL
    have q6:Zar LL (.l 6)=some (.rowv (fmA I++[[.p (.str c.1),.row (.l 1000)]]++[[.p (.str x.1),.p (.nl 1)]]) tFm 2):=by rw [← hLL,qad,if_pos rfl]
    have q13:Zar LL (.l 13)=some (.row OC qfr 1 true):=by
     rw [← hLL]
     simp only [qap,qad,qar,h13,ZZ,WW,Zd,reduceCtorEq,zd,ze,zb,zf,za]
    have q1:Zar LL (.l 1000)=some (.row (strE c.2) tStF 1 true):=by
     rw [← hLL]
     simp only [qap,qad,qar,h1,ZZ,WW,Zd,reduceCtorEq,zd,ze,zb,zf,za]
    obtain ⟨L3,r3,q6,q13⟩:=qrO (E:=E) (fr:=(oo::.p (.ptr [.sl 7 (itE il)])::oo::oo::oo::oo::.row (.l 6)::oo::.p (int (i:Nat))::oE (oB (.row (.l 13)::.p (int (il.length:Nat))::.p (int (k:Nat))::oF (oC (oB (oo::[]))))))) (x:=[[.p (.str x.1),.p (.nl 1)]]) (by
     intro y
     have e1:(Key.l 6=.l 1000)=False:=by simp
     have e2:(Key.l 13=.l 1000)=False:=by simp
     simp only [zx,yr,AV.thaw,e1,e2,if_false]) (fun _=>rfl) q6 q1 q13
    refine qaF (oo::.p (.ptr [.sl 7 (itE il)])::oo::oo::oo::oo::.row (.l 6)::oo::.p (int (i:Nat))::oE (oB (.row (.l 13)::.p (int (il.length:Nat))::.p (int (k:Nat))::oF (oC (oB (oo::[])))))) L3 (ReOk.trans (qlb zF_) r3) ?_
    clear r3 hLL h6 h13 h1 q1
    have hIl:(I++[c]).length≤20:=by simp;omega
    generalize hI2:I++[c]=I2 at *
    have hln:=qjb I2 [.p (.str x.1),.p (.nl 1)]
    have hix:((I2.length+1:Nat):Int) - 1=(I2.length:Nat):=by omega
    have hla:=qkM I2 [.p (.str x.1),.p (.nl 1)]
    have hk64:=qpd I2 (.l 64) x.1 (.p (.nl 1))
    simp only [AV.kill] at hk64
    simp only [ZZ,WW,Zd,reduceCtorEq,zd,ze,zb,zf,za,hg,qan,q6,hln,hix,hla,qap,qad,qar]
    ((with_reducible and_intros)<;>try exact sc_)
    refine ⟨[],?_⟩
    simp only [ZZ,WW,Zd,reduceCtorEq,zd,ze,zb,zf,za,hg,qan,q6,hln,hix,hla,hk64,qnD,qap,qad,qar]
    refine ⟨by omega,⟨by omega,by omega⟩,by omega,by omega,qal (by omega) (by omega),?_⟩
    generalize hLM:Zas (Zas (Zat (Key.l 64) L3) (Key.l 64) _) (Key.l 6) _=LM
    have w6:Zar (mapO (r1 64 1000) LM) (.l 6)=some (.rowv (fmA I2++[[.p (.str x.1),.row (.l 1000)]]) tFm 2):=by
     rw [qbW,if_neg (by simp),if_neg (by simp),← hLM,qad,if_pos rfl]
     simp only [zN,AO.ren]
     exact congrArg (fun c=>some (AO.rowv c tFm 2)) (quI _ _)
    have w1:Zar (mapO (r1 64 1000) LM) (.l 1000)=some (.row (strE [x.1]) tStF 1 true):=by
     rw [qbW,if_pos rfl,← hLM,qad,if_neg (by simp),qad,if_pos rfl]
     rfl
    have w13:Zar (mapO (r1 64 1000) LM) (.l 13)=some (.row OC qfr 1 true):=by
     rw [qbW,if_neg (by simp),if_neg (by simp),← hLM,qad,if_neg (by simp),qad,if_neg (by simp),qar,q13]
     rfl
    have hI3:I2.length≤k+1:=by rw [← hI2,zp];simp;omega
    rw [← hI2] at w6 hI3
    obtain ⟨L2,r2,h2⟩:=hnx1 (mapO (r1 64 1000) LM) ⟨hI3,by show [x.1].length≤k+1;simp,w6,w1⟩ w13
    refine qe4 (il.length - (k+1)) _ L2 (by omega) (ReOk.trans (qrq 64 1000) (ReOk.trans (qlb (by simp only [AV.ren,r1,ZZ,WW,Zd,reduceCtorEq,zd,ze,zb,zf,za];try trivial)) r2)) ⟨k+1,by omega,rfl,rfl,h2⟩
  ·rw [if_neg hup] at hnx1 hps
   unfold upOf at hup
   cases G with
   |none=>obtain ⟨I,c,e⟩:=hps;cases e
   |some G=>
    obtain ⟨I,c⟩:=G
    obtain ⟨hI,hc,h6,h1⟩:=hj
    have hI:I.length≤k:=hI
    have hc:c.2.length≤k:=hc
    have hln:=qjb I [.p (.str c.1),.row (.l 1000)]
    have hix:((I.length+1:Nat):Int) - 1=(I.length:Nat):=by omega
    have hla:=qkM I [.p (.str c.1),.row (.l 1000)]
    simp only [ZZ,WW,Zd,reduceCtorEq,zd,ze,zb,zf,za,hgo,hg,qan,hOl,h6,h13,h1,hup,hln,qap,qad,qar,decide_false]
    ((with_reducible and_intros)<;>try exact sc_)
    refine qaF _ _ ReOk.refl ?_
    simp only [ZZ,WW,Zd,reduceCtorEq,zd,ze,zb,zf,za,hgo,hg,qan,hOl,h6,h13,h1,hup,hln,hix,hla,qaf,qap,qad,qar]
    ((with_reducible and_intros)<;>try exact sc_)
    refine ⟨[],?_⟩
    have hk2:=qpd I (.l 1000) c.1 (.row (.l 1000))
    simp only [AV.kill,if_true] at hk2
    have hln2:=qjb I [.p (.str c.1),oo]
    have hla2:=qkM I [.p (.str c.1),oo]
    simp only [ZZ,WW,Zd,reduceCtorEq,zd,ze,zb,zf,za,hg,qan,h6,h13,h1,hln,hix,hla,hk2,hln2,hla2,qnD,qaf,qap,qad,qar]
    refine ⟨by omega,⟨by omega,by omega⟩,by omega,by omega,by omega,qal (by omega) (by omega),?_⟩
    generalize hLL:Zas (Zas (Zat (Key.l 1000) L) (Key.l 1000) _) (Key.l 6) _=LL
    obtain ⟨L2,r2,h2⟩:=hnx1 LL ⟨by show I.length≤k+1;omega,by show (c.2++[x.1]).length≤k+1;simp only [zp,List.length_singleton];omega,by rw [← hLL,qad,if_pos rfl],by rw [← hLL,qad,if_neg (by simp),qad,if_pos rfl,qeq];rfl⟩ (by rw [← hLL,qad,if_neg (by simp),qad,if_neg (by simp),qar,h13];rfl)
    refine qe4 (il.length - (k+1)) _ L2 (by omega) (ReOk.trans (qlb zF_) r2) ⟨k+1,by omega,rfl,rfl,h2⟩
 ·intro h
  have hge:k=il.length:=by have:=of_decide_eq_false h;omega
  rcases hj with ⟨e,_⟩|⟨_,hO⟩
  ·omega
  subst hge
  refine zS ?_
  rw [qaW]
  refine ⟨_,_,qaN (k:=.l 6) hO,?_⟩
  refine zS ?_
  trivial
end
def qcV:IC:=(sR [qT 14 .lss 13 12] (.seq (jE 14) (.seq (.block 1 (sR [qX 15 2 11 13,qO 16 (.ld 2 true (.t 15)),qO 9 (.alc 175 [.str [],.nl 1]),qS 2 9 16] (sR [qF 17 1 9,qL 18 17,qO 19 (.mkf 197 [.t 4]),jC 20 92 [.t 18,.t 19]] (jW 20 (.reg [qM 21 7,qO 22 (.ld 2 true (.t 9)),qO 23 (.bsl 2 [.t 22]),qO 24 (.app 175 2 40 (.t 21) (.t 23)),qM 7 24]))))) (.cut (.reg [qB 25 .add 13 (cI 1),qM 13 25])))))
abbrev qhc:IC:=(sR [qO 3 (.box 30 (.t 0)),qO 4 (.box 27 (.t 1)),qO 5 (.box 3 (.t 2)),qO 6 (.mov (.c (.nl 2))),⟨none,.re,none⟩] (sR [qO 7 (.nilr 175 2)] (.seq (sR [qL 10 3,jC 11 196 [.t 10],qN 12 11,jI 13 0] (.block 0 (.loop qcV))) (sR [qM 26 7,qO 27 (.mkf 199 [.t 3,.t 5]),jC 28 198 [.t 26,.t 27]] (sR [qM 29 7,qM 6 29,⟨none,.re,none⟩] .ret)))))
theorem qho:chkF Tryz.prog Tryz.f150 qhc [.t 6] 30=true:=by kernel_rfl
abbrev qf3:IC:=(sR [qO 3 (.mov (.c (.bool false)))] (sR [qL 4 1,qM 5 0,jC 6 151 [.t 4,.t 5],qO 7 (.fld 1 1 false (.t 6)),qB 8 .eql 7 (cI 1),qM 3 8] .ret))
theorem qgf:chkF Tryz.prog Tryz.f197 qf3 [.t 3] 9=true:=by kernel_rfl
abbrev qf2:IC:=(sR [qO 4 (.box 175 (.t 0)),qO 5 (.box 175 (.t 1)),jI 6 0] (sR [qL 14 2,qF 15 0 4,qL 16 15,jC 17 152 [.t 14,.t 16],qM 13 17,qO 18 (.ext 0 (.t 13)),qO 19 (.ext 1 (.t 13)),qO 7 (.alc 79 [.str [],.str [],.int .i64 0,.str [],.int .i64 0,.str [],.str []]),qS 7 7 18,qM 8 19] (sR [qL 21 2,qF 22 0 5,qL 23 22,jC 24 152 [.t 21,.t 23],qM 20 24,qO 25 (.ext 0 (.t 20)),qO 26 (.ext 1 (.t 20)),qO 9 (.alc 79 [.str [],.str [],.int .i64 0,.str [],.int .i64 0,.str [],.str []]),qS 7 9 25,qM 10 26] (.seq (.drg [qF 27 1 7,qL 28 27,qF 29 1 9,qL 30 29,qO 31 (.pcall 0 200 [.t 28,.t 30]),qF 32 4 7,qL 33 32,qF 34 4 9,qL 35 34,qO 36 (.pcall 1 85 [.t 33,.t 35]),qM 11 31,qM 12 36]) (.seq (sR [qL 37 3] (.block 0 (sR [qB 39 .eql 37 (cI 1),qM 38 39] (.cond (.t 38) (.reg [jI 11 0,jI 12 0]) (sR [qB 41 .eql 37 (cI 2),qM 40 41] (jW 40 (.reg [jI 11 0]))))))) (.cut (sR [qM 42 11,qM 43 12,qF 44 0 4,qL 45 44,qF 46 0 5,qL 47 46,jC 48 200 [.t 45,.t 47],qO 49 (.bsl 1 [.t 42,.t 43,.t 48]),jC 50 201 [.t 49],qM 6 50] .ret)))))))
theorem qbG:chkF Tryz.prog Tryz.f199 qf2 [.t 6] 51=true:=by kernel_rfl
section
variable {E:Envt}
theorem qp8 (l:List Rul) (hl:l.length≤1000000) (s:List UInt8):PCall Tryz.prog E 151 [.sl 3 (rlE l),.str s] (fun x=>∃ i w v,x=.agg [i,int w,v]∧decide (w=1)=qmQ l s):=by
 refine qag mixed Tryz.func151 qd5 ?_
 refine zV ?_
 simp only [ZZ,WW,Zd,reduceCtorEq,zd,ze,zb,zf,za,qbN]
 refine qac (fun n fr L=>∃ (k:Nat),k≤l.length∧n=l.length - k∧(l.find? (fun r=>decide (r.id=s))=(l.drop k).find? (fun r=>decide (r.id=s)))∧fr=(oo::.p (.str s)::oo::oo::.adr (.l 4) 0::oo::oo::.p (.sl 3 (rlE l))::.p (int (l.length:Nat))::.p (int (k:Nat))::oD (oB (oo::[])))∧L=[(.l 4,.box [.p (.str []),.p (int 0),.p (.nl 2)] 130)]) (l.length) _ _ (by simp only [ZZ,WW,Zd,reduceCtorEq,zd,ze,zb,zf,za,qbN];try trivial) zF_ ⟨0,by omega,by omega,rfl,rfl,rfl⟩ ?_
 rintro n fr L ⟨k,hk,rfl,hF,rfl,rfl⟩
 simp only [qbA,ZZ,WW,Zd,reduceCtorEq,zd,ze,zb,zf,za]
 refine br ?_ ?_
 ·intro h
  have hlt:k < l.length:=by have:=of_decide_eq_true h;omega
  obtain ⟨r,hr⟩:∃ r,l[k]?=some r:=⟨_,zg hlt⟩
  have hg:=qla hr
  have hd:l.drop k=r :: l.drop (k+1):=by rw [List.drop_eq_getElem_cons hlt,(zk.1 hr).2]
  rw [hd,List.find?_cons] at hF
  simp only [ZZ,WW,Zd,reduceCtorEq,zd,ze,zb,zf,za,hg,qbN]
  ((with_reducible and_intros)<;>try exact sc_)
  refine br ?_ ?_
  ·intro h2
   have h3:r.id=s:=by simpa using h2
   rw [decide_eq_true h3] at hF
   refine zS ?_
   refine ⟨_,_,_,rfl,?_⟩
   unfold qmQ rlOf
   rw [hF]
   rfl
  ·intro h2
   have h3:¬ r.id=s:=by simpa using h2
   rw [decide_eq_false h3] at hF
   refine zS ?_
   ((with_reducible and_intros)<;>try exact sc_)
   refine qab (l.length - (k+1)) _ _ (by omega) zF_ zF_ ⟨k+1,by omega,rfl,hF,rfl,rfl⟩
 intro h
 have hge:l.length≤k:=by have:=of_decide_eq_false h;omega
 rw [List.drop_eq_nil_of_le hge] at hF
 refine zS ?_
 refine ⟨_,_,_,rfl,?_⟩
 unfold qmQ rlOf
 rw [hF]
 rfl
theorem qvY (l:List Rul) (hl:l.length≤1000000) (s:List UInt8):PCall Tryz.prog E 197 [.str s,.ptr [.sl 3 (rlE l)]] (·=.bool (qmQ l s)):=by
 refine qag mixed Tryz.func197 qgf ?_
 refine zV ?_
 refine use (qp8 l hl s) rfl (.inl rfl) ?_
 rintro _ ⟨i,w,v,rfl,h⟩
 refine zS ?_
 exact congrArg PV.bool h
theorem qzM {il:List Itm} (hP:qbl il) {order:Int} (ho:order=1∨order=2∨order=3) (s t:List UInt8) (a b:List (List PV)):PCall Tryz.prog E 199 [.agg [.str s,.sl 1 a],.agg [.str t,.sl 1 b],.ptr [.sl 7 (itE il)],.ptr [int order]] (·=int (cfR il order s t)):=by
 rw [cfR,cf3]
 unfold whoC qx6
 have i1:=qiV (E:=E) il hP s
 have i2:=qiV (E:=E) il hP t
 simp only [itC] at i1 i2
 generalize itOf il s=x at *
 generalize itOf il t=y at *
 generalize (getI il s).isSome=b1 at *
 generalize (getI il t).isSome=b2 at *
 have e12:decide ((1:Int)=2)=false:=rfl
 have e21:decide ((2:Int)=1)=false:=rfl
 have e31:decide ((3:Int)=1)=false:=rfl
 have e32:decide ((3:Int)=2)=false:=rfl
 rcases ho with rfl|rfl|rfl
 ·skip
  refine qag mixed Tryz.func199 qbG ?_
  refine zV ?_
  refine use1 i1 rfl (.inl rfl) ?_
  refine zS ?_
  refine use1 i2 rfl (.inl rfl) ?_
  refine zS ?_
  refine ⟨[int (Lib.compareBytes x.2.1 y.2.1),int (sgnC x.2.2.2.2.1 y.2.2.2.2.1)],?_⟩
  refine zS ?_
  refine ⟨usep (qb7 x.2.1 y.2.1) rfl (.inl rfl),usep (qiD x.2.2.2.2.1 y.2.2.2.2.1) rfl (.inl rfl),?_⟩
  simp only [ZZ,WW,Zd,reduceCtorEq,zd,ze,zb,zf,za,e12,e21,e31,e32,decide_true,decide_false]
  refine qaF _ _ ReOk.refl ?_
  refine zS ?_
  refine use1 (qb7 s t) rfl (.inl rfl) ?_
  refine zS ?_
  refine use1 (qvn [0,0,Lib.compareBytes s t] (by simp)) rfl (.inl rfl) ?_
  refine zS ?_
  rfl
 ·skip
  refine qag mixed Tryz.func199 qbG ?_
  refine zV ?_
  refine use1 i1 rfl (.inl rfl) ?_
  refine zS ?_
  refine use1 i2 rfl (.inl rfl) ?_
  refine zS ?_
  refine ⟨[int (Lib.compareBytes x.2.1 y.2.1),int (sgnC x.2.2.2.2.1 y.2.2.2.2.1)],?_⟩
  refine zS ?_
  refine ⟨usep (qb7 x.2.1 y.2.1) rfl (.inl rfl),usep (qiD x.2.2.2.2.1 y.2.2.2.2.1) rfl (.inl rfl),?_⟩
  simp only [ZZ,WW,Zd,reduceCtorEq,zd,ze,zb,zf,za,e12,e21,e31,e32,decide_true,decide_false]
  refine qaF _ _ ReOk.refl ?_
  refine zS ?_
  refine use1 (qb7 s t) rfl (.inl rfl) ?_
  refine zS ?_
  refine use1 (qvn [0,sgnC x.2.2.2.2.1 y.2.2.2.2.1,Lib.compareBytes s t] (by simp)) rfl (.inl rfl) ?_
  refine zS ?_
  rfl
 ·skip
  refine qag mixed Tryz.func199 qbG ?_
  refine zV ?_
  refine use1 i1 rfl (.inl rfl) ?_
  refine zS ?_
  refine use1 i2 rfl (.inl rfl) ?_
  refine zS ?_
  refine ⟨[int (Lib.compareBytes x.2.1 y.2.1),int (sgnC x.2.2.2.2.1 y.2.2.2.2.1)],?_⟩
  refine zS ?_
  refine ⟨usep (qb7 x.2.1 y.2.1) rfl (.inl rfl),usep (qiD x.2.2.2.2.1 y.2.2.2.2.1) rfl (.inl rfl),?_⟩
  simp only [ZZ,WW,Zd,reduceCtorEq,zd,ze,zb,zf,za,e12,e21,e31,e32,decide_true,decide_false]
  refine qaF _ _ ReOk.refl ?_
  refine zS ?_
  refine use1 (qb7 s t) rfl (.inl rfl) ?_
  refine zS ?_
  refine use1 (qvn [Lib.compareBytes x.2.1 y.2.1,sgnC x.2.2.2.2.1 y.2.2.2.2.1,Lib.compareBytes s t] (by simp)) rfl (.inl rfl) ?_
  refine zS ?_
  rfl
set_option maxHeartbeats 4000000 in
theorem qqY (il:List Itm) (hP:qbl il) (h12:il.length≤12) (l:List Rul) (hl:l.length≤1000000) (order:Int) (ho:order=1∨order=2∨order=3):PCall Tryz.prog E 150 [.sl 7 (itE il),.sl 3 (rlE l),int order] (·=.sl 2 ((chS il l order).map (encF il))):=by
 have hFO:=qn8 (E:=E) il hP h12
 have hfe:(famF il).map fmC=(qfq il).map (encF il):=qwR il
 rw [hfe] at hFO
 have hTl:(qfq il).length≤12:=yl (qfu il []) h12
 refine qag mixed Tryz.func150 qho ?_
 refine zV ?_
 rw [qaW]
 refine ⟨_,_,ReOk.trans (qhZ (k:=.l 3) (cs:=[.sl 7 (itE il)]) rfl) (ReOk.trans (qhZ (k:=.l 4) (cs:=[.sl 3 (rlE l)]) rfl) (qhZ (k:=.l 5) (cs:=[int order]) rfl)),?_⟩
 refine zS ?_
 refine use1 hFO rfl (.inl rfl) ?_
 simp only [ZZ,WW,Zd,reduceCtorEq,zd,ze,zb,zf,za,zw]
 refine qac (fun n fr L=>∃ (k:Nat) (w:List (List PV)),k≤(qfq il).length∧n=(qfq il).length - k∧(w=(((qfq il).take k).filter (fun s=>(s :: qfS il s).any (qmQ l))).map (encF il))∧fr=(oo::oo::oo::.p (.ptr [.sl 7 (itE il)])::.p (.ptr [.sl 3 (rlE l)])::.p (.ptr [int order])::oo::.row (.l 7)::oo::oo::oo::.p (.sl 2 ((qfq il).map (encF il)))::.p (int ((qfq il).length:Nat))::.p (int (k:Nat))::oE [])∧L=[(.l 7,.row w 175 2 true)]) ((qfq il).length) _ _ (by simp only [ZZ,WW,Zd,reduceCtorEq,zd,ze,zb,zf,za,zw];try trivial) zF_ ⟨0,[],by omega,by omega,rfl,rfl,rfl⟩ ?_
 rintro n fr L ⟨k,w,hk,rfl,hw,rfl,rfl⟩
 simp only [qcV,ZZ,WW,Zd,reduceCtorEq,zd,ze,zb,zf,za]
 refine br ?_ ?_
 ·intro h
  have hlt:k < (qfq il).length:=by have:=of_decide_eq_true h;omega
  obtain ⟨x,hx⟩:∃ x,(qfq il)[k]?=some x:=⟨_,zg hlt⟩
  have hg:((qfq il).map (encF il)).getD k []=[.str x,.sl 1 (strE (x :: qfS il x))]:=qao hx
  have htk:(qfq il).take (k+1)=(qfq il).take k++[x]:=by rw [zo hlt,(zk.1 hx).2]
  have hwl:w.length≤12:=by
   rw [hw,zw]
   refine yl (List.length_filter_le _ _) ?_
   rw [zJ]
   omega
  have hkl:(qfS il x).length≤12:=yl (qfu il x) h12
  have hc:=qbM (E:=E) (x :: qfS il x) 197 [.ptr [.sl 3 (rlE l)]] (qmQ l) (by simp;omega) (fun _=>by kernel_rfl) rfl (fun y _=>qvY l hl y) (fun _=>rfl) (fun _=>rfl)
  simp only [ZZ,WW,Zd,reduceCtorEq,zd,ze,zb,zf,za,hg,zw]
  ((with_reducible and_intros)<;>try exact sc_)
  refine use1 hc rfl (.inr rfl) ?_
  refine zS ?_
  refine br ?_ ?_
  ·intro h2
   refine zS ?_
   ((with_reducible and_intros)<;>try exact sc_)
   refine qaF _ _ ReOk.refl ?_
   refine zS ?_
   ((with_reducible and_intros)<;>try exact sc_)
   refine qab ((qfq il).length - (k+1)) _ _ (by omega) zF_ zF_ ⟨k+1,w++[[.str x,.sl 1 (strE (x :: qfS il x))]],by omega,rfl,by rw [htk,List.filter_append,zF,← hw,List.filter_cons,if_pos h2];rfl,rfl,rfl⟩
  ·intro h2
   refine zS ?_
   ((with_reducible and_intros)<;>try exact sc_)
   refine qaF _ _ ReOk.refl ?_
   refine zS ?_
   ((with_reducible and_intros)<;>try exact sc_)
   refine qab ((qfq il).length - (k+1)) _ _ (by omega) zF_ zF_ ⟨k+1,w,by omega,rfl,by rw [htk,List.filter_append,zF,← hw,List.filter_cons,if_neg (by rw [h2];simp)];simp,rfl,rfl⟩
 intro h
 have hge:(qfq il).length≤k:=by have:=of_decide_eq_false h;omega
 rw [zq hge] at hw
 have hw:w=(chT il l).map fun s=>[PV.str s,.sl 1 (strE (s :: qfS il s))]:=hw
 subst hw
 refine zS ?_
 refine useR (qqR (fun s=>s) (fun s=>strE (s :: qfS il s)) (cfR il order) (by rw [← quY];exact (qnQ il order).ord) 199 [.ptr [.sl 7 (itE il)],.ptr [int order]] (fun _=>by kernel_rfl) (chT il l) (yl (yl (List.length_filter_le _ _) (qfu il [])) h12) (fun s _ t _=>qzM hP ho s t _ _) (fun _ _=>rfl) (fun _ _=>rfl)) rfl rfl rfl zE_ ?_
 rintro _ _ ⟨rfl,o,rfl,hp,hs⟩
 rw [← quY] at hs
 have hoe:=qw3 hp hs
 subst hoe
 refine zS ?_
 rw [qaW]
 refine ⟨_,_,ReOk.refl,?_⟩
 refine zS ?_
 rfl
end
def qcU:IC:=(sR [qT 15 .lss 14 13] (.seq (jE 15) (.seq (.block 1 (sR [qM 16 14,qX 17 1 12 14,qL 18 17,qM 6 16,qM 7 18] (sR [qM 19 7,qM 20 19,⟨some 21,.mov (.t 5),(some (20,true))⟩,⟨some 22,.mov (.t 6),(some (20,true))⟩,⟨some 23,.ixa 1 (.t 21) (.t 22),(some (20,true))⟩,⟨some 24,.ld 1 false (.t 23),(some (20,true))⟩,⟨some 25,.bin .neq (.t 24) (.c (.int .u8 32)),(some (20,true))⟩,qO 26 (.pick (.t 20) (.t 25) (.c (.bool false))),qM 27 26,⟨some 28,.mov (.t 5),(some (27,true))⟩,⟨some 29,.mov (.t 6),(some (27,true))⟩,⟨some 30,.ixa 1 (.t 28) (.t 29),(some (27,true))⟩,⟨some 31,.ld 1 false (.t 30),(some (27,true))⟩,⟨some 32,.bin .neq (.t 31) (.c (.int .u8 10)),(some (27,true))⟩,qO 33 (.pick (.t 27) (.t 32) (.c (.bool false)))] (jW 33 (.reg [qM 34 5,qM 35 6,qX 36 1 34 35,⟨none,.st 1 (.t 36) (.c (.int .u8 35)),none⟩]))))) (.cut (.reg [qB 37 .add 14 (cI 1),qM 14 37])))))
abbrev qhb:IC:=(sR [qO 4 (.mov (.c (.str [])))] (sR [qM 8 0,qO 9 (.s2b 5 (.t 8)),qM 5 9] (.seq (sR [qM 10 0,qM 11 1,jC 12 204 [.t 10,.t 11],qN 13 12,jI 14 0] (.block 0 (.loop qcU))) (sR [qM 38 5,qO 39 (.b2s (.t 38)),qM 4 39] .ret))))
theorem qhn:chkF Tryz.prog Tryz.f153 qhb [.t 4] 40=true:=by kernel_rfl
section
theorem qqT (s:List UInt8) (l:List (Int×Int)) (hs:s.length≤1000000) (hl:l.length≤1000000) (hv:Lib.validD s=true) (hb:∀ p∈l,0≤p.1∧p.1 < p.2∧p.2≤s.length) :
  PCall Tryz.prog E0 153 [.str s,sps l] (·=.str (qci s l)):=by
 refine qag mixed Tryz.func153 qhn ?_
 refine zV ?_
 ((with_reducible and_intros)<;>try exact sc_)
 refine useF (qpj s l hs hl hv hb) rfl rfl ?_
 rintro es rfl
 have hrf:qci s l=(zA s.length).map (redG s fun j=>decide (j < s.length) && cov (qea s l) j):=zP fun j hj=>by
  simp only [yA] at hj
  simp [redG,hj]
 rw [hrf]
 generalize cov (qea s l)=C at *
 rw [qzZ]
 simp only [ZZ,WW,Zd,reduceCtorEq,zd,ze,zb,zf,za,qkf,qfM]
 refine qac (fun n fr L=>∃ (k:Nat) (g:Nat→UInt8),k≤s.length∧n=s.length - k∧(g=redG s (fun j=>decide (j < k) && C j))∧fr=(oC (oo::(.row (.l 9)::oC (oB (.row (.l 12)::.p (int (s.length:Nat))::.p (int (k:Nat))::oE (oD (oo::[])))))))∧L=[(.l 9,.row (bU s.length g) 5 1 false),(.l 12,.row (bl (tab s.length C)) 4 1 true)]) (s.length) _ _ zF_ zF_ ⟨0,fun j=>s.getD j 0,by omega,by omega,by funext j;simp [redG],rfl,rfl⟩ ?_
 rintro n fr L ⟨k,g,hk,rfl,hg,rfl,rfl⟩
 simp only [qcU,ZZ,WW,Zd,reduceCtorEq,zd,ze,zb,zf,za]
 refine br ?_ ?_
 ·intro h
  have hlt:k < s.length:=by have:=of_decide_eq_true h;omega
  have hgi:(bU s.length g).getD k []=[.int .u8 ((g k).toNat:Nat)]:=qvc hlt
  have hbl:=qpx s.length g
  have hset:(bU s.length g).set k [.int .u8 35]=bU s.length (fun j=>if j=k then 35 else g j):=qvb (35:UInt8)
  simp only [ZZ,WW,Zd,reduceCtorEq,zd,ze,zb,zf,za,qkf,qfM,qu6 hlt,hgi,hbl]
  ((with_reducible and_intros)<;>try exact sc_)
  refine br ?_ ?_
  ·intro hc
   simp only [Bool.and_eq_true,Bool.not_eq_true'] at hc
   have hb:qgw (g k)=false:=by simp [qgw,hc.1.2,hc.2]
   have hnx:=qyT (s:=s) (i:=k) (by rw [← hg];exact hb)
   have hm:(fun j=>decide (j < k) && C j || decide (j=k))=(fun j=>decide (j < k+1) && C j):=by
    funext j
    by_cases hj:j=k
    ·subst hj;simp [hc.1.1]
    ·simp only [hj,decide_false,Bool.or_false]
     congr 1
     simp only [decide_eq_decide]
     omega
   rw [← hg,hm] at hnx
   simp only [ZZ,WW,Zd,reduceCtorEq,zd,ze,zb,zf,za,hgi,hbl,hset,hnx]
   ((with_reducible and_intros)<;>try exact sc_)
   refine qaj zE_ ?_
   refine zS ?_
   ((with_reducible and_intros)<;>try exact sc_)
   refine qab (s.length - (k+1)) _ _ (by omega) zF_ zF_ ⟨k+1,redG s (fun j=>decide (j < k+1) && C j),by omega,rfl,rfl,rfl,rfl⟩
  ·intro hc
   have hnx:g=redG s (fun j=>decide (j < k+1) && C j):=by
    cases hck:C k with
    |false=>
     rw [hg]
     congr 1
     funext j
     by_cases hj:j=k
     ·subst hj;simp [hck]
     ·congr 1
      simp only [decide_eq_decide]
      omega
    |true=>
     rw [hck] at hc
     have hb:qgw (g k)=true:=by
      simp only [Bool.true_and,Bool.and_eq_false_iff,Bool.not_eq_false'] at hc
      rcases hc with hc|hc<;>simp [qgw,hc]
     have hnx:=qv9 (s:=s) (i:=k) (by rw [← hg];exact hb)
     have hm:(fun j=>decide (j < k) && C j || decide (j=k))=(fun j=>decide (j < k+1) && C j):=by
      funext j
      by_cases hj:j=k
      ·subst hj;simp [hck]
      ·simp only [hj,decide_false,Bool.or_false]
       congr 1
       simp only [decide_eq_decide]
       omega
     rw [hm] at hnx
     rw [hg]
     exact hnx
   refine zS ?_
   refine qaj zE_ ?_
   refine zS ?_
   ((with_reducible and_intros)<;>try exact sc_)
   refine qab (s.length - (k+1)) _ _ (by omega) zF_ zF_ ⟨k+1,g,by omega,rfl,hnx,rfl,rfl⟩
 ·intro h
  have hge:k=s.length:=by have:=of_decide_eq_false h;omega
  subst hge
  simp only [ZZ,WW,Zd,reduceCtorEq,zd,ze,zb,zf,za,qnR]
  rw [hg]
end
end Go.Proofs.YtmpdnpljdcincaaGreatDoor
