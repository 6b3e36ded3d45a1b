import Derived.Test.YtekhobchfhhofaaGreatDoorZ17
set_option linter.unusedVariables false
set_option linter.unusedSimpArgs false
set_option linter.defProp false
namespace Go.Proofs.YtekhobchfhhofaaGreatDoor
open Nat renaming reduceAdd→zd,reduceEqDiff→zb,reduceLT→zf,reduceLeDiff→za,reduceMul→ze
open List renaming getElem?_eq_getElem→zh,length_set→yn,mem_of_getElem?→zl,mem_or_eq_of_mem_set→yc,take_of_length_le→zN
open Go.RowKit
def qeg:IC:=(sR [qT 33 .lss 32 31] (.seq (jE 33) (.seq (.block 1 (sR [qX 34 1 30 32,qL 35 34,qM 11 35] (.seq (sR [wF 37 3 2,qL 38 37,qM 39 11,jC 40 51 [.t 38,.t 39],qM 36 40,qO 41 (.ext 0 (.t 36)),qO 42 (.ext 1 (.t 36)),qM 12 41,qM 13 42] (sR [qM 43 13] (jW 43 (sR [wF 44 2 5,⟨none,.st 1 (.t 44) (cI 1),none⟩] (sR [qO 45 (.ld 3 true (.t 5)),qS 3 4 45] .ret))))) (sR [wF 47 0 2,qL 48 47,wF 49 1 2,qL 50 49,qM 51 11,jC 52 50 [.t 48,.t 50,.t 51],qM 46 52,qO 53 (.ext 0 (.t 46)),qO 54 (.ext 1 (.t 46)),qO 14 (.alc 70 [.str [],.int .i64 0,.int .i64 0]),qS 3 14 53,qM 15 54] (sR [qM 55 8,qM 56 55,⟨some 57,.mov (.t 15),(some (56,false))⟩,⟨some 58,.not (.t 57),(some (56,false))⟩,qO 59 (.pick (.t 56) (.c (.bool true)) (.t 58)),qM 60 59,⟨some 61,.fla 1 (.t 14),(some (60,false))⟩,⟨some 62,.ld 1 false (.t 61),(some (60,false))⟩,⟨some 63,.bin .neq (.t 62) (cI 1),(some (60,false))⟩,qO 64 (.pick (.t 60) (.c (.bool true)) (.t 63)),qM 8 64] (.reg [qM 65 9,qM 66 65,⟨some 67,.ld 3 true (.t 14),(some (66,false))⟩,⟨some 68,.call 101 [.t 67],(some (66,false))⟩,qO 69 (.pick (.t 66) (.c (.bool true)) (.t 68)),qM 9 69])))))) (.reg [qB 70 .add 32 (cI 1),qM 32 70]))))
abbrev qkb:IC:=(sR [qO 2 (.box 30 (.t 0)),qO 3 (.box 45 (.t 1)),⟨none,.re,none⟩,qO 4 (.alc 47 [.str [],.int .i64 0,.int .i64 0])] (sR [wF 22 0 3,qL 23 22,qO 24 (.bld [.str [],.int .i64 0,.int .i64 0] [(0,1,.t 23),(1,1,.c (.int .i64 1))]),qO 5 (.alc 47 [.str [],.int .i64 0,.int .i64 0]),qS 3 5 24] (sR [qO 26 (.ld 9 true (.t 3)),jC 27 49 [.t 26],qM 25 27,qO 28 (.ext 0 (.t 25)),qO 29 (.ext 1 (.t 25)),qM 6 28,qM 7 29] (sR [qO 8 (.mov (.c (.bool false))),qO 9 (.mov (.c (.bool false)))] (.seq (sR [qM 30 6,qN 31 30,jI 32 0] (.block 0 (.loop qeg))) (.seq (.block 2 (sR [qM 72 8,qM 71 72] (.cond (.t 71) (sR [wF 73 2 5,⟨none,.st 1 (.t 73) (cI 2),none⟩] (sR [qO 74 (.ld 3 true (.t 5)),qS 3 4 74] .ret)) (sR [qM 76 9,qO 77 (.not (.t 76)),qM 75 77] (jW 75 (sR [wF 78 2 5,⟨none,.st 1 (.t 78) (cI 3),none⟩] (sR [qO 79 (.ld 3 true (.t 5)),qS 3 4 79] .ret))))))) (sR [wF 81 0 2,qL 82 81,wF 83 1 2,qL 84 83,wF 85 2 3,wF 86 1 85,qL 87 86,jC 88 50 [.t 82,.t 84,.t 87],qM 80 88,qO 89 (.ext 0 (.t 80)),qO 90 (.ext 1 (.t 80)),qO 16 (.alc 70 [.str [],.int .i64 0,.int .i64 0]),qS 3 16 89,qM 17 90] (sR [wF 92 8 3,qL 93 92,jC 94 102 [.t 93],qM 91 94,qO 95 (.ext 0 (.t 91)),qO 96 (.ext 1 (.t 91)),qM 18 95,qM 19 96] (.seq (sR [qO 97 (.ld 3 true (.t 16)),jC 98 101 [.t 97],qM 99 98,⟨some 100,.fla 2 (.t 2),(some (99,false))⟩,⟨some 101,.ld 1 false (.t 100),(some (99,false))⟩,⟨some 102,.fla 7 (.t 3),(some (99,false))⟩,⟨some 103,.ld 1 false (.t 102),(some (99,false))⟩,⟨some 104,.call 103 [.t 101,.t 103],(some (99,false))⟩,⟨some 105,.len (.t 104),(some (99,false))⟩,⟨some 106,.bin .gtr (.t 105) (cI 0),(some (99,false))⟩,qO 107 (.pick (.t 99) (.c (.bool true)) (.t 106)),qM 108 107,⟨some 109,.fla 2 (.t 2),(some (108,false))⟩,⟨some 110,.ld 1 false (.t 109),(some (108,false))⟩,⟨some 111,.mov (.t 18),(some (108,false))⟩,⟨some 112,.call 103 [.t 110,.t 111],(some (108,false))⟩,⟨some 113,.len (.t 112),(some (108,false))⟩,⟨some 114,.bin .gtr (.t 113) (cI 0),(some (108,false))⟩,qO 115 (.pick (.t 108) (.c (.bool true)) (.t 114))] (jW 115 (sR [wF 116 1 5,⟨none,.st 1 (.t 116) (cI 3),none⟩,wF 117 2 5,⟨none,.st 1 (.t 117) (cI 4),none⟩] (sR [qO 118 (.ld 3 true (.t 5)),qS 3 4 118] .ret)))) (sR [wF 120 8 3,qL 121 120,jC 122 104 [.t 121],qM 119 122,qO 123 (.ext 0 (.t 119)),qO 124 (.ext 1 (.t 119)),qM 20 123,qM 21 124] (.seq (sR [qM 125 20,qO 126 (.mkf 105 [.t 2]),jC 127 64 [.t 125,.t 126]] (jW 127 (sR [wF 128 1 5,⟨none,.st 1 (.t 128) (cI 2),none⟩,wF 129 2 5,⟨none,.st 1 (.t 129) (cI 5),none⟩] (sR [qO 130 (.ld 3 true (.t 5)),qS 3 4 130] .ret)))) (sR [wF 131 2 5,⟨none,.st 1 (.t 131) (cI 6),none⟩] (sR [qO 132 (.ld 3 true (.t 5)),qS 3 4 132] .ret)))))))))))))
theorem qkl:chkF Tryz.prog Tryz.f41 qkb [.c 4 3 true] 133=true:=by kernel_rfl
abbrev qiB:IC:=(sR [qO 3 (.mov (.c (.bool false)))] (sR [wF 4 2 1,qL 5 4,qM 6 0,jC 7 103 [.t 5,.t 6],qN 8 7,qB 9 .gtr 8 (cI 0),qM 3 9] .ret))
theorem qiT:chkF Tryz.prog Tryz.f105 qiB [.t 3] 10=true:=by kernel_rfl
abbrev qny:Nat:=47
theorem qws (P D:List Par) (Ts X:List (List UInt8)) (s:List UInt8) (hB:CB P D Ts X) (hs:s.length≤25000):PCall Tryz.prog E6 105 [.str s,.ptr [.sl 3 (parE P),.sl 3 (parE D),.sl 1 (strE Ts),.sl 1 (strE X)]] (·=.bool (mkB Ts s)):=by
 refine qag mixed Tryz.func105 qiT ?_
 refine zV ?_
 refine use1 (up6 (qlH Ts s hB.h5 hB.h6 hs)) rfl (.inl rfl) ?_
 simp only [ZZ,WW,Ze,reduceCtorEq,zd,ze,za,zf,zb,qac]
 rfl
theorem qpu {P D:List Par} {Ts X:List (List UInt8)} (hB:CB P D Ts X) (hc:cirF P D Ts X=0) (x:List UInt8) (hx:x.length≤1000000):PCall Tryz.prog E6 50 [.sl 3 (parE P),.sl 3 (parE D),.str x] (·=.tup [.agg [.str (qbo P D x).1.1,int (qbo P D x).1.2.1,int (qbo P D x).1.2.2],.bool (qbo P D x).2]):=by
 obtain ⟨h1,h2,h3⟩:=ql5 hc
 have:=qvC P D x hB.h1 h1 hB.h3 hB.h4 hx
 rw [h2 x] at this
 exact up6 this
theorem qmh {m:Ltr} (hm:LtB m) (h0:letF m=0):PCall Tryz.prog E6 49 [.agg (ltV m)] (·=.tup [.sl 1 (strE (ptsS m)),int 0]):=by
 have:=qsL m hm
 rw [if_pos h0,h0] at this
 exact this
theorem qyk {m:Ltr} (h0:letF m=0):PCall Tryz.prog E6 102 [.str m.body] (·=.tup [.str (ownT m),int 0]):=by
 have hb:=(qfu h0).2
 have hz:=qep hb
 have:=qzn m.body (by omega)
 rw [if_pos hb,hb,← qrG hz.2] at this
 exact up6 this
theorem qyj {m:Ltr} (h0:letF m=0):PCall Tryz.prog E6 104 [.str m.body] (·=.tup [.sl 1 (strE (parT m)),int 0]):=by
 have hb:=(qfu h0).2
 have hz:=qep hb
 have:=qmN m.body (by omega)
 rw [if_pos hb,hb,qvl,← qrG hz.2] at this
 exact up6 this
theorem qhQ {α:Type} {l:List α} {k:Nat} {x:α} (q:α→Bool) (h:l[k]?=some x):(l.take (k+1)).any q=((l.take k).any q || q x):=by
 rw [List.take_add_one,h,List.any_append]
 simp
set_option maxHeartbeats 8000000 in
set_option maxRecDepth 100000 in
theorem qxa (P D:List Par) (Ts X:List (List UInt8)) (m:Ltr) (hB:CB P D Ts X) (hc:cirF P D Ts X=0) (hm:LtB m) (h0:letF m=0):PCall Tryz.prog E6 41 [.agg (cirV P D Ts X),.agg (ltV m)] (·=.agg (cldV P D Ts X m)):=by
 have hpa:=qmh hm h0
 have hparty:=fun x hx=>qpu hB hc x hx
 have hown:=qyk h0
 have hpar:=qyj h0
 have hsr:=(ql5 hc).2.2
 have hbd:=(qep (qfu h0).2).1
 have hsub:=(qfu h0).1
 have hXl:=hB.h7
 have hAl:=qjh hm
 have hAm:=qk9 hm
 have hol:=qrz m
 have hpm:=qrw m
 have hpl:=qrx m
 have hfr:m.fr.2.length≤1000000:=hm.2.2.1
 have hcl:∀ q,qkW P D Ts X m=q→cldV P D Ts X m=[.str m.id,int q.1,int q.2]:=fun q h=>by rw [cldV,h]
 unfold qkW at hcl
 unfold qx5 at hcl
 have hcal:=fun s hs=>qws P D Ts X s hB hs
 generalize cldV P D Ts X m=res at *
 generalize ptsS m=A at *
 generalize ownT m=ow at *
 generalize parT m=pa at *
 simp only [ltV] at hpa
 refine qag mixed Tryz.func41 qkl ?_
 refine zV ?_
 simp only [cirV,ltV,ZZ,WW,Ze,reduceCtorEq,zd,ze,za,zf,zb]
 rw [qm9]
 refine ⟨_,_,ReOk.trans (qrt (k:=.l 2) (cs:=[.sl 3 (parE P),.sl 3 (parE D),.sl 1 (strE Ts),.sl 1 (strE X)]) rfl) (qrt (k:=.l 3) (cs:=[.str m.id,int m.at_,.str m.fr.1,.str m.fr.2,.sl 2 (adrE m.tos),.sl 2 (adrE m.ccs),.sl 1 (strE m.refs),.str m.sub,.str m.body]) rfl),?_⟩
 refine zS ?_
 refine use1 hpa rfl (.inl rfl) ?_
 simp only [ZZ,WW,Ze,reduceCtorEq,zd,ze,za,zf,zb,qac]
 refine qae (fun n fr L=>∃ (k:Nat) (a:Bool) (b:Bool),k≤A.length∧n=A.length - k∧((A.take k).any (fun x=>decide (x∈X))=false)∧(a=(A.take k).any (strg P D))∧(b=(A.take k).any (lawy P D))∧fr=(oo::oo::.p (.ptr [.sl 3 (parE P),.sl 3 (parE D),.sl 1 (strE Ts),.sl 1 (strE X)])::.p (.ptr [.str m.id,int m.at_,.str m.fr.1,.str m.fr.2,.sl 2 (adrE m.tos),.sl 2 (adrE m.ccs),.sl 1 (strE m.refs),.str m.sub,.str m.body])::.adr (.l 4) 0::.adr (.l 5) 0::oo::oo::.p (.bool a)::.p (.bool b)::oE (oC (.p (.sl 1 (strE A))::.p (int (A.length:Nat))::.p (int (k:Nat))::oG (oF (oC [])))))∧L=[(.l 4,.box [.p (.str []),.p (int 0),.p (int 0)] qny),(.l 5,.box [.p (.str m.id),.p (int 1),.p (int 0)] qny)]) (A.length) _ _ (by simp only [ZZ,WW,Ze,reduceCtorEq,zd,ze,za,zf,zb,qac];try trivial) zF_ ⟨0,false,false,by omega,by omega,by simp,by simp,by simp,rfl,rfl⟩ ?_
 rintro n fr L ⟨k,a,b,hk,rfl,hno,ha,hb,rfl,rfl⟩
 simp only [qeg,ZZ,WW,Ze,reduceCtorEq,zd,ze,za,zf,zb]
 refine br ?_ ?_
 ·intro h
  have hlt:k < A.length:=by have:=of_decide_eq_true h;omega
  obtain ⟨x,hx⟩:∃ x,A[k]?=some x:=⟨_,zh hlt⟩
  have hg:=qaD hx
  have hxl:=hAm x (zl hx)
  have t1:=qhQ (fun x=>decide (x∈X)) hx
  have t2:=qhQ (strg P D) hx
  have t3:=qhQ (lawy P D) hx
  simp only [ZZ,WW,Ze,reduceCtorEq,zd,ze,za,zf,zb,hg,qac]
  ((with_reducible and_intros)<;>try exact sc_)
  refine use (qnu X x hXl hsr) rfl (.inl rfl) ?_
  rintro _ ⟨i,rfl⟩
  refine zS ?_
  refine br ?_ ?_
  ·intro h2
   have hpub:A.any (fun x=>decide (x∈X))=true:=List.any_eq_true.2 ⟨x,zl hx,h2⟩
   have hcl:=hcl (1,1) (by rw [if_pos hpub])
   refine zS ?_
   rw [hcl]
  intro h2
  refine zS ?_
  refine use1 (hparty x hxl) rfl (.inl rfl) ?_
  refine zS ?_
  ((with_reducible and_intros)<;>try exact sc_)
  refine useG (fun _=>qpC (qbo P D x).1) rfl (.inl rfl) ?_
  refine zS ?_
  ((with_reducible and_intros)<;>try exact sc_)
  refine qab (A.length - (k+1)) _ _ (by omega) zF_ zF_ ⟨k+1,(a || !(qbo P D x).2 || !decide ((qbo P D x).1.2.1=1)),(b || lawB (qbo P D x).1),by omega,rfl,by rw [t1,hno,h2];rfl,by rw [t2,← ha,strg,Bool.or_assoc],by rw [t3,← hb];rfl,rfl,rfl⟩
 intro h
 have hge:A.length≤k:=by have:=of_decide_eq_false h;omega
 rw [zN hge] at hno ha hb
 subst ha hb
 rw [if_neg (by rw [hno];decide)] at hcl
 clear hno h hge
 refine zS ?_
 refine br ?_ ?_
 ·intro h
  have hcl:=hcl (1,2) (by rw [if_pos h])
  refine zS ?_
  rw [hcl]
 intro h
 rw [if_neg (by rw [h];decide)] at hcl
 refine zS ?_
 refine br ?_ ?_
 ·intro h2
  have hcl:=hcl (1,3) (by rw [if_pos (by simpa using h2)])
  refine zS ?_
  rw [hcl]
 intro h2
 rw [if_neg (by simpa using h2)] at hcl
 refine zS ?_
 refine use1 (hparty m.fr.2 hfr) rfl (.inl rfl) ?_
 refine zS ?_
 refine use1 hown rfl (.inl rfl) ?_
 refine zS ?_
 refine use1 (qpC (qbo P D m.fr.2).1) rfl (.inl rfl) ?_
 refine zS ?_
 refine useG (fun _=>up6 (qlH Ts m.sub hB.h5 hB.h6 (by omega))) rfl (.inl rfl) ?_
 simp only [ZZ,WW,Ze,reduceCtorEq,zd,ze,za,zf,zb,qac]
 ((with_reducible and_intros)<;>try exact sc_)
 refine useG (fun _=>up6 (qlH Ts ow hB.h5 hB.h6 (by omega))) rfl (.inl rfl) ?_
 simp only [ZZ,WW,Ze,reduceCtorEq,zd,ze,za,zf,zb,qac]
 ((with_reducible and_intros)<;>try exact sc_)
 have hcnd:(lawy P D m.fr.2 || (mkB Ts m.sub || mkB Ts ow))=((lawB (qbo P D m.fr.2).1 || decide (0 < ((qew Ts m.sub).length:Int))) || decide (0 < ((qew Ts ow).length:Int))):=by
  rw [Bool.or_assoc];rfl
 rw [hcnd] at hcl
 refine br ?_ ?_
 ·intro h3
  have hcl:=hcl (3,4) (by rw [if_pos h3])
  refine zS ?_
  rw [hcl]
 intro h3
 rw [if_neg (by rw [h3];decide)] at hcl
 refine zS ?_
 refine use1 hpar rfl (.inl rfl) ?_
 refine zS ?_
 refine use1 (qgE pa 105 [.ptr [.sl 3 (parE P),.sl 3 (parE D),.sl 1 (strE Ts),.sl 1 (strE X)]] (mkB Ts) (by omega) (fun _=>by kernel_rfl) rfl (fun z hz=>hcal z (by have:=hpm z hz;omega)) (fun _=>rfl) (fun _=>rfl)) rfl (.inr rfl) ?_
 refine zS ?_
 refine br ?_ ?_
 ·intro h4
  have hcl:=hcl (2,5) (by rw [if_pos h4])
  refine zS ?_
  rw [hcl]
 intro h4
 have hcl:=hcl (1,6) (by rw [if_neg (by rw [h4];decide)])
 refine zS ?_
 rw [hcl]
def qdL:IC:=(sR [qT 18 .lss 17 16] (.seq (jE 18) (.seq (.block 1 (sR [qX 19 1 15 17,qL 20 19,qM 10 20] (sR [qM 21 6,qM 22 21,⟨some 23,.fla 3 (.t 2),(some (22,false))⟩,⟨some 24,.ld 1 false (.t 23),(some (22,false))⟩,⟨some 25,.mov (.t 10),(some (22,false))⟩,⟨some 26,.call 58 [.t 24,.t 25],(some (22,false))⟩,qO 27 (.pick (.t 22) (.c (.bool true)) (.t 26)),qM 6 27] (sR [qM 28 7,qM 29 28,⟨some 30,.ld 4 true (.t 2),(some (29,false))⟩,⟨some 31,.mov (.t 10),(some (29,false))⟩,⟨some 32,.call 62 [.t 30,.t 31],(some (29,false))⟩,⟨some 33,.bin .eql (.t 32) (cI 2),(some (29,false))⟩,qO 34 (.pick (.t 29) (.c (.bool true)) (.t 33)),qM 7 34] (.reg [qM 35 8,qM 36 35,⟨some 37,.ld 4 true (.t 2),(some (36,false))⟩,⟨some 38,.mov (.t 10),(some (36,false))⟩,⟨some 39,.call 63 [.t 37,.t 38],(some (36,false))⟩,qO 40 (.pick (.t 36) (.c (.bool true)) (.t 39)),qM 8 40]))))) (.reg [qB 41 .add 17 (cI 1),qM 17 41]))))
abbrev qiK:IC:=(sR [qO 2 (.box 30 (.t 0)),qO 3 (.box 45 (.t 1)),⟨none,.re,none⟩,qO 4 (.alc 47 [.str [],.int .i64 0,.int .i64 0])] (sR [qO 13 (.ld 9 true (.t 3)),jC 14 61 [.t 13],qM 5 14] (sR [qO 6 (.mov (.c (.bool false))),qO 7 (.mov (.c (.bool false))),qO 8 (.mov (.c (.bool false)))] (.seq (sR [qM 15 5,qN 16 15,jI 17 0] (.block 0 (.loop qdL))) (sR [wF 42 8 3,qL 43 42,jC 44 65 [.t 43],qO 45 (.mkf 66 [.t 2]),jC 46 64 [.t 44,.t 45],qM 11 46] (.seq (.drg [wF 47 2 2,qL 48 47,wF 49 7 3,qL 50 49,qO 51 (.pcall 0 67 [.t 48,.t 50]),qN 52 51,qB 53 .gtr 52 (cI 0),qM 54 53,⟨some 55,.fla 2 (.t 2),(some (54,false))⟩,⟨some 56,.ld 1 false (.t 55),(some (54,false))⟩,⟨some 57,.fla 8 (.t 3),(some (54,false))⟩,⟨some 58,.ld 1 false (.t 57),(some (54,false))⟩,⟨some 59,.pcall 1 68 [.t 58],(some (54,false))⟩,⟨some 60,.pcall 2 67 [.t 56,.t 59],(some (54,false))⟩,⟨some 61,.len (.t 60),(some (54,false))⟩,⟨some 62,.bin .gtr (.t 61) (cI 0),(some (54,false))⟩,qO 63 (.pick (.t 54) (.c (.bool true)) (.t 62)),qM 12 63]) (.seq (.block 2 (sR [qM 65 6,qM 64 65] (.cond (.t 64) (sR [wF 66 0 3,qL 67 66,qO 68 (.bld [.str [],.int .i64 0,.int .i64 0] [(0,1,.t 67),(1,1,.c (.int .i64 1)),(2,1,.c (.int .i64 1))]),qS 3 4 68] .ret) (sR [qM 70 7,qM 69 70] (.cond (.t 69) (sR [wF 71 0 3,qL 72 71,qO 73 (.bld [.str [],.int .i64 0,.int .i64 0] [(0,1,.t 72),(1,1,.c (.int .i64 1)),(2,1,.c (.int .i64 2))]),qS 3 4 73] .ret) (sR [qM 75 8,qO 76 (.not (.t 75)),qM 74 76] (.cond (.t 74) (sR [wF 77 0 3,qL 78 77,qO 79 (.bld [.str [],.int .i64 0,.int .i64 0] [(0,1,.t 78),(1,1,.c (.int .i64 1)),(2,1,.c (.int .i64 3))]),qS 3 4 79] .ret) (sR [qO 81 (.ld 4 true (.t 2)),wF 82 2 3,wF 83 1 82,qL 84 83,jC 85 63 [.t 81,.t 84],qM 86 85,⟨some 87,.mov (.t 12),(some (86,false))⟩,qO 88 (.pick (.t 86) (.c (.bool true)) (.t 87)),qM 80 88] (.cond (.t 80) (sR [wF 89 0 3,qL 90 89,qO 91 (.bld [.str [],.int .i64 0,.int .i64 0] [(0,1,.t 90),(1,1,.c (.int .i64 3)),(2,1,.c (.int .i64 4))]),qS 3 4 91] .ret) (sR [qM 93 11,qM 92 93] (jW 92 (sR [wF 94 0 3,qL 95 94,qO 96 (.bld [.str [],.int .i64 0,.int .i64 0] [(0,1,.t 95),(1,1,.c (.int .i64 2)),(2,1,.c (.int .i64 5))]),qS 3 4 96] .ret)))))))))))) (sR [wF 97 0 3,qL 98 97,qO 99 (.bld [.str [],.int .i64 0,.int .i64 0] [(0,1,.t 98),(1,1,.c (.int .i64 1)),(2,1,.c (.int .i64 6))]),qS 3 4 99] .ret))))))))
theorem qi2:chkF Tryz.prog Tryz.f14 qiK [.c 4 3 true] 100=true:=by kernel_rfl
abbrev qhl:IC:=(sR [qO 3 (.mov (.c (.bool false)))] (sR [wF 4 2 1,qL 5 4,qM 6 0,jC 7 67 [.t 5,.t 6],qN 8 7,qB 9 .gtr 8 (cI 0),qM 3 9] .ret))
theorem qhs:chkF Tryz.prog Tryz.f66 qhl [.t 3] 10=true:=by kernel_rfl
theorem qsE (P D:List Par) (Ts X:List (List UInt8)) (s:List UInt8) (hB:CB P D Ts X) (hs:s.length≤25000):PCall Tryz.prog E6 66 [.str s,.ptr [.sl 3 (parE P),.sl 3 (parE D),.sl 1 (strE Ts),.sl 1 (strE X)]] (·=.bool (mkB Ts s)):=by
 refine qag mixed Tryz.func66 qhs ?_
 refine zV ?_
 refine use1 (up6 (qgr Ts s hB.h5 hB.h6 hs)) rfl (.inl rfl) ?_
 simp only [ZZ,WW,Ze,reduceCtorEq,zd,ze,za,zf,zb,qac]
 rfl
theorem qvE {P D:List Par} {X:List (List UInt8)} {x:List UInt8}:decide (outF P D X x=2)=(!decide (x∈X) && strg P D x):=by
 unfold outF
 by_cases h:x∈X
 ·simp [h]
 ·cases h2:strg P D x<;>simp [h]
theorem qwK (A:List (List UInt8)) (f g:List UInt8→Bool) (h:A.any f=false):A.any (fun x=>!f x && g x)=A.any g:=by
 induction A with
 |nil=>rfl
 |cons x r ih=>
  rw [List.any_cons,Bool.or_eq_false_iff] at h
  rw [List.any_cons,List.any_cons,ih h.2,h.1]
  rfl
set_option maxHeartbeats 8000000 in
set_option maxRecDepth 100000 in
theorem qu1 (P D:List Par) (Ts X:List (List UInt8)) (m:Ltr) (hB:CB P D Ts X) (hm:LtB m) (h0:letF m=0):PCall Tryz.prog E6 14 [.agg (cirV P D Ts X),.agg (ltV m)] (·=.agg (cldV P D Ts X m)):=by
 have hpa:PCall Tryz.prog E6 61 [.agg (ltV m)] (·=.sl 1 (strE (ptsS m))):=qkH m hm
 have hbd:=(qep (qfu h0).2).1
 have hown:PCall Tryz.prog E0 68 [.str m.body] (·=.str (ownT m)):=qwO m.body (by omega)
 have hpar:PCall Tryz.prog E0 65 [.str m.body] (·=.sl 1 (strE (parT m))):=qmi m.body hbd
 have hsub:=(qfu h0).1
 have hXl:=hB.h7
 have hAl:=qjh hm
 have hAm:=qk9 hm
 have hol:=qrz m
 have hpm:=qrw m
 have hpl:=qrx m
 have hfr:m.fr.2.length≤1000000:=hm.2.2.1
 have hcl:∀ q,qkW P D Ts X m=q→cldV P D Ts X m=[.str m.id,int q.1,int q.2]:=fun q h=>by rw [cldV,h]
 unfold qkW at hcl
 unfold qx5 at hcl
 have hcal:=fun s hs=>qsE P D Ts X s hB hs
 have hout:=fun x hx=>qm7 P D Ts X x hB hx
 have hcou:=fun x hx=>qsB P D Ts X x hB hx
 generalize cldV P D Ts X m=res at *
 generalize ptsS m=A at *
 generalize ownT m=ow at *
 generalize parT m=pa at *
 simp only [ltV] at hpa
 simp only [cirV] at hout hcou
 refine qag mixed Tryz.func14 qi2 ?_
 refine zV ?_
 simp only [cirV,ltV,ZZ,WW,Ze,reduceCtorEq,zd,ze,za,zf,zb]
 rw [qm9]
 refine ⟨_,_,ReOk.trans (qrt (k:=.l 2) (cs:=[.sl 3 (parE P),.sl 3 (parE D),.sl 1 (strE Ts),.sl 1 (strE X)]) rfl) (qrt (k:=.l 3) (cs:=[.str m.id,int m.at_,.str m.fr.1,.str m.fr.2,.sl 2 (adrE m.tos),.sl 2 (adrE m.ccs),.sl 1 (strE m.refs),.str m.sub,.str m.body]) rfl),?_⟩
 refine zS ?_
 refine use1 hpa rfl (.inl rfl) ?_
 simp only [ZZ,WW,Ze,reduceCtorEq,zd,ze,za,zf,zb,qac]
 refine qae (fun n fr L=>∃ (k:Nat) (p:Bool) (a:Bool) (b:Bool),k≤A.length∧n=A.length - k∧(p=(A.take k).any (fun x=>decide (x∈X)))∧(a=(A.take k).any (fun x=>!decide (x∈X) && strg P D x))∧(b=(A.take k).any (lawy P D))∧fr=(oo::oo::.p (.ptr [.sl 3 (parE P),.sl 3 (parE D),.sl 1 (strE Ts),.sl 1 (strE X)])::.p (.ptr [.str m.id,int m.at_,.str m.fr.1,.str m.fr.2,.sl 2 (adrE m.tos),.sl 2 (adrE m.ccs),.sl 1 (strE m.refs),.str m.sub,.str m.body])::.adr (.l 4) 0::oo::.p (.bool p)::.p (.bool a)::.p (.bool b)::oC (oB (.p (.sl 1 (strE A))::.p (int (A.length:Nat))::.p (int (k:Nat))::oG (oE (oB [])))))∧L=[(.l 4,.box [.p (.str []),.p (int 0),.p (int 0)] qny)]) (A.length) _ _ (by simp only [ZZ,WW,Ze,reduceCtorEq,zd,ze,za,zf,zb,qac];try trivial) zF_ ⟨0,false,false,false,by omega,by omega,by simp,by simp,by simp,rfl,rfl⟩ ?_
 rintro n fr L ⟨k,p,a,b,hk,rfl,hp,ha,hb,rfl,rfl⟩
 simp only [qdL,ZZ,WW,Ze,reduceCtorEq,zd,ze,za,zf,zb]
 refine br ?_ ?_
 ·intro h
  have hlt:k < A.length:=by have:=of_decide_eq_true h;omega
  obtain ⟨x,hx⟩:∃ x,A[k]?=some x:=⟨_,zh hlt⟩
  have hg:=qaD hx
  have hxl:=hAm x (zl hx)
  have t1:=qhQ (fun x=>decide (x∈X)) hx
  have t2:=qhQ (fun x=>!decide (x∈X) && strg P D x) hx
  have t3:=qhQ (lawy P D) hx
  simp only [ZZ,WW,Ze,reduceCtorEq,zd,ze,za,zf,zb,hg,qac]
  ((with_reducible and_intros)<;>try exact sc_)
  refine useG (fun _=>up6 (qbk X x (by omega))) rfl (.inl rfl) ?_
  refine zS ?_
  ((with_reducible and_intros)<;>try exact sc_)
  refine useG (fun _=>up6 (hout x hxl)) rfl (.inl rfl) ?_
  refine zS ?_
  ((with_reducible and_intros)<;>try exact sc_)
  refine useG (fun _=>up6 (hcou x hxl)) rfl (.inl rfl) ?_
  refine zS ?_
  ((with_reducible and_intros)<;>try exact sc_)
  refine qab (A.length - (k+1)) _ _ (by omega) zF_ zF_ ⟨k+1,(p || decide (x∈X)),(a || decide (outF P D X x=2)),(b || lawy P D x),by omega,rfl,by rw [t1,← hp],by rw [t2,← ha,qvE],by rw [t3,← hb],rfl,rfl⟩
 intro h
 have hge:A.length≤k:=by have:=of_decide_eq_false h;omega
 rw [zN hge] at hp ha hb
 subst hp ha hb
 refine zS ?_
 refine use1 (up6 hpar) rfl (.inl rfl) ?_
 refine zS ?_
 refine use1 (qgE pa 66 [.ptr [.sl 3 (parE P),.sl 3 (parE D),.sl 1 (strE Ts),.sl 1 (strE X)]] (mkB Ts) (by omega) (fun _=>by kernel_rfl) rfl (fun z hz=>hcal z (by have:=hpm z hz;omega)) (fun _=>rfl) (fun _=>rfl)) rfl (.inr rfl) ?_
 refine zS ?_
 refine drg3 (x1:=.sl 1 (strE (qew Ts m.sub))) (x2:=.str ow) (x3:=.sl 1 (strE (qew Ts ow))) ?_
 simp only [ZZ,WW,Ze,reduceCtorEq,zd,ze,za,zf,zb,qac]
 ((repeat' (with_reducible apply And.intro))<;>try (first|exact usep (up6 (qgr Ts m.sub hB.h5 hB.h6 (by omega))) rfl (.inl rfl)|exact usep (up6 hown) rfl (.inl rfl)|exact usep (up6 (qgr Ts ow hB.h5 hB.h6 (by omega))) rfl (.inl rfl)|exact fun h=>⟨h,usep (up6 hown) rfl (.inl rfl)⟩|exact fun h=>⟨h,usep (up6 (qgr Ts ow hB.h5 hB.h6 (by omega))) rfl (.inl rfl)⟩|(exact sc_)))
 refine br ?_ ?_
 ·intro h1
  have hcl:=hcl (1,1) (by rw [if_pos h1])
  refine zS ?_
  rw [hcl]
 intro h1
 rw [if_neg (by rw [h1];decide)] at hcl
 rw [qwK A (fun x=>decide (x∈X)) (strg P D) h1]
 refine zS ?_
 refine br ?_ ?_
 ·intro h
  have hcl:=hcl (1,2) (by rw [if_pos h])
  refine zS ?_
  rw [hcl]
 intro h
 rw [if_neg (by rw [h];decide)] at hcl
 refine zS ?_
 refine br ?_ ?_
 ·intro h2
  have hcl:=hcl (1,3) (by rw [if_pos (by simpa using h2)])
  refine zS ?_
  rw [hcl]
 intro h2
 rw [if_neg (by simpa using h2)] at hcl
 refine zS ?_
 refine use1 (up6 (hcou m.fr.2 hfr)) rfl (.inl rfl) ?_
 refine zS ?_
 have hcnd:(lawy P D m.fr.2 || (mkB Ts m.sub || mkB Ts ow))=(lawy P D m.fr.2 || (decide (0 < ((qew Ts m.sub).length:Int)) || decide (0 < ((qew Ts ow).length:Int)))):=rfl
 rw [hcnd] at hcl
 refine ⟨fun h=>by rw [h];rfl,?_⟩
 refine br ?_ ?_
 ·intro h3
  have hcl:=hcl (3,4) (by rw [if_pos h3])
  refine zS ?_
  rw [hcl]
 intro h3
 rw [if_neg (by rw [h3];decide)] at hcl
 refine zS ?_
 refine br ?_ ?_
 ·intro h4
  have hcl:=hcl (2,5) (by rw [if_pos h4])
  refine zS ?_
  rw [hcl]
 intro h4
 have hcl:=hcl (1,6) (by rw [if_neg (by rw [h4];decide)])
 refine zS ?_
 rw [hcl]
abbrev qkc:IC:=(sR [qO 2 (.box 30 (.t 0)),qO 3 (.box 45 (.t 1)),qO 4 (.alc 47 [.str [],.int .i64 0,.int .i64 0]),jI 5 0] (.seq (.seq (.drg [qO 7 (.ld 4 true (.t 2)),qO 8 (.pcall 0 39 [.t 7]),qO 9 (.ld 9 true (.t 3)),qO 10 (.pcall 1 48 [.t 9]),qO 11 (.bsl 1 [.t 8,.t 10]),qO 12 (.pcall 2 38 [.t 11]),qM 6 12]) (sR [qM 13 6,qB 14 .neq 13 (cI 0)] (jW 14 (sR [qO 15 (.bld [.str [],.int .i64 0,.int .i64 0] []),qM 16 6,qS 3 4 15,qM 5 16] .ret)))) (sR [qO 17 (.ld 4 true (.t 2)),qO 18 (.ld 9 true (.t 3)),jC 19 41 [.t 17,.t 18],qS 3 4 19,jI 5 0] .ret)))
theorem qkm:chkF Tryz.prog Tryz.f11 qkc [.c 4 3 true,.t 5] 20=true:=by kernel_rfl
def qdV:IC:=(sR [qT 22 .lss 21 20] (.seq (jE 22) (.seq (.block 1 (sR [qX 23 9 19 21,qO 24 (.ld 9 true (.t 23)),qO 9 (.alc 45 [.str [],.int .i64 0,.str [],.str [],.nl 2,.nl 2,.nl 1,.str [],.str []]),qS 9 9 24] (.reg [qM 25 7,qO 26 (.ld 4 true (.t 2)),qO 27 (.ld 9 true (.t 9)),jC 28 41 [.t 26,.t 27],qO 29 (.bsl 3 [.t 28]),qO 30 (.app 47 3 32 (.t 25) (.t 29)),qM 7 30]))) (.reg [qB 31 .add 21 (cI 1),qM 21 31]))))
abbrev qjr:IC:=(sR [qO 2 (.box 30 (.t 0)),qO 4 (.mov (.c (.nl 3))),jI 5 0] (.seq (sR [qO 10 (.ld 4 true (.t 2)),jC 11 39 [.t 10],qM 12 1,jC 13 40 [.t 12],qO 14 (.bsl 1 [.t 11,.t 13]),jC 15 38 [.t 14],qM 6 15] (sR [qM 16 6,qB 17 .neq 16 (cI 0)] (jW 17 (sR [qM 18 6,qO 4 (.mov (.c (.nl 3))),qM 5 18] .ret)))) (sR [qO 7 (.nilr 47 3)] (.seq (sR [qM 19 1,qN 20 19,jI 21 0] (.block 0 (.loop qdV))) (sR [qM 32 7,qM 4 32,jI 5 0] .ret)))))
theorem qjG:chkF Tryz.prog Tryz.f7 qjr [.t 4,.t 5] 33=true:=by kernel_rfl
def qcR:IC:=(sR [qT 33 .lss 32 31] (.seq (jE 33) (.seq (.block 1 (sR [qX 34 1 30 32,qL 35 34,qM 11 35] (sR [wF 37 0 2,qL 38 37,wF 39 1 2,qL 40 39,qM 41 11,jC 42 50 [.t 38,.t 40,.t 41],qM 36 42,qO 43 (.ext 0 (.t 36)),qO 44 (.ext 1 (.t 36)),qO 12 (.alc 70 [.str [],.int .i64 0,.int .i64 0]),qS 3 12 43,qM 13 44] (sR [wF 46 3 2,qL 47 46,qM 48 11,jC 49 51 [.t 47,.t 48],qM 45 49,qO 50 (.ext 0 (.t 45)),qO 51 (.ext 1 (.t 45)),qM 14 50,qM 15 51] (sR [qM 52 15,qM 53 52,⟨some 54,.mov (.t 13),(some (53,false))⟩,⟨some 55,.not (.t 54),(some (53,false))⟩,qO 56 (.pick (.t 53) (.c (.bool true)) (.t 55)),qM 57 56,⟨some 58,.fla 1 (.t 12),(some (57,false))⟩,⟨some 59,.ld 1 false (.t 58),(some (57,false))⟩,⟨some 60,.bin .neq (.t 59) (cI 1),(some (57,false))⟩,qO 61 (.pick (.t 57) (.c (.bool true)) (.t 60))] (jW 61 (.reg [qM 62 9,qM 63 11,qO 64 (.bsl 1 [.t 63]),qO 65 (.app 9 1 16 (.t 62) (.t 64)),qM 9 65]))))))) (.cut (.reg [qB 66 .add 32 (cI 1),qM 32 66])))))
abbrev qgK:IC:=(sR [qO 2 (.box 30 (.t 0)),qO 3 (.box 45 (.t 1)),qO 4 (.mov (.c (.nl 1))),jI 5 0] (.seq (.seq (.drg [qO 16 (.ld 4 true (.t 2)),qO 17 (.pcall 0 39 [.t 16]),qO 18 (.ld 9 true (.t 3)),qO 19 (.pcall 1 48 [.t 18]),qO 20 (.bsl 1 [.t 17,.t 19]),qO 21 (.pcall 2 38 [.t 20]),qM 6 21]) (sR [qM 22 6,qB 23 .neq 22 (cI 0)] (jW 23 (sR [qM 24 6,qO 4 (.mov (.c (.nl 1))),qM 5 24] .ret)))) (sR [qO 26 (.ld 9 true (.t 3)),jC 27 49 [.t 26],qM 25 27,qO 28 (.ext 0 (.t 25)),qO 29 (.ext 1 (.t 25)),qM 7 28,qM 8 29] (sR [qO 9 (.nilr 9 1)] (.seq (sR [qM 30 7,qN 31 30,jI 32 0] (.block 0 (.loop qcR))) (sR [qM 67 9,qM 4 67,jI 5 0] .ret))))))
theorem qgU:chkF Tryz.prog Tryz.f12 qgK [.t 4,.t 5] 68=true:=by kernel_rfl
def qcg:IC:=(sR [qT 12 .lss 11 10] (.seq (jE 12) (.seq (.block 1 (sR [qX 13 1 9 11,qL 14 13,qM 7 14] (sR [qO 15 (.ld 4 true (.t 2)),qM 16 7,jC 17 62 [.t 15,.t 16],qB 18 .neq 17 (cI 0)] (jW 18 (.reg [qM 19 5,qM 20 7,qO 21 (.bsl 1 [.t 20]),qO 22 (.app 9 1 16 (.t 19) (.t 21)),qM 5 22]))))) (.cut (.reg [qB 23 .add 11 (cI 1),qM 11 23])))))
abbrev qfB:IC:=(sR [qO 2 (.box 30 (.t 0)),qO 3 (.box 45 (.t 1)),qO 4 (.mov (.c (.nl 1)))] (sR [qO 5 (.nilr 9 1)] (.seq (sR [qO 8 (.ld 9 true (.t 3)),jC 9 61 [.t 8],qN 10 9,jI 11 0] (.block 0 (.loop qcg))) (sR [qM 24 5,qM 4 24] .ret))))
theorem qfQ:chkF Tryz.prog Tryz.f16 qfB [.t 4] 25=true:=by kernel_rfl
def oneF (P D:List Par) (Ts X:List (List UInt8)) (m:Ltr):Int:=qaf [cirF P D Ts X,letF m]
def qmL (P D:List Par) (Ts X:List (List UInt8)) (l:List Ltr):Int:=qaf [cirF P D Ts X,ltsF l]
theorem qk4 {a b:Int} (h:qaf [a,b]=0):a=0∧b=0:=⟨qaI h a (by simp),qaI h b (by simp)⟩
theorem qvR {l:List Ltr} (h:ltsF l=0):l.length≤2000∧∀ m∈l,letF m=0:=by
 unfold ltsF at h
 split at h
 ·cases h
 ·rename_i h1
  refine ⟨by omega,fun m hm=>?_⟩
  obtain ⟨k,hk⟩:=List.getElem?_of_mem hm
  have hl:=(List.getElem?_eq_some_iff.1 hk).1
  have h2:=qaI h _ (List.mem_cons_self ..)
  have h3:=qaI h2 (qhd l ⟨[],0,([],[]),[],[],[],[],[]⟩ k) (List.mem_map.2 ⟨k,by simpa using hl,rfl⟩)
  have h4:=qaI h3 _ (List.mem_cons_self ..)
  have:l.getD k ⟨[],0,([],[]),[],[],[],[],[]⟩=m:=by simp [List.getD,hk]
  rwa [this] at h4
theorem qzq (P D:List Par) (Ts X:List (List UInt8)) (m:Ltr) (hB:CB P D Ts X) (hm:LtB m):PCall Tryz.prog E6 11 [.agg (cirV P D Ts X),.agg (ltV m)] (·=.tup [.agg (if oneF P D Ts X m=0 then cldV P D Ts X m else [.str [],int 0,int 0]),int (oneF P D Ts X m)]):=by
 have hci:=qfj P D Ts X hB
 have hch:=qjS m hm
 have hca:=fun hc h0=>qxa P D Ts X m hB hc hm h0
 simp only [cirV,ltV,cldV] at hci hch hca
 have hz:=qk4 (a:=cirF P D Ts X) (b:=letF m)
 unfold oneF
 refine qag mixed Tryz.func11 qkm ?_
 refine zV ?_
 simp only [cirV,ltV,ZZ,WW,Ze,reduceCtorEq,zd,ze,za,zf,zb]
 refine drg3 (x1:=int (cirF P D Ts X)) (x2:=int (letF m)) (x3:=int (qaf [cirF P D Ts X,letF m])) ?_
 refine zS ?_
 ((repeat' (with_reducible apply And.intro))<;>try (first|exact usep (up6 hci) rfl (.inl rfl)|exact usep (up6 hch) rfl (.inl rfl)|exact usep (qbv [_,_] (by simp)) rfl (.inl rfl)|(exact sc_)))
 generalize qaf [cirF P D Ts X,letF m]=e at *
 refine br ?_ ?_
 ·intro h
  have h:¬ e=0:=by simpa using h
  refine zS ?_
  rw [if_neg h]
 intro h
 have h0:e=0:=by simpa using h
 refine zS ?_
 refine use1 (hca (hz h0).1 (hz h0).2) rfl (.inl rfl) ?_
 refine zS ?_
 rw [if_pos h0,h0]
 rfl
def cldE (P D:List Par) (Ts X:List (List UInt8)) (l:List Ltr):List (List PV):=l.map (cldV P D Ts X)
theorem qok (P D:List Par) (Ts X:List (List UInt8)) (l:List Ltr):(cldE P D Ts X l).length=l.length:=by simp [cldE]
theorem qwo {P D:List Par} {Ts X:List (List UInt8)} {l:List Ltr} {k:Nat} {x:Ltr} (h:l[k]?=some x):(cldE P D Ts X l).getD k []=[.str x.id,int (qkW P D Ts X x).1,int (qkW P D Ts X x).2]:=qa5 h
theorem qwp (P D:List Par) (Ts X:List (List UInt8)) {l:List Ltr} {k:Nat} {x:Ltr} (h:l[k]?=some x):cldE P D Ts X (l.take k)++[[.str x.id,int (qkW P D Ts X x).1,int (qkW P D Ts X x).2]]=cldE P D Ts X (l.take (k+1)):=by
 unfold cldE
 rw [qdk _ h]
 rfl
set_option maxHeartbeats 4000000 in
set_option maxRecDepth 100000 in
theorem qw2 (P D:List Par) (Ts X:List (List UInt8)) (l:List Ltr) (hB:CB P D Ts X) (hl:l.length≤1000000) (hm:∀ m∈l,LtB m):PCall Tryz.prog E6 7 [.agg (cirV P D Ts X),.sl 9 (ltE l)] (·=.tup [.sl 3 (if qmL P D Ts X l=0 then cldE P D Ts X l else []),int (qmL P D Ts X l)]):=by
 have hci:=qfj P D Ts X hB
 have hch:=qoX l hm
 have hca:=fun m hm' hc h0=>qxa P D Ts X m hB hc (hm m hm') h0
 simp only [cirV,ltV,cldV] at hci hca
 have hz:=qk4 (a:=cirF P D Ts X) (b:=ltsF l)
 unfold qmL
 refine qag mixed Tryz.func7 qjG ?_
 refine zV ?_
 simp only [cirV,ZZ,WW,Ze,reduceCtorEq,zd,ze,za,zf,zb]
 refine use1 (up6 hci) rfl (.inl rfl) ?_
 refine zS ?_
 refine use1 (up6 hch) rfl (.inl rfl) ?_
 refine zS ?_
 refine use1 (qbv [_,_] (by simp)) rfl (.inl rfl) ?_
 generalize qaf [cirF P D Ts X,ltsF l]=e at *
 refine zS ?_
 refine br ?_ ?_
 ·intro h
  have h:¬ e=0:=by simpa using h
  refine zS ?_
  rw [if_neg h]
 intro h
 have h0:e=0:=by simpa using h
 obtain ⟨hz1,hz2⟩:=hz h0
 obtain ⟨hll,hlz⟩:=qvR hz2
 rw [if_pos h0,h0]
 simp only [ZZ,WW,Ze,reduceCtorEq,zd,ze,za,zf,zb,qaS]
 rw [show ([]:List (List PV))=cldE P D Ts X (l.take 0) from rfl]
 refine qae (fun n fr L=>∃ (k:Nat),k≤l.length∧n=l.length - k∧fr=(oo::oo::.adr (.l 2) 0::oo::oo::oo::oo::.row (.l 7)::oD (oB (oo::(.p (.sl 9 (ltE l))::.p (int (l.length:Nat))::.p (int (k:Nat))::oD (oB (oo::[]))))))∧L=[(.l 2,.box [.p (.sl 3 (parE P)),.p (.sl 3 (parE D)),.p (.sl 1 (strE Ts)),.p (.sl 1 (strE X))] qa0),(.l 7,.row (cldE P D Ts X (l.take k)) qny 3 true)]) (l.length) _ _ (by simp only [ZZ,WW,Ze,reduceCtorEq,zd,ze,za,zf,zb,qaS];try trivial) zF_ ⟨0,by omega,by omega,rfl,rfl⟩ ?_
 rintro n fr L ⟨k,hk,rfl,rfl,rfl⟩
 simp only [qdV,ZZ,WW,Ze,reduceCtorEq,zd,ze,za,zf,zb]
 refine br ?_ ?_
 ·intro h
  have hlt:k < l.length:=by have:=of_decide_eq_true h;omega
  obtain ⟨x,hx⟩:∃ x,l[k]?=some x:=⟨_,zh hlt⟩
  have hxm:=zl hx
  have hg:=qf4 hx
  simp only [ltV] at hg
  have hlen:=qok P D Ts X (l.take k)
  rw [List.length_take] at hlen
  simp only [ZZ,WW,Ze,reduceCtorEq,zd,ze,za,zf,zb,hg,qaS]
  ((with_reducible and_intros)<;>try exact sc_)
  refine use1 (hca x hxm hz1 (hlz x hxm)) rfl (.inl rfl) ?_
  simp only [ZZ,WW,Ze,reduceCtorEq,zd,ze,za,zf,zb,hlen]
  ((with_reducible and_intros)<;>try exact sc_)
  rw [qwp P D Ts X hx]
  refine qab (l.length - (k+1)) _ _ (by omega) zF_ zF_ ⟨k+1,by omega,rfl,rfl,rfl⟩
 intro h
 have hge:l.length≤k:=by have:=of_decide_eq_false h;omega
 rw [zN hge]
 simp only [ZZ,WW,Ze,reduceCtorEq,zd,ze,za,zf,zb]
theorem qm8 (P D:List Par) (X:List (List UInt8)) (m:Ltr) {k:Nat} {x:List UInt8} (h:(ptsS m)[k]?=some x):qhb P D X m (k+1)=if (decide (x∈X) || strg P D x)=true then qhb P D X m k++[x] else qhb P D X m k:=by
 unfold qhb
 rw [List.take_add_one,h,List.filter_append]
 by_cases hq:(decide (x∈X) || strg P D x)=true
 ·rw [if_pos hq];simp only [Option.toList_some,List.filter_cons,hq,if_true,List.filter_nil]
 ·rw [if_neg hq];simp only [Option.toList_some,List.filter_cons,if_neg hq,List.filter_nil,List.append_nil]
theorem qlF (P D:List Par) (X:List (List UInt8)) (m:Ltr) (k:Nat):(qhb P D X m k).length≤k:=by
 unfold qhb
 exact Nat.le_trans (List.length_filter_le _ _) (by simp;omega)
set_option maxHeartbeats 4000000 in
set_option maxRecDepth 100000 in
theorem qqe (P D:List Par) (Ts X:List (List UInt8)) (m:Ltr) (hB:CB P D Ts X) (hm:LtB m):PCall Tryz.prog E6 12 [.agg (cirV P D Ts X),.agg (ltV m)] (·=.tup [.sl 1 (strE (if oneF P D Ts X m=0 then qhb P D X m (ptsS m).length else [])),int (oneF P D Ts X m)]):=by
 have hci:=qfj P D Ts X hB
 have hch:=qjS m hm
 have hpa:=fun h0=>qmh hm h0
 have hparty:=fun hc x hx=>qpu hB hc x hx
 have hsr:=fun hc=>(ql5 (P:=P) (D:=D) (Ts:=Ts) (X:=X) hc).2.2
 have hXl:=hB.h7
 have hAl:=qjh hm
 have hAm:=qk9 hm
 have hos:=fun {k x} h=>qm8 P D X m (k:=k) (x:=x) h
 have hol:=qlF P D X m
 have ho0:qhb P D X m 0=[]:=by simp [qhb]
 generalize qhb P D X m=O at *
 generalize ptsS m=A at *
 simp only [cirV,ltV] at hci hch hpa
 have hz:=qk4 (a:=cirF P D Ts X) (b:=letF m)
 unfold oneF
 refine qag mixed Tryz.func12 qgU ?_
 refine zV ?_
 simp only [cirV,ltV,ZZ,WW,Ze,reduceCtorEq,zd,ze,za,zf,zb]
 refine drg3 (x1:=int (cirF P D Ts X)) (x2:=int (letF m)) (x3:=int (qaf [cirF P D Ts X,letF m])) ?_
 refine zS ?_
 ((repeat' (with_reducible apply And.intro))<;>try (first|exact usep (up6 hci) rfl (.inl rfl)|exact usep (up6 hch) rfl (.inl rfl)|exact usep (qbv [_,_] (by simp)) rfl (.inl rfl)|(exact sc_)))
 generalize qaf [cirF P D Ts X,letF m]=e at *
 refine br ?_ ?_
 ·intro h
  have h:¬ e=0:=by simpa using h
  refine zS ?_
  rw [if_neg h]
  rfl
 intro h
 have h0:e=0:=by simpa using h
 obtain ⟨hz1,hz2⟩:=hz h0
 rw [if_pos h0,h0]
 refine zS ?_
 refine use1 (hpa hz2) rfl (.inl rfl) ?_
 simp only [ZZ,WW,Ze,reduceCtorEq,zd,ze,za,zf,zb,qac]
 rw [show ([]:List (List PV))=strE (O 0) from by rw [ho0];rfl]
 refine qae (fun n fr L=>∃ (k:Nat),k≤A.length∧n=A.length - k∧fr=(oo::oo::.adr (.l 2) 0::oC (oB (.row (.l 9)::oE (oC (.p (.sl 1 (strE A))::.p (int (A.length:Nat))::.p (int (k:Nat))::oF (oB (oo::[])))))))∧L=[(.l 2,.box [.p (.sl 3 (parE P)),.p (.sl 3 (parE D)),.p (.sl 1 (strE Ts)),.p (.sl 1 (strE X))] qa0),(.l 9,.row (strE (O k)) 9 1 true)]) (A.length) _ _ (by simp only [ZZ,WW,Ze,reduceCtorEq,zd,ze,za,zf,zb,qac];try trivial) zF_ ⟨0,by omega,by omega,rfl,rfl⟩ ?_
 rintro n fr L ⟨k,hk,rfl,rfl,rfl⟩
 simp only [qcR,ZZ,WW,Ze,reduceCtorEq,zd,ze,za,zf,zb]
 refine br ?_ ?_
 ·intro h
  have hlt:k < A.length:=by have:=of_decide_eq_true h;omega
  obtain ⟨x,hx⟩:∃ x,A[k]?=some x:=⟨_,zh hlt⟩
  have hg:=qaD hx
  have hxl:=hAm x (zl hx)
  have hsc:=hos hx
  have hok:=hol k
  simp only [ZZ,WW,Ze,reduceCtorEq,zd,ze,za,zf,zb,hg,qac]
  ((with_reducible and_intros)<;>try exact sc_)
  refine use1 (hparty hz1 x hxl) rfl (.inl rfl) ?_
  refine zS ?_
  refine use (qnu X x hXl (hsr hz1)) rfl (.inl rfl) ?_
  rintro _ ⟨i,rfl⟩
  refine zS ?_
  have hcnd:(decide (x∈X) || strg P D x)=((decide (x∈X) || !(qbo P D x).2) || !decide ((qbo P D x).1.2.1=1)):=by rw [strg,Bool.or_assoc]
  rw [hcnd] at hsc
  refine ⟨fun h=>by rw [h];rfl,fun h=>by rw [h];rfl,?_⟩
  refine br ?_ ?_
  ·intro h2
   rw [if_pos h2] at hsc
   simp only [ZZ,WW,Ze,reduceCtorEq,zd,ze,za,zf,zb,qac]
   ((with_reducible and_intros)<;>try exact sc_)
   refine qad zE_ ?_
   refine zS ?_
   ((with_reducible and_intros)<;>try exact sc_)
   rw [show strE (O k)++[[PV.str x]]=strE (O (k+1)) from by rw [hsc];simp [strE]]
   refine qab (A.length - (k+1)) _ _ (by omega) zF_ zF_ ⟨k+1,by omega,rfl,rfl,rfl⟩
  ·intro h2
   rw [if_neg (by rw [h2];decide)] at hsc
   refine zS ?_
   refine qad zE_ ?_
   refine zS ?_
   ((with_reducible and_intros)<;>try exact sc_)
   rw [← hsc]
   refine qab (A.length - (k+1)) _ _ (by omega) zF_ zF_ ⟨k+1,by omega,rfl,rfl,rfl⟩
 intro h
 have hge:A.length=k:=by have:=of_decide_eq_false h;omega
 subst hge
 simp only [ZZ,WW,Ze,reduceCtorEq,zd,ze,za,zf,zb]
theorem qvF {P D:List Par} {X:List (List UInt8)} {x:List UInt8}:(!decide (outF P D X x=0))=(decide (x∈X) || strg P D x):=by
 unfold outF
 by_cases h:x∈X
 ·simp [h]
 ·cases h2:strg P D x<;>simp [h]
set_option maxHeartbeats 4000000 in
set_option maxRecDepth 100000 in
theorem qmP (P D:List Par) (Ts X:List (List UInt8)) (m:Ltr) (hB:CB P D Ts X) (hm:LtB m):PCall Tryz.prog E6 16 [.agg (cirV P D Ts X),.agg (ltV m)] (·=.sl 1 (strE (qhb P D X m (ptsS m).length))):=by
 have hpa:PCall Tryz.prog E6 61 [.agg (ltV m)] (·=.sl 1 (strE (ptsS m))):=qkH m hm
 have hout:=fun x hx=>qm7 P D Ts X x hB hx
 have hAl:=qjh hm
 have hAm:=qk9 hm
 have hos:=fun {k x} h=>qm8 P D X m (k:=k) (x:=x) h
 have hol:=qlF P D X m
 have ho0:qhb P D X m 0=[]:=by simp [qhb]
 generalize qhb P D X m=O at *
 generalize ptsS m=A at *
 simp only [cirV] at hout
 simp only [ltV] at hpa
 refine qag mixed Tryz.func16 qfQ ?_
 refine zV ?_
 simp only [cirV,ltV,ZZ,WW,Ze,reduceCtorEq,zd,ze,za,zf,zb]
 refine use1 hpa rfl (.inl rfl) ?_
 simp only [ZZ,WW,Ze,reduceCtorEq,zd,ze,za,zf,zb,qac]
 rw [show ([]:List (List PV))=strE (O 0) from by rw [ho0];rfl]
 refine qae (fun n fr L=>∃ (k:Nat),k≤A.length∧n=A.length - k∧fr=(oo::oo::.adr (.l 2) 0::oo::oo::.row (.l 5)::oo::oo::oo::.p (.sl 1 (strE A))::.p (int (A.length:Nat))::.p (int (k:Nat))::oD (oC (oo::[])))∧L=[(.l 2,.box [.p (.sl 3 (parE P)),.p (.sl 3 (parE D)),.p (.sl 1 (strE Ts)),.p (.sl 1 (strE X))] qa0),(.l 5,.row (strE (O k)) 9 1 true)]) (A.length) _ _ (by simp only [ZZ,WW,Ze,reduceCtorEq,zd,ze,za,zf,zb,qac];try trivial) zF_ ⟨0,by omega,by omega,rfl,rfl⟩ ?_
 rintro n fr L ⟨k,hk,rfl,rfl,rfl⟩
 simp only [qcg,ZZ,WW,Ze,reduceCtorEq,zd,ze,za,zf,zb]
 refine br ?_ ?_
 ·intro h
  have hlt:k < A.length:=by have:=of_decide_eq_true h;omega
  obtain ⟨x,hx⟩:∃ x,A[k]?=some x:=⟨_,zh hlt⟩
  have hg:=qaD hx
  have hxl:=hAm x (zl hx)
  have hsc:=hos hx
  have hok:=hol k
  simp only [ZZ,WW,Ze,reduceCtorEq,zd,ze,za,zf,zb,hg,qac]
  ((with_reducible and_intros)<;>try exact sc_)
  refine use1 (up6 (hout x hxl)) rfl (.inl rfl) ?_
  refine zS ?_
  rw [qvF]
  refine br ?_ ?_
  ·intro h2
   rw [if_pos h2] at hsc
   simp only [ZZ,WW,Ze,reduceCtorEq,zd,ze,za,zf,zb,qac]
   ((with_reducible and_intros)<;>try exact sc_)
   refine qad zE_ ?_
   refine zS ?_
   ((with_reducible and_intros)<;>try exact sc_)
   rw [show strE (O k)++[[PV.str x]]=strE (O (k+1)) from by rw [hsc];simp [strE]]
   refine qab (A.length - (k+1)) _ _ (by omega) zF_ zF_ ⟨k+1,by omega,rfl,rfl,rfl⟩
  ·intro h2
   rw [if_neg (by rw [h2];decide)] at hsc
   refine zS ?_
   refine qad zE_ ?_
   refine zS ?_
   ((with_reducible and_intros)<;>try exact sc_)
   rw [← hsc]
   refine qab (A.length - (k+1)) _ _ (by omega) zF_ zF_ ⟨k+1,by omega,rfl,rfl,rfl⟩
 intro h
 have hge:A.length=k:=by have:=of_decide_eq_false h;omega
 subst hge
 simp only [ZZ,WW,Ze,reduceCtorEq,zd,ze,za,zf,zb]
def qb1:IC:=(.seq (sR [qM 20 7,qB 21 .gtr 20 (cI 0)] (.cond (.t 21) .skip (.exit 2))) (.seq (.block 3 (sR [qM 24 0,qM 25 7,qB 26 .add 25 (cI 1),jC 27 27 [.t 24,.t 26],qM 8 27] (.drg [qM 28 5,qM 29 7,qM 30 5,qM 31 8,qM 32 5,qM 33 8,qX 34 1 32 33,qL 35 34,qM 36 5,qM 37 7,qX 38 1 36 37,qL 39 38,qX 40 1 28 29,qS 1 40 35,qX 41 1 30 31,qS 1 41 39]))) (.reg [qM 22 7,qB 23 .sub 22 (cI 1),qM 7 23])))
def qb2:IC:=(sR [qT 11 .lss 10 9] (.seq (jE 11) (.seq (.block 1 (sR [qM 12 10,qM 6 12] (.reg [qM 13 5,qM 14 6,qO 15 (.bsl 1 [.t 14]),qO 16 (.app 3 1 8 (.t 13) (.t 15)),qM 5 16]))) (.reg [qB 17 .add 10 (cI 1),qM 10 17]))))
abbrev qfa:IC:=(sR [qO 4 (.mov (.c (.nl 1)))] (sR [qO 5 (.nilr 3 1)] (.seq (sR [qM 9 1,jI 10 0] (.block 0 (.loop qb2))) (.seq (sR [qM 18 1,qB 19 .sub 18 (cI 1),qM 7 19] (.block 2 (.loop qb1))) (sR [qM 42 5,qM 4 42] .ret)))))
theorem qfi:chkF Tryz.prog Tryz.f93 qfa [.t 4] 43=true:=by kernel_rfl
abbrev qiL:IC:=(sR [qO 0 (.mov (.c (.nl 1)))] (sR [qO 1 (.bsl 1 [.c (.str [97,110,110,64,102,105,114,109,46,100,101]),.c (.str [98,111,64,102,105,114,109,46,100,101]),.c (.str [108,97,119,64,111,117,114,115,46,100,101]),.c (.str [97,105,100,64,111,117,114,115,46,100,101]),.c (.str [99,121,64,101,108,115,101,46,100,101]),.c (.str [97,108,108,64,102,105,114,109,46,100,101]),.c (.str [100,101,101,64,120,46,102,105,114,109,46,100,101])]),qM 0 1] .ret))
theorem qi3:chkF Tryz.prog Tryz.f160 qiL [.t 0] 2=true:=by kernel_rfl
section
variable {E:Envt}
abbrev qsd:Nat:=3
def inR (n:Nat) (o:List Int):Prop:=∀ x∈o,0≤x∧x < n
theorem qjw {o:List Int} {k:Nat} {x:Int} (h:o[k]?=some x):(inE1 o).getD k []=[int x]:=qa5 h
theorem qrK (o:List Int) (k:Nat) (x:Int):(inE1 o).set k [int x]=inE1 (o.set k x):=by simp [inE1]
theorem qr7 (l:List Int) (k:Nat) (z:Nat) (hk:k≤900000) (hl:l.length≤9223372036854775807) (hn:z≤1000) :
  qmf Tryz.prog E 93 T (stm l k) [int (z:Nat)] qsd 1 (fun es cs'=>∃ (o:List Int) (k':Nat),es=inE1 o∧o.length=z∧inR z o∧cs'=stm l k'∧k'≤k+z):=by
 unfold qmf
 refine qe1 mixed Tryz.func93 qfi ?_
 refine zV ?_
 have hR0:([]:List (List PV))=inE1 []:=rfl
 rw [hR0]
 refine qae (fun n fr L=>∃ (i:Nat) (o:List Int),i≤z∧n=z - i∧(o.length=i)∧(inR z o)∧fr=(.adr (.b 0) 0::.p (int (z:Nat))::oo::oo::oo::.row (.l 5)::oo::oo::oo::.p (int (z:Nat))::.p (int (i:Nat))::oF [])∧L=[(.b 0,.box ((stm l k).map .p) T),(.l 5,.row (inE1 o) qsd 1 true)]) (z) _ _ zF_ zF_ ⟨0,[],by omega,by omega,rfl,(fun x hx=>by cases hx),rfl,rfl⟩ ?_
 rintro n fr L ⟨i,o,hi,rfl,ho,hr,rfl,rfl⟩
 simp only [qb2,ZZ,WW,Ze,reduceCtorEq,zd,ze,za,zf,zb]
 refine br ?_ ?_
 ·intro h
  have hlt:i < z:=by have:=of_decide_eq_true h;omega
  simp only [ZZ,WW,Ze,reduceCtorEq,zd,ze,za,zf,zb,qe0,ho]
  ((with_reducible and_intros)<;>try exact sc_)
  rw [qv5]
  refine qab (z - (i+1)) _ _ (by omega) zF_ zF_ ⟨i+1,o++[(i:Int)],by omega,rfl,by simp [ho],by intro x hx;rcases List.mem_append.1 hx with hx|hx;exact hr x hx;rw [List.mem_singleton] at hx;subst hx;omega,rfl,rfl⟩
 intro h
 have hge:z=i:=by have:=of_decide_eq_false h;omega
 subst hge
 refine zS ?_
 ((with_reducible and_intros)<;>try exact sc_)
 refine qae (fun n fr L=>∃ (j:Nat) (k':Nat) (u:List Int),j=n∧(j≤z)∧(k'+j≤k+z)∧(u.length=z)∧(inR z u)∧fr=(.adr (.b 0) 0::oo::oo::oo::oo::.row (.l 5)::oo::.p (int ((j:Nat) - 1))::oF (oB (oo::[])))∧L=[(.b 0,.box ((stm l k').map .p) T),(.l 5,.row (inE1 u) qsd 1 true)]) (z) (.adr (.b 0) 0::oo::oo::oo::oo::.row (.l 5)::oo::.p (int ((z:Nat) - 1))::oF (oB (oo::[]))) [(.b 0,.box ((stm l k).map .p) T),(.l 5,.row (inE1 o) qsd 1 true)] zF_ zF_ ⟨z,k,o,rfl,Nat.le_refl _,Nat.le_refl _,ho,hr,rfl,rfl⟩ ?_
 rintro n fr L ⟨j,k',u,rfl,hj,hk',hu,hur,rfl,rfl⟩
 simp only [qb1,ZZ,WW,Ze,reduceCtorEq,zd,ze,za,zf,zb]
 refine br ?_ ?_
 ·intro h
  have h2:2≤j:=by have:=of_decide_eq_true h;omega
  obtain ⟨i,rfl⟩:∃ i,j=i+1:=⟨j - 1,by omega⟩
  have e1:(((i+1:Nat):Int) - 1)=(i:Int):=by omega
  simp only [ZZ,WW,Ze,reduceCtorEq,zd,ze,za,zf,zb,e1]
  ((with_reducible and_intros)<;>try exact sc_)
  refine useS (qdN l k' _ (by omega) hl (by omega)) rfl rfl rfl zE_ ?_
  rintro x cs' ⟨y,rfl,rfl⟩
  have q1:=qgl y ((i:Int)+1)
  have q2:=qgm y ((i:Int)+1) (by omega)
  obtain ⟨p,hp⟩:∃ p:Nat,qeM y ((i:Int)+1)=(p:Nat):=⟨(qeM y ((i:Int)+1)).toNat,by omega⟩
  rw [hp] at q1 q2 ⊢
  clear hp
  obtain ⟨s,hs⟩:∃ s,u[i]?=some s:=⟨_,zh (by omega)⟩
  obtain ⟨t,ht⟩:∃ t,u[p]?=some t:=⟨_,zh (by omega)⟩
  have g1:=qjw hs
  have g2:=qjw ht
  refine zS ?_
  refine drg0 ?_
  simp only [ZZ,WW,Ze,reduceCtorEq,zd,ze,za,zf,zb,g1,g2,qe0,hu]
  have g3:((inE1 u).set i [int t]).set p ((((inE1 u).set i [int t]).getD p []).set 0 (int s))=inE1 ((u.set i t).set p s):=by
   rw [qrK]
   obtain ⟨v,hv⟩:∃ v,(u.set i t)[p]?=some v:=⟨_,zh (by rw [yn];omega)⟩
   rw [qjw hv]
   exact qrK _ _ _
  have g4:((inE1 u).set i [int t]).length=z:=by rw [yn,qe0,hu]
  have g5:=hur s (zl hs)
  have g6:=hur t (zl ht)
  rw [g3,g4]
  refine ⟨⟨by omega,by omega⟩,by omega,⟨by omega,by omega⟩,by omega,⟨by omega,by omega⟩,by omega,⟨by omega,by omega⟩,by omega,qam (by omega) (by omega),?_⟩
  refine qab ((i)) _ _ (by omega) zF_ zF_ ⟨i,k'+1,(u.set i t).set p s,rfl,by omega,by omega,by simp [hu],by intro x hx;rcases yc hx with hx|rfl;(rcases yc hx with hx|rfl;(exact hur x hx);(exact g6));exact g5,rfl,rfl⟩
 intro h
 refine zS ?_
 exact qpM 5 _ (stm l k') rfl rfl rfl ⟨u,k',rfl,hu,hur,rfl,by omega⟩
def peA:List (List UInt8):=[[97,110,110,64,102,105,114,109,46,100,101],[98,111,64,102,105,114,109,46,100,101],[108,97,119,64,111,117,114,115,46,100,101],[97,105,100,64,111,117,114,115,46,100,101],[99,121,64,101,108,115,101,46,100,101],[97,108,108,64,102,105,114,109,46,100,101],[100,101,101,64,120,46,102,105,114,109,46,100,101]]
theorem qlC:∀ s∈peA,s.length≤60:=by decide
theorem qha:PCall Tryz.prog E 160 [] (·=strs peA):=by
 refine qag mixed Tryz.func160 qi3 ?_
 refine zV ?_
 rfl
end
end Go.Proofs.YtekhobchfhhofaaGreatDoor
