import Derived.Test.YtjgdjinhkgjpeabGreatDoorZ14
set_option linter.unusedVariables false
set_option linter.unusedSimpArgs false
set_option linter.defProp false
namespace Go.Proofs.YtjgdjinhkgjpeabGreatDoor
open Nat renaming le_trans→zt,reduceAdd→zd,reduceEqDiff→zb,reduceLT→zf,reduceLeDiff→za,reduceMul→ze
open List renaming getElem?_eq_getElem→zk,length_append→zm,length_cons→zl,length_nil→zr,map_append→zF,mem_append→zp,mem_cons→zG,mem_singleton→zu,not_mem_nil→zW
open Go.RowKit
def qbm:IC:=(sR [qT 62 .lss 61 60] (.seq (.cond (.t 62) .skip (.exit 2)) (.seq (.block 3 (sR [qM 63 0,qO 64 (.bsr 9 1 [.c (.str [103,111,110,101,49]),.c (.str [103,111,110,101,50])]),qM 65 3,qO 66 (.app 9 1 16 (.t 64) (.t 65)),⟨none,.fz (.t 66),none⟩,jC 67 19 [.t 63,.t 66],qM 12 67] (sR [qM 68 12,qM 69 1,qT 70 .neq 68 69,qM 71 70,⟨some 72,.fla 6 (.t 9),(some (71,true))⟩,⟨some 73,.ld 1 false (.t 72),(some (71,true))⟩,⟨some 74,.mov (.t 12),(some (71,true))⟩,⟨some 75,.call 43 [.t 73,.t 74],(some (71,true))⟩,⟨some 76,.not (.t 75),(some (71,true))⟩,qO 77 (.pick (.t 71) (.t 76) (.c (.bool false)))] (jW 77 (.reg [wF 78 6 9,qL 79 78,qM 80 12,⟨none,.fz (.t 80),none⟩,qO 81 (.bsl 1 [.t 80]),qO 82 (.app 9 1 16 (.t 79) (.t 81)),wF 83 6 9,qS 1 83 82]))))) (.cut (.reg [qB 84 .add 61 (cI 1),qM 61 84])))))
def qbn:IC:=(sR [qT 31 .lss 30 29] (.seq (jE 31) (.seq (.block 1 (sR [qM 32 0,jC 33 102 [],jC 34 19 [.t 32,.t 33],⟨none,.fz (.t 34),none⟩,qO 35 (.bld [.str [],.str []] [(1,1,.t 34)]),qO 11 (.alc 100 [.str [],.str []]),qS 2 11 35] (.seq (sR [qM 36 10,wF 37 1 11,qL 38 37,qO 39 (.mpl false (.bool false) (.t 36) (.t 38))] (jW 39 (.exit 1))) (sR [qM 40 10,wF 41 1 11,qL 42 41,⟨none,.mpu (.t 40) (.t 42) (.c (.bool true)),none⟩] (sR [qM 43 0,jC 44 16 [.t 43,.c (.int .i64 3)]] (.cond (.t 44) (.reg [wF 45 5 9,qL 46 45,qO 47 (.ld 2 true (.t 11)),qO 48 (.bsl 2 [.t 47]),qO 49 (.app 100 2 32 (.t 46) (.t 48)),wF 50 5 9,qS 1 50 49]) (.reg [wF 51 4 9,qL 52 51,qO 53 (.ld 2 true (.t 11)),qO 54 (.bsl 2 [.t 53]),qO 55 (.app 100 2 32 (.t 52) (.t 54)),wF 56 4 9,qS 1 56 55]))))))) (.cut (.reg [qB 57 .add 30 (cI 1),qM 30 57])))))
abbrev qdR:IC:=(sR [qO 8 (.alc 103 [.str [],.int .i64 0,.str [],.str [],.nl 2,.nl 2,.nl 1,.str [],.str []])] (sR [qM 13 1,qM 14 2,qM 15 0,jC 16 102 [],jC 17 19 [.t 15,.t 16],⟨none,.fz (.t 17),none⟩,qO 18 (.bld [.str [],.str []] [(1,1,.t 17)]),qM 19 0,jC 20 103 [.t 19],⟨none,.fz (.t 20),none⟩,qO 21 (.bld [.str [],.int .i64 0,.str [],.str [],.nl 2,.nl 2,.nl 1,.str [],.str []] [(0,1,.t 13),(1,1,.t 14),(2,2,.t 18),(8,1,.t 20)]),qO 9 (.alc 103 [.str [],.int .i64 0,.str [],.str [],.nl 2,.nl 2,.nl 1,.str [],.str []]),qS 9 9 21] (sR [qM 22 0,qO 23 (.bsl 1 [.c (.str []),.c (.str []),.c (.str [65,110,110,32,76,101,101]),.c (.str [195,137,97])]),jC 24 19 [.t 22,.t 23],wF 25 2 9,wF 26 0 25,qS 1 26 24] (sR [qO 27 (.mkm 9 4),qM 10 27] (.seq (sR [qM 28 0,jC 29 18 [.t 28,.c (.int .i64 0),.c (.int .i64 3)],jI 30 0] (.block 0 (.loop qbn))) (.seq (sR [qM 58 0,⟨none,.re,none⟩,qO 59 (.bsl 1 [.c (.int .i64 0),.c (.int .i64 0),.c (.int .i64 1),.c (.int .i64 1),.c (.int .i64 2)]),jC 60 20 [.t 58,.t 59],jI 61 0] (.block 2 (.loop qbm))) (sR [qM 85 0,⟨none,.re,none⟩,qO 86 (.bsl 1 [.c (.str []),.c (.str [76,117,110,99,104]),.c (.str [82,101,58,32,76,117,110,99,104]),.c (.str [82,69,58,32,70,119,100,58,32,108,117,110,99,104]),.c (.str [76,101,103,97,108,32,97,100,118,105,99,101]),.c (.str [82,101,58,32,108,101,103,97,108,32,32,97,100,118,105,99,101]),.c (.str [79,116,104,101,114])]),jC 87 19 [.t 85,.t 86],wF 88 7 9,qS 1 88 87] (sR [wF 89 7 9,qL 90 89,jC 91 104 [.t 90],jC 92 33 [.t 91,.c (.str [32])],wF 93 7 9,qS 1 93 92] (sR [qO 94 (.ld 9 true (.t 9)),qS 9 8 94] .ret)))))))))
theorem qdT:chkF Tryz.prog Tryz.f60 qdR [.c 8 9 true] 95=true:=by kernel_rfl
def cT (q:Nat):List AdT→AV
 |[]=>.p (.nl 2)
 |_ :: _=>.row (.l q)
def oT (q:Nat):List AdT→Objs
 |[]=>[]
 |a :: r=>[(.l q,.row (adrE (a :: r)) tAdr 2 true)]
def pT:List AdT→PV
 |[]=>.nl 2
 |a :: r=>.sl 2 (adrE (a :: r))
abbrev qsF:Nat:=9
def cSt (q:Nat):List (List UInt8)→AV
 |[]=>.p (.nl 1)
 |_ :: _=>.row (.l q)
def oSt (q:Nat):List (List UInt8)→Objs
 |[]=>[]
 |a :: r=>[(.l q,.row (strE (a :: r)) qsF 1 true)]
def pSt:List (List UInt8)→PV
 |[]=>.nl 1
 |a :: r=>.sl 1 (strE (a :: r))
def nmA:List (List UInt8):=[[],[],[65,110,110,32,76,101,101],[195,137,97]]
theorem qv3:∀ s∈nmA,s.length≤30000:=by decide
def sjA:List (List UInt8):=[[],[76,117,110,99,104],[82,101,58,32,76,117,110,99,104],[82,69,58,32,70,119,100,58,32,108,117,110,99,104],[76,101,103,97,108,32,97,100,118,105,99,101],[82,101,58,32,108,101,103,97,108,32,32,97,100,118,105,99,101],[79,116,104,101,114]]
theorem qxj:∀ s∈sjA,s.length≤100∧s.all (fun b=>decide (b.toNat < 128))=true∧(Lib.fields s).length≤1000∧(Lib.join (Lib.fields s) [32]).length≤25000:=by decide +kernel
def gnA:List (List UInt8):=[[103,111,110,101,49],[103,111,110,101,50]]
set_option maxHeartbeats 4000000 in
set_option maxRecDepth 100000 in
theorem qsv (l:List Int) (k:Nat) (id:List UInt8) (at_:Int) (ids:List (List UInt8)) (hid:id.length≤100) (hids:ids.length≤100) (hib:∀ s∈ids,s.length≤100) (hat:-1000000000≤at_∧at_≤1000000000) (hk:k≤800000) (hl:l.length≤9223372036854775807) :
  qeG Tryz.prog E6 60 T (stm l k) [.str id,int at_,.sl 1 (strE ids)] (fun x cs'=>∃ m k',x=.agg (ltV m)∧LtM 10 m∧cs'=stm l k'∧k'≤k+100):=by
 unfold qeG
 refine qff mixed Tryz.func60 qdT ?_
 refine zV ?_
 refine use1 qfG rfl (.inl rfl) ?_
 refine zS ?_
 refine useS (qcx l k peA (by omega) hl (by decide) (by decide)) rfl rfl rfl zE_ ?_
 rintro x cs' ⟨f,rfl,hf,rfl⟩
 have hf:=qjF f hf
 refine zS ?_
 refine useS (qwO l (k+1) (by omega) hl) rfl rfl rfl zE_ ?_
 rintro x cs' ⟨bd,k1,rfl,hbd,rfl,hk1⟩
 refine zS ?_
 refine useS (qcx l k1 nmA (by omega) hl (by decide) (by decide)) rfl rfl rfl zE_ ?_
 rintro x cs' ⟨nm,rfl,hnm,rfl⟩
 have hnm:=qv3 nm hnm
 refine zS ?_
 refine useS (qmk l (k1+1) 0 3 (by omega) hl (by decide) (by decide) (by decide)) rfl rfl rfl zE_ ?_
 rintro x cs' ⟨z,rfl,hz0,hz3,rfl⟩
 refine zS ?_
 refine qad (fun n fr L=>∃ (i k':Nat) (W:List (List UInt8)) (kv:List (List UInt8×PV)) (ts cc:List AdT),i≤3∧n=3 - i∧k'≤k1+2+4 * i∧qq4 kv W∧ts.length≤i∧cc.length≤i∧(∀ a∈ts,a.1.length≤30000∧a.2.length≤30000)∧(∀ a∈cc,a.1.length≤30000∧a.2.length≤30000)∧fr=(.adr (.b 0) 0::.p (.str id)::oo::.p (.sl 1 (strE ids))::oo::oo::oo::oo::.adr (.l 8) 0::.adr (.l 9) 0::.mp (.l 27)::oE (oB (.p (int z)::.p (int (i:Nat))::oG [])))∧L=([(.b 0,.box ((stm l (k')).map .p) T),(.l 8,.box [.p (.str []),.p (int 0),.p (.str []),.p (.str []),.p (.nl 2),.p (.nl 2),.p (.nl 1),.p (.str []),.p (.str [])] qax),(.l 9,.box [.p (.str id),.p (int at_),.p (.str nm),.p (.str f),cT 55 (ts),cT 49 (cc),.p (.nl 1),.p (.str []),.p (.str bd)] qax),(.l 27,.map (kv) 9 4)]++(oT 55 (ts)++oT 49 (cc)))) 3 (.adr (.b 0) 0::.p (.str id)::oo::.p (.sl 1 (strE ids))::oo::oo::oo::oo::.adr (.l 8) 0::.adr (.l 9) 0::.mp (.l 27)::oE (oB (.p (int z)::.p (int (0:Nat))::oG []))) ([(.b 0,.box ((stm l (k1+1+1)).map .p) T),(.l 8,.box [.p (.str []),.p (int 0),.p (.str []),.p (.str []),.p (.nl 2),.p (.nl 2),.p (.nl 1),.p (.str []),.p (.str [])] qax),(.l 9,.box [.p (.str id),.p (int at_),.p (.str nm),.p (.str f),cT 55 ([]),cT 49 ([]),.p (.nl 1),.p (.str []),.p (.str bd)] qax),(.l 27,.map ([]) 9 4)]++(oT 55 ([])++oT 49 ([]))) zF_ (by simp only [ZZ,WW,Ze,reduceCtorEq,zd,ze,za,zf,zb,cT,oT]) ⟨0,k1+1+1,[],[],[],[],by omega,by omega,by omega,qmG,by simp,by simp,by simp,by simp,rfl,rfl⟩ ?_
 rintro n fr L ⟨i,k',W,kv,ts,cc,hi3,rfl,hk',hkv,ht1,hc1,ht2,hc2,rfl,rfl⟩
 simp only [qbn,ZZ,WW,Ze,reduceCtorEq,zd,ze,za,zf,zb]
 refine br ?_ ?_
 ·intro h
  have hlt:(i:Int) < z:=of_decide_eq_true h
  rcases ts with _|⟨t0,tr⟩<;>rcases cc with _|⟨c0,cr⟩
  ·simp only [cT,oT,ZZ,WW,Ze,reduceCtorEq,zd,ze,za,zf,zb]
   refine use1 qfG rfl (.inl rfl) ?_
   refine zS ?_
   refine useS (qcx l k' peA (by omega) hl (by decide) (by decide)) rfl rfl rfl zE_ ?_
   rintro x cs' ⟨g,rfl,hg,rfl⟩
   have hg:=qjF g hg
   simp only [ZZ,WW,Ze,reduceCtorEq,zd,ze,za,zf,zb,hkv g]
   refine br ?_ ?_
   ·intro _
    refine zS ?_
    refine qae zE_ ?_
    refine zS ?_
    refine ⟨qai (by omega) (by omega),qab (3 - (i+1)) (.adr (.b 0) 0::.p (.str id)::oo::.p (.sl 1 (strE ids))::oo::oo::oo::oo::.adr (.l 8) 0::.adr (.l 9) 0::.mp (.l 27)::oE (oB (.p (int z)::.p (int ((i+1:Nat)))::oG []))) ([(.b 0,.box ((stm l (k'+1)).map .p) T),(.l 8,.box [.p (.str []),.p (int 0),.p (.str []),.p (.str []),.p (.nl 2),.p (.nl 2),.p (.nl 1),.p (.str []),.p (.str [])] qax),(.l 9,.box [.p (.str id),.p (int at_),.p (.str nm),.p (.str f),cT 55 ([]),cT 49 ([]),.p (.nl 1),.p (.str []),.p (.str bd)] qax),(.l 27,.map (kv) 9 4)]++(oT 55 ([])++oT 49 ([]))) (by omega) zF_ (by simp only [ZZ,WW,Ze,reduceCtorEq,zd,ze,za,zf,zb,cT,oT,adrE,adC,zF]) ⟨i+1,k'+1,W,kv,[],[],by omega,rfl,by omega,hkv,(by simp only [zm,zl,zr] at *;omega),(by simp only [zm,zl,zr] at *;omega),ht2,hc2,rfl,rfl⟩⟩
   intro _
   refine zS ?_
   refine useS (qgm l (k'+1) 3 (by omega) hl (by decide)) rfl rfl rfl zE_ ?_
   rintro x cs' ⟨b,rfl,rfl⟩
   refine zS ?_
   refine br ?_ ?_
   ·intro _
    simp only [ZZ,WW,Ze,reduceCtorEq,zd,ze,za,zf,zb,qaY,zl]
    refine qae zE_ ?_
    refine zS ?_
    refine ⟨qai (by omega) (by omega),qab (3 - (i+1)) (.adr (.b 0) 0::.p (.str id)::oo::.p (.sl 1 (strE ids))::oo::oo::oo::oo::.adr (.l 8) 0::.adr (.l 9) 0::.mp (.l 27)::oE (oB (.p (int z)::.p (int ((i+1:Nat)))::oG []))) ([(.b 0,.box ((stm l (k'+1+1)).map .p) T),(.l 8,.box [.p (.str []),.p (int 0),.p (.str []),.p (.str []),.p (.nl 2),.p (.nl 2),.p (.nl 1),.p (.str []),.p (.str [])] qax),(.l 9,.box [.p (.str id),.p (int at_),.p (.str nm),.p (.str f),cT 55 ([]),cT 49 (([])++[([],g)]),.p (.nl 1),.p (.str []),.p (.str bd)] qax),(.l 27,.map (mpS kv g (.bool true)) 9 4)]++(oT 55 ([])++oT 49 (([])++[([],g)]))) (by omega) zF_ (by simp only [ZZ,WW,Ze,reduceCtorEq,zd,ze,za,zf,zb,cT,oT,adrE,adC,zF]) ⟨i+1,k'+1+1,W++[g],mpS kv g (.bool true),[],([])++[([],g)],by omega,rfl,by omega,qcv hkv g,(by simp only [zm,zl,zr] at *;omega),(by simp only [zm,zl,zr] at *;omega),ht2,(fun a ha=>by rcases zp.1 ha with ha|ha;exact hc2 a ha;rw [zu] at ha;subst ha;exact ⟨by simp,show g.length≤30000 by omega⟩),rfl,rfl⟩⟩
   ·intro _
    simp only [ZZ,WW,Ze,reduceCtorEq,zd,ze,za,zf,zb,qaY,zl]
    refine qae zE_ ?_
    refine zS ?_
    refine ⟨qai (by omega) (by omega),qab (3 - (i+1)) (.adr (.b 0) 0::.p (.str id)::oo::.p (.sl 1 (strE ids))::oo::oo::oo::oo::.adr (.l 8) 0::.adr (.l 9) 0::.mp (.l 27)::oE (oB (.p (int z)::.p (int ((i+1:Nat)))::oG []))) ([(.b 0,.box ((stm l (k'+1+1)).map .p) T),(.l 8,.box [.p (.str []),.p (int 0),.p (.str []),.p (.str []),.p (.nl 2),.p (.nl 2),.p (.nl 1),.p (.str []),.p (.str [])] qax),(.l 9,.box [.p (.str id),.p (int at_),.p (.str nm),.p (.str f),cT 55 (([])++[([],g)]),cT 49 ([]),.p (.nl 1),.p (.str []),.p (.str bd)] qax),(.l 27,.map (mpS kv g (.bool true)) 9 4)]++(oT 55 (([])++[([],g)])++oT 49 ([]))) (by omega) zF_ (by simp only [ZZ,WW,Ze,reduceCtorEq,zd,ze,za,zf,zb,cT,oT,adrE,adC,zF]) ⟨i+1,k'+1+1,W++[g],mpS kv g (.bool true),([])++[([],g)],[],by omega,rfl,by omega,qcv hkv g,(by simp only [zm,zl,zr] at *;omega),(by simp only [zm,zl,zr] at *;omega),(fun a ha=>by rcases zp.1 ha with ha|ha;exact ht2 a ha;rw [zu] at ha;subst ha;exact ⟨by simp,show g.length≤30000 by omega⟩),hc2,rfl,rfl⟩⟩
  ·simp only [cT,oT,ZZ,WW,Ze,reduceCtorEq,zd,ze,za,zf,zb]
   simp only [zl] at hc1
   refine use1 qfG rfl (.inl rfl) ?_
   refine zS ?_
   refine useS (qcx l k' peA (by omega) hl (by decide) (by decide)) rfl rfl rfl zE_ ?_
   rintro x cs' ⟨g,rfl,hg,rfl⟩
   have hg:=qjF g hg
   simp only [ZZ,WW,Ze,reduceCtorEq,zd,ze,za,zf,zb,hkv g]
   refine br ?_ ?_
   ·intro _
    refine zS ?_
    refine qae zE_ ?_
    refine zS ?_
    refine ⟨qai (by omega) (by omega),qab (3 - (i+1)) (.adr (.b 0) 0::.p (.str id)::oo::.p (.sl 1 (strE ids))::oo::oo::oo::oo::.adr (.l 8) 0::.adr (.l 9) 0::.mp (.l 27)::oE (oB (.p (int z)::.p (int ((i+1:Nat)))::oG []))) ([(.b 0,.box ((stm l (k'+1)).map .p) T),(.l 8,.box [.p (.str []),.p (int 0),.p (.str []),.p (.str []),.p (.nl 2),.p (.nl 2),.p (.nl 1),.p (.str []),.p (.str [])] qax),(.l 9,.box [.p (.str id),.p (int at_),.p (.str nm),.p (.str f),cT 55 ([]),cT 49 (c0 :: cr),.p (.nl 1),.p (.str []),.p (.str bd)] qax),(.l 27,.map (kv) 9 4)]++(oT 55 ([])++oT 49 (c0 :: cr))) (by omega) zF_ (by simp only [ZZ,WW,Ze,reduceCtorEq,zd,ze,za,zf,zb,cT,oT,adrE,adC,zF]) ⟨i+1,k'+1,W,kv,[],c0 :: cr,by omega,rfl,by omega,hkv,(by simp only [zm,zl,zr] at *;omega),(by simp only [zm,zl,zr] at *;omega),ht2,hc2,rfl,rfl⟩⟩
   intro _
   refine zS ?_
   refine useS (qgm l (k'+1) 3 (by omega) hl (by decide)) rfl rfl rfl zE_ ?_
   rintro x cs' ⟨b,rfl,rfl⟩
   refine zS ?_
   refine br ?_ ?_
   ·intro _
    simp only [ZZ,WW,Ze,reduceCtorEq,zd,ze,za,zf,zb,qaY,zl]
    ((with_reducible and_intros)<;>try exact sc_)
    refine qae zE_ ?_
    refine zS ?_
    refine ⟨qai (by omega) (by omega),qab (3 - (i+1)) (.adr (.b 0) 0::.p (.str id)::oo::.p (.sl 1 (strE ids))::oo::oo::oo::oo::.adr (.l 8) 0::.adr (.l 9) 0::.mp (.l 27)::oE (oB (.p (int z)::.p (int ((i+1:Nat)))::oG []))) ([(.b 0,.box ((stm l (k'+1+1)).map .p) T),(.l 8,.box [.p (.str []),.p (int 0),.p (.str []),.p (.str []),.p (.nl 2),.p (.nl 2),.p (.nl 1),.p (.str []),.p (.str [])] qax),(.l 9,.box [.p (.str id),.p (int at_),.p (.str nm),.p (.str f),cT 55 ([]),cT 49 ((c0 :: cr)++[([],g)]),.p (.nl 1),.p (.str []),.p (.str bd)] qax),(.l 27,.map (mpS kv g (.bool true)) 9 4)]++(oT 55 ([])++oT 49 ((c0 :: cr)++[([],g)]))) (by omega) zF_ (by simp only [ZZ,WW,Ze,reduceCtorEq,zd,ze,za,zf,zb,cT,oT,adrE,adC,zF]) ⟨i+1,k'+1+1,W++[g],mpS kv g (.bool true),[],(c0 :: cr)++[([],g)],by omega,rfl,by omega,qcv hkv g,(by simp only [zm,zl,zr] at *;omega),(by simp only [zm,zl,zr] at *;omega),ht2,(fun a ha=>by rcases zp.1 ha with ha|ha;exact hc2 a ha;rw [zu] at ha;subst ha;exact ⟨by simp,show g.length≤30000 by omega⟩),rfl,rfl⟩⟩
   ·intro _
    simp only [ZZ,WW,Ze,reduceCtorEq,zd,ze,za,zf,zb,qaY,zl]
    refine qae zE_ ?_
    refine zS ?_
    refine ⟨qai (by omega) (by omega),qab (3 - (i+1)) (.adr (.b 0) 0::.p (.str id)::oo::.p (.sl 1 (strE ids))::oo::oo::oo::oo::.adr (.l 8) 0::.adr (.l 9) 0::.mp (.l 27)::oE (oB (.p (int z)::.p (int ((i+1:Nat)))::oG []))) ([(.b 0,.box ((stm l (k'+1+1)).map .p) T),(.l 8,.box [.p (.str []),.p (int 0),.p (.str []),.p (.str []),.p (.nl 2),.p (.nl 2),.p (.nl 1),.p (.str []),.p (.str [])] qax),(.l 9,.box [.p (.str id),.p (int at_),.p (.str nm),.p (.str f),cT 55 (([])++[([],g)]),cT 49 (c0 :: cr),.p (.nl 1),.p (.str []),.p (.str bd)] qax),(.l 27,.map (mpS kv g (.bool true)) 9 4)]++(oT 55 (([])++[([],g)])++oT 49 (c0 :: cr))) (by omega) zF_ (by simp only [ZZ,WW,Ze,reduceCtorEq,zd,ze,za,zf,zb,cT,oT,adrE,adC,zF]) ⟨i+1,k'+1+1,W++[g],mpS kv g (.bool true),([])++[([],g)],c0 :: cr,by omega,rfl,by omega,qcv hkv g,(by simp only [zm,zl,zr] at *;omega),(by simp only [zm,zl,zr] at *;omega),(fun a ha=>by rcases zp.1 ha with ha|ha;exact ht2 a ha;rw [zu] at ha;subst ha;exact ⟨by simp,show g.length≤30000 by omega⟩),hc2,rfl,rfl⟩⟩
  ·simp only [cT,oT,ZZ,WW,Ze,reduceCtorEq,zd,ze,za,zf,zb]
   simp only [zl] at ht1
   refine use1 qfG rfl (.inl rfl) ?_
   refine zS ?_
   refine useS (qcx l k' peA (by omega) hl (by decide) (by decide)) rfl rfl rfl zE_ ?_
   rintro x cs' ⟨g,rfl,hg,rfl⟩
   have hg:=qjF g hg
   simp only [ZZ,WW,Ze,reduceCtorEq,zd,ze,za,zf,zb,hkv g]
   refine br ?_ ?_
   ·intro _
    refine zS ?_
    refine qae zE_ ?_
    refine zS ?_
    refine ⟨qai (by omega) (by omega),qab (3 - (i+1)) (.adr (.b 0) 0::.p (.str id)::oo::.p (.sl 1 (strE ids))::oo::oo::oo::oo::.adr (.l 8) 0::.adr (.l 9) 0::.mp (.l 27)::oE (oB (.p (int z)::.p (int ((i+1:Nat)))::oG []))) ([(.b 0,.box ((stm l (k'+1)).map .p) T),(.l 8,.box [.p (.str []),.p (int 0),.p (.str []),.p (.str []),.p (.nl 2),.p (.nl 2),.p (.nl 1),.p (.str []),.p (.str [])] qax),(.l 9,.box [.p (.str id),.p (int at_),.p (.str nm),.p (.str f),cT 55 (t0 :: tr),cT 49 ([]),.p (.nl 1),.p (.str []),.p (.str bd)] qax),(.l 27,.map (kv) 9 4)]++(oT 55 (t0 :: tr)++oT 49 ([]))) (by omega) zF_ (by simp only [ZZ,WW,Ze,reduceCtorEq,zd,ze,za,zf,zb,cT,oT,adrE,adC,zF]) ⟨i+1,k'+1,W,kv,t0 :: tr,[],by omega,rfl,by omega,hkv,(by simp only [zm,zl,zr] at *;omega),(by simp only [zm,zl,zr] at *;omega),ht2,hc2,rfl,rfl⟩⟩
   intro _
   refine zS ?_
   refine useS (qgm l (k'+1) 3 (by omega) hl (by decide)) rfl rfl rfl zE_ ?_
   rintro x cs' ⟨b,rfl,rfl⟩
   refine zS ?_
   refine br ?_ ?_
   ·intro _
    simp only [ZZ,WW,Ze,reduceCtorEq,zd,ze,za,zf,zb,qaY,zl]
    refine qae zE_ ?_
    refine zS ?_
    refine ⟨qai (by omega) (by omega),qab (3 - (i+1)) (.adr (.b 0) 0::.p (.str id)::oo::.p (.sl 1 (strE ids))::oo::oo::oo::oo::.adr (.l 8) 0::.adr (.l 9) 0::.mp (.l 27)::oE (oB (.p (int z)::.p (int ((i+1:Nat)))::oG []))) ([(.b 0,.box ((stm l (k'+1+1)).map .p) T),(.l 8,.box [.p (.str []),.p (int 0),.p (.str []),.p (.str []),.p (.nl 2),.p (.nl 2),.p (.nl 1),.p (.str []),.p (.str [])] qax),(.l 9,.box [.p (.str id),.p (int at_),.p (.str nm),.p (.str f),cT 55 (t0 :: tr),cT 49 (([])++[([],g)]),.p (.nl 1),.p (.str []),.p (.str bd)] qax),(.l 27,.map (mpS kv g (.bool true)) 9 4)]++(oT 55 (t0 :: tr)++oT 49 (([])++[([],g)]))) (by omega) zF_ (by simp only [ZZ,WW,Ze,reduceCtorEq,zd,ze,za,zf,zb,cT,oT,adrE,adC,zF]) ⟨i+1,k'+1+1,W++[g],mpS kv g (.bool true),t0 :: tr,([])++[([],g)],by omega,rfl,by omega,qcv hkv g,(by simp only [zm,zl,zr] at *;omega),(by simp only [zm,zl,zr] at *;omega),ht2,(fun a ha=>by rcases zp.1 ha with ha|ha;exact hc2 a ha;rw [zu] at ha;subst ha;exact ⟨by simp,show g.length≤30000 by omega⟩),rfl,rfl⟩⟩
   ·intro _
    simp only [ZZ,WW,Ze,reduceCtorEq,zd,ze,za,zf,zb,qaY,zl]
    ((with_reducible and_intros)<;>try exact sc_)
    refine qae zE_ ?_
    refine zS ?_
    refine ⟨qai (by omega) (by omega),qab (3 - (i+1)) (.adr (.b 0) 0::.p (.str id)::oo::.p (.sl 1 (strE ids))::oo::oo::oo::oo::.adr (.l 8) 0::.adr (.l 9) 0::.mp (.l 27)::oE (oB (.p (int z)::.p (int ((i+1:Nat)))::oG []))) ([(.b 0,.box ((stm l (k'+1+1)).map .p) T),(.l 8,.box [.p (.str []),.p (int 0),.p (.str []),.p (.str []),.p (.nl 2),.p (.nl 2),.p (.nl 1),.p (.str []),.p (.str [])] qax),(.l 9,.box [.p (.str id),.p (int at_),.p (.str nm),.p (.str f),cT 55 ((t0 :: tr)++[([],g)]),cT 49 ([]),.p (.nl 1),.p (.str []),.p (.str bd)] qax),(.l 27,.map (mpS kv g (.bool true)) 9 4)]++(oT 55 ((t0 :: tr)++[([],g)])++oT 49 ([]))) (by omega) zF_ (by simp only [ZZ,WW,Ze,reduceCtorEq,zd,ze,za,zf,zb,cT,oT,adrE,adC,zF]) ⟨i+1,k'+1+1,W++[g],mpS kv g (.bool true),(t0 :: tr)++[([],g)],[],by omega,rfl,by omega,qcv hkv g,(by simp only [zm,zl,zr] at *;omega),(by simp only [zm,zl,zr] at *;omega),(fun a ha=>by rcases zp.1 ha with ha|ha;exact ht2 a ha;rw [zu] at ha;subst ha;exact ⟨by simp,show g.length≤30000 by omega⟩),hc2,rfl,rfl⟩⟩
  ·simp only [cT,oT,ZZ,WW,Ze,reduceCtorEq,zd,ze,za,zf,zb]
   simp only [zl] at ht1
   simp only [zl] at hc1
   refine use1 qfG rfl (.inl rfl) ?_
   refine zS ?_
   refine useS (qcx l k' peA (by omega) hl (by decide) (by decide)) rfl rfl rfl zE_ ?_
   rintro x cs' ⟨g,rfl,hg,rfl⟩
   have hg:=qjF g hg
   simp only [ZZ,WW,Ze,reduceCtorEq,zd,ze,za,zf,zb,hkv g]
   refine br ?_ ?_
   ·intro _
    refine zS ?_
    refine qae zE_ ?_
    refine zS ?_
    refine ⟨qai (by omega) (by omega),qab (3 - (i+1)) (.adr (.b 0) 0::.p (.str id)::oo::.p (.sl 1 (strE ids))::oo::oo::oo::oo::.adr (.l 8) 0::.adr (.l 9) 0::.mp (.l 27)::oE (oB (.p (int z)::.p (int ((i+1:Nat)))::oG []))) ([(.b 0,.box ((stm l (k'+1)).map .p) T),(.l 8,.box [.p (.str []),.p (int 0),.p (.str []),.p (.str []),.p (.nl 2),.p (.nl 2),.p (.nl 1),.p (.str []),.p (.str [])] qax),(.l 9,.box [.p (.str id),.p (int at_),.p (.str nm),.p (.str f),cT 55 (t0 :: tr),cT 49 (c0 :: cr),.p (.nl 1),.p (.str []),.p (.str bd)] qax),(.l 27,.map (kv) 9 4)]++(oT 55 (t0 :: tr)++oT 49 (c0 :: cr))) (by omega) zF_ (by simp only [ZZ,WW,Ze,reduceCtorEq,zd,ze,za,zf,zb,cT,oT,adrE,adC,zF]) ⟨i+1,k'+1,W,kv,t0 :: tr,c0 :: cr,by omega,rfl,by omega,hkv,(by simp only [zm,zl,zr] at *;omega),(by simp only [zm,zl,zr] at *;omega),ht2,hc2,rfl,rfl⟩⟩
   intro _
   refine zS ?_
   refine useS (qgm l (k'+1) 3 (by omega) hl (by decide)) rfl rfl rfl zE_ ?_
   rintro x cs' ⟨b,rfl,rfl⟩
   refine zS ?_
   refine br ?_ ?_
   ·intro _
    simp only [ZZ,WW,Ze,reduceCtorEq,zd,ze,za,zf,zb,qaY,zl]
    ((with_reducible and_intros)<;>try exact sc_)
    refine qae zE_ ?_
    refine zS ?_
    refine ⟨qai (by omega) (by omega),qab (3 - (i+1)) (.adr (.b 0) 0::.p (.str id)::oo::.p (.sl 1 (strE ids))::oo::oo::oo::oo::.adr (.l 8) 0::.adr (.l 9) 0::.mp (.l 27)::oE (oB (.p (int z)::.p (int ((i+1:Nat)))::oG []))) ([(.b 0,.box ((stm l (k'+1+1)).map .p) T),(.l 8,.box [.p (.str []),.p (int 0),.p (.str []),.p (.str []),.p (.nl 2),.p (.nl 2),.p (.nl 1),.p (.str []),.p (.str [])] qax),(.l 9,.box [.p (.str id),.p (int at_),.p (.str nm),.p (.str f),cT 55 (t0 :: tr),cT 49 ((c0 :: cr)++[([],g)]),.p (.nl 1),.p (.str []),.p (.str bd)] qax),(.l 27,.map (mpS kv g (.bool true)) 9 4)]++(oT 55 (t0 :: tr)++oT 49 ((c0 :: cr)++[([],g)]))) (by omega) zF_ (by simp only [ZZ,WW,Ze,reduceCtorEq,zd,ze,za,zf,zb,cT,oT,adrE,adC,zF]) ⟨i+1,k'+1+1,W++[g],mpS kv g (.bool true),t0 :: tr,(c0 :: cr)++[([],g)],by omega,rfl,by omega,qcv hkv g,(by simp only [zm,zl,zr] at *;omega),(by simp only [zm,zl,zr] at *;omega),ht2,(fun a ha=>by rcases zp.1 ha with ha|ha;exact hc2 a ha;rw [zu] at ha;subst ha;exact ⟨by simp,show g.length≤30000 by omega⟩),rfl,rfl⟩⟩
   ·intro _
    simp only [ZZ,WW,Ze,reduceCtorEq,zd,ze,za,zf,zb,qaY,zl]
    ((with_reducible and_intros)<;>try exact sc_)
    refine qae zE_ ?_
    refine zS ?_
    refine ⟨qai (by omega) (by omega),qab (3 - (i+1)) (.adr (.b 0) 0::.p (.str id)::oo::.p (.sl 1 (strE ids))::oo::oo::oo::oo::.adr (.l 8) 0::.adr (.l 9) 0::.mp (.l 27)::oE (oB (.p (int z)::.p (int ((i+1:Nat)))::oG []))) ([(.b 0,.box ((stm l (k'+1+1)).map .p) T),(.l 8,.box [.p (.str []),.p (int 0),.p (.str []),.p (.str []),.p (.nl 2),.p (.nl 2),.p (.nl 1),.p (.str []),.p (.str [])] qax),(.l 9,.box [.p (.str id),.p (int at_),.p (.str nm),.p (.str f),cT 55 ((t0 :: tr)++[([],g)]),cT 49 (c0 :: cr),.p (.nl 1),.p (.str []),.p (.str bd)] qax),(.l 27,.map (mpS kv g (.bool true)) 9 4)]++(oT 55 ((t0 :: tr)++[([],g)])++oT 49 (c0 :: cr))) (by omega) zF_ (by simp only [ZZ,WW,Ze,reduceCtorEq,zd,ze,za,zf,zb,cT,oT,adrE,adC,zF]) ⟨i+1,k'+1+1,W++[g],mpS kv g (.bool true),(t0 :: tr)++[([],g)],c0 :: cr,by omega,rfl,by omega,qcv hkv g,(by simp only [zm,zl,zr] at *;omega),(by simp only [zm,zl,zr] at *;omega),(fun a ha=>by rcases zp.1 ha with ha|ha;exact ht2 a ha;rw [zu] at ha;subst ha;exact ⟨by simp,show g.length≤30000 by omega⟩),hc2,rfl,rfl⟩⟩
 intro h
 clear h hkv
 refine zS ?_
 rw [qky]
 refine ⟨(.adr (.b 0) 0::.p (.str id)::oo::.p (.sl 1 (strE ids))::oo::oo::oo::oo::.adr (.l 8) 0::.adr (.l 9) 0::oF (oE (.adr (.b 0) 0::oF (oC [])))),[(.b 0,.box ((stm l (k')).map .p) T),(.l 8,.box [.p (.str []),.p (int 0),.p (.str []),.p (.str []),.p (.nl 2),.p (.nl 2),.p (.nl 1),.p (.str []),.p (.str [])] qax),(.l 9,.box [.p (.str id),.p (int at_),.p (.str nm),.p (.str f),.p (pT ts),.p (pT cc),.p (.nl 1),.p (.str []),.p (.str bd)] qax)],?_,?_⟩
 ·rcases ts with _|⟨t0,tr⟩<;>rcases cc with _|⟨c0,cr⟩
  ·exact qbq zF_ (by simp only [ZZ,WW,Ze,reduceCtorEq,zd,ze,za,zf,zb,cT,oT,pT])
  ·exact ReOk.trans (qdx (k:=.l 49) rfl) (by simp only [ZZ,WW,Ze,reduceCtorEq,zd,ze,za,zf,zb,cT,oT];exact qbq zF_ (by simp only [ZZ,WW,Ze,reduceCtorEq,zd,ze,za,zf,zb,pT]))
  ·exact ReOk.trans (qdx (k:=.l 55) rfl) (by simp only [ZZ,WW,Ze,reduceCtorEq,zd,ze,za,zf,zb,cT,oT];exact qbq zF_ (by simp only [ZZ,WW,Ze,reduceCtorEq,zd,ze,za,zf,zb,pT]))
  ·exact ReOk.trans (qdx (k:=.l 55) rfl) (by simp only [ZZ,WW,Ze,reduceCtorEq,zd,ze,za,zf,zb,cT,oT];exact ReOk.trans (qdx (k:=.l 49) rfl) (by simp only [ZZ,WW,Ze,reduceCtorEq,zd,ze,za,zf,zb];exact qbq zF_ (by simp only [ZZ,WW,Ze,reduceCtorEq,zd,ze,za,zf,zb,pT])))
 refine zS ?_
 refine useS (qml l k' [0,0,1,1,2] (by omega) hl (by simp) (by simp)) rfl rfl rfl zE_ ?_
 rintro x cs' ⟨y,rfl,hy,rfl⟩
 have hy:0≤y∧y≤2:=by simp at hy;omega
 refine zS ?_
 refine qad (fun n fr L=>∃ (j q:Nat) (rf:List (List UInt8)),j≤2∧n=2 - j∧q≤k1+15+j∧rf.length≤j∧(∀ r∈rf,r.length≤30000)∧fr=(.adr (.b 0) 0::.p (.str id)::oo::.p (.sl 1 (strE ids))::oo::oo::oo::oo::.adr (.l 8) 0::.adr (.l 9) 0::oF (oE (oB (.p (int y)::.p (int (j:Nat))::oF (oo::[])))))∧L=([(.b 0,.box ((stm l (q)).map .p) T),(.l 8,.box [.p (.str []),.p (int 0),.p (.str []),.p (.str []),.p (.nl 2),.p (.nl 2),.p (.nl 1),.p (.str []),.p (.str [])] qax),(.l 9,.box [.p (.str id),.p (int at_),.p (.str nm),.p (.str f),.p (pT ts),.p (pT cc),cSt 82 (rf),.p (.str []),.p (.str bd)] qax)]++oSt 82 (rf))) 2 (.adr (.b 0) 0::.p (.str id)::oo::.p (.sl 1 (strE ids))::oo::oo::oo::oo::.adr (.l 8) 0::.adr (.l 9) 0::oF (oE (oB (.p (int y)::.p (int (0:Nat))::oF (oo::[]))))) ([(.b 0,.box ((stm l (k'+1)).map .p) T),(.l 8,.box [.p (.str []),.p (int 0),.p (.str []),.p (.str []),.p (.nl 2),.p (.nl 2),.p (.nl 1),.p (.str []),.p (.str [])] qax),(.l 9,.box [.p (.str id),.p (int at_),.p (.str nm),.p (.str f),.p (pT ts),.p (pT cc),cSt 82 ([]),.p (.str []),.p (.str bd)] qax)]++oSt 82 ([])) zF_ (by simp only [ZZ,WW,Ze,reduceCtorEq,zd,ze,za,zf,zb,cSt,oSt]) ⟨0,k'+1,[],by omega,by omega,by omega,by simp,by simp,rfl,rfl⟩ ?_
 rintro n fr L ⟨j,q,rf,hj2,rfl,hq,hr1,hr2,rfl,rfl⟩
 simp only [qbm,ZZ,WW,Ze,reduceCtorEq,zd,ze,za,zf,zb]
 refine br ?_ ?_
 ·intro h
  have hlt:(j:Int) < y:=of_decide_eq_true h
  rcases rf with _|⟨r0,rr⟩
  ·simp only [cSt,oSt,ZZ,WW,Ze,reduceCtorEq,zd,ze,za,zf,zb]
   simp only [qac,ZZ,WW,Ze,reduceCtorEq,zd,ze,za,zf,zb]
   ((with_reducible and_intros)<;>try exact sc_)
   refine useS (qcx l q (gnA++ids) (by omega) hl (by simp [gnA]) (by simp [gnA];omega)) rfl rfl rfl zE_ ?_
   rintro x cs' ⟨r,rfl,hr,rfl⟩
   have hr:r.length≤30000:=by rcases zp.1 hr with hr|hr;(simp only [gnA,zG,zW,or_false] at hr;rcases hr with rfl|rfl<;>decide);have:=hib r hr;omega
   refine zS ?_
   refine useG (fun _=>up6 (qa2 ([]) r (by simp only [zl,zr] at *;omega))) rfl (.inr rfl) ?_
   refine zS ?_
   refine br ?_ ?_
   ·intro _
    refine zS ?_
    refine qae zE_ ?_
    refine zS ?_
    refine ⟨qai (by omega) (by omega),qab (2 - (j+1)) (.adr (.b 0) 0::.p (.str id)::oo::.p (.sl 1 (strE ids))::oo::oo::oo::oo::.adr (.l 8) 0::.adr (.l 9) 0::oF (oE (oB (.p (int y)::.p (int ((j+1:Nat)))::oF (oo::[]))))) ([(.b 0,.box ((stm l (q+1)).map .p) T),(.l 8,.box [.p (.str []),.p (int 0),.p (.str []),.p (.str []),.p (.nl 2),.p (.nl 2),.p (.nl 1),.p (.str []),.p (.str [])] qax),(.l 9,.box [.p (.str id),.p (int at_),.p (.str nm),.p (.str f),.p (pT ts),.p (pT cc),cSt 82 (([])++[r]),.p (.str []),.p (.str bd)] qax)]++oSt 82 (([])++[r])) (by omega) zF_ (by simp only [ZZ,WW,Ze,reduceCtorEq,zd,ze,za,zf,zb,cSt,oSt,strE,zF]) ⟨j+1,q+1,([])++[r],by omega,rfl,by omega,(by simp only [zm,zl,zr] at *;omega),(fun a ha=>by rcases zp.1 ha with ha|ha;exact hr2 a ha;rw [zu] at ha;subst ha;exact hr),rfl,rfl⟩⟩
   ·intro _
    refine zS ?_
    refine qae zE_ ?_
    refine zS ?_
    refine ⟨qai (by omega) (by omega),qab (2 - (j+1)) (.adr (.b 0) 0::.p (.str id)::oo::.p (.sl 1 (strE ids))::oo::oo::oo::oo::.adr (.l 8) 0::.adr (.l 9) 0::oF (oE (oB (.p (int y)::.p (int ((j+1:Nat)))::oF (oo::[]))))) ([(.b 0,.box ((stm l (q+1)).map .p) T),(.l 8,.box [.p (.str []),.p (int 0),.p (.str []),.p (.str []),.p (.nl 2),.p (.nl 2),.p (.nl 1),.p (.str []),.p (.str [])] qax),(.l 9,.box [.p (.str id),.p (int at_),.p (.str nm),.p (.str f),.p (pT ts),.p (pT cc),cSt 82 ([]),.p (.str []),.p (.str bd)] qax)]++oSt 82 ([])) (by omega) zF_ (by simp only [ZZ,WW,Ze,reduceCtorEq,zd,ze,za,zf,zb,cSt,oSt,strE,zF]) ⟨j+1,q+1,[],by omega,rfl,by omega,(by simp only [zm,zl,zr] at *;omega),hr2,rfl,rfl⟩⟩
  ·simp only [cSt,oSt,ZZ,WW,Ze,reduceCtorEq,zd,ze,za,zf,zb]
   simp only [zl] at hr1
   simp only [qac,ZZ,WW,Ze,reduceCtorEq,zd,ze,za,zf,zb]
   ((with_reducible and_intros)<;>try exact sc_)
   refine useS (qcx l q (gnA++ids) (by omega) hl (by simp [gnA]) (by simp [gnA];omega)) rfl rfl rfl zE_ ?_
   rintro x cs' ⟨r,rfl,hr,rfl⟩
   have hr:r.length≤30000:=by rcases zp.1 hr with hr|hr;(simp only [gnA,zG,zW,or_false] at hr;rcases hr with rfl|rfl<;>decide);have:=hib r hr;omega
   refine zS ?_
   refine useG (fun _=>up6 (qa2 (r0 :: rr) r (by simp only [zl,zr] at *;omega))) rfl (.inr rfl) ?_
   refine zS ?_
   refine br ?_ ?_
   ·intro _
    simp only [ZZ,WW,Ze,reduceCtorEq,zd,ze,za,zf,zb,qac,zl]
    ((with_reducible and_intros)<;>try exact sc_)
    refine qae zE_ ?_
    refine zS ?_
    refine ⟨qai (by omega) (by omega),qab (2 - (j+1)) (.adr (.b 0) 0::.p (.str id)::oo::.p (.sl 1 (strE ids))::oo::oo::oo::oo::.adr (.l 8) 0::.adr (.l 9) 0::oF (oE (oB (.p (int y)::.p (int ((j+1:Nat)))::oF (oo::[]))))) ([(.b 0,.box ((stm l (q+1)).map .p) T),(.l 8,.box [.p (.str []),.p (int 0),.p (.str []),.p (.str []),.p (.nl 2),.p (.nl 2),.p (.nl 1),.p (.str []),.p (.str [])] qax),(.l 9,.box [.p (.str id),.p (int at_),.p (.str nm),.p (.str f),.p (pT ts),.p (pT cc),cSt 82 ((r0 :: rr)++[r]),.p (.str []),.p (.str bd)] qax)]++oSt 82 ((r0 :: rr)++[r])) (by omega) zF_ (by simp only [ZZ,WW,Ze,reduceCtorEq,zd,ze,za,zf,zb,cSt,oSt,strE,zF]) ⟨j+1,q+1,(r0 :: rr)++[r],by omega,rfl,by omega,(by simp only [zm,zl,zr] at *;omega),(fun a ha=>by rcases zp.1 ha with ha|ha;exact hr2 a ha;rw [zu] at ha;subst ha;exact hr),rfl,rfl⟩⟩
   ·intro _
    refine zS ?_
    refine qae zE_ ?_
    refine zS ?_
    refine ⟨qai (by omega) (by omega),qab (2 - (j+1)) (.adr (.b 0) 0::.p (.str id)::oo::.p (.sl 1 (strE ids))::oo::oo::oo::oo::.adr (.l 8) 0::.adr (.l 9) 0::oF (oE (oB (.p (int y)::.p (int ((j+1:Nat)))::oF (oo::[]))))) ([(.b 0,.box ((stm l (q+1)).map .p) T),(.l 8,.box [.p (.str []),.p (int 0),.p (.str []),.p (.str []),.p (.nl 2),.p (.nl 2),.p (.nl 1),.p (.str []),.p (.str [])] qax),(.l 9,.box [.p (.str id),.p (int at_),.p (.str nm),.p (.str f),.p (pT ts),.p (pT cc),cSt 82 (r0 :: rr),.p (.str []),.p (.str bd)] qax)]++oSt 82 (r0 :: rr)) (by omega) zF_ (by simp only [ZZ,WW,Ze,reduceCtorEq,zd,ze,za,zf,zb,cSt,oSt,strE,zF]) ⟨j+1,q+1,r0 :: rr,by omega,rfl,by omega,(by simp only [zm,zl,zr] at *;omega),hr2,rfl,rfl⟩⟩
 intro h
 clear h
 refine zS ?_
 rw [qky]
 refine ⟨(.adr (.b 0) 0::oC (oB (oo::(.adr (.l 8) 0::.adr (.l 9) 0::oG (oD (oB (oo::(.adr (.b 0) 0::oD (oo::[]))))))))),[(.b 0,.box ((stm l (q)).map .p) T),(.l 8,.box [.p (.str []),.p (int 0),.p (.str []),.p (.str []),.p (.nl 2),.p (.nl 2),.p (.nl 1),.p (.str []),.p (.str [])] qax),(.l 9,.box [.p (.str id),.p (int at_),.p (.str nm),.p (.str f),.p (pT ts),.p (pT cc),.p (pSt rf),.p (.str []),.p (.str bd)] qax)],?_,?_⟩
 ·rcases rf with _|⟨r0,rr⟩
  ·exact qbq zF_ (by simp only [ZZ,WW,Ze,reduceCtorEq,zd,ze,za,zf,zb,cSt,oSt,pSt])
  ·exact ReOk.trans (qdx (k:=.l 82) rfl) (by simp only [ZZ,WW,Ze,reduceCtorEq,zd,ze,za,zf,zb,cSt,oSt];exact qbq zF_ (by simp only [ZZ,WW,Ze,reduceCtorEq,zd,ze,za,zf,zb,pSt]))
 refine zS ?_
 refine useS (qcx l q sjA (by omega) hl (by decide) (by decide)) rfl rfl rfl zE_ ?_
 rintro x cs' ⟨s,rfl,hs,rfl⟩
 obtain ⟨s1,s2,s3,s4⟩:=qxj s hs
 refine zS ?_
 refine use1 (qqx s (by omega) s2) rfl (.inl rfl) ?_
 refine zS ?_
 refine use1 (qef (Lib.fields s) [32] (by omega) (by omega)) rfl (.inl rfl) ?_
 rcases ts with _|⟨t0,tr⟩<;>rcases cc with _|⟨c0,cr⟩<;>rcases rf with _|⟨r0,rr⟩
 ·simp only [ZZ,WW,Ze,reduceCtorEq,zd,ze,za,zf,zb,pT,pSt]
  exact qet (stm l (q+1)) rfl ⟨⟨id,at_,(nm,f),[],[],[],Lib.join (Lib.fields s) [32],bd⟩,_,rfl,⟨zt hid (by decide),hnm,zt hf (by decide),zt ht1 (by omega),ht2,zt hc1 (by omega),hc2,zt hr1 (by omega),hr2,s4,zt hbd (by decide),hat⟩,rfl,by omega⟩
 ·simp only [ZZ,WW,Ze,reduceCtorEq,zd,ze,za,zf,zb,pT,pSt]
  exact qet (stm l (q+1)) rfl ⟨⟨id,at_,(nm,f),[],[],r0 :: rr,Lib.join (Lib.fields s) [32],bd⟩,_,rfl,⟨zt hid (by decide),hnm,zt hf (by decide),zt ht1 (by omega),ht2,zt hc1 (by omega),hc2,zt hr1 (by omega),hr2,s4,zt hbd (by decide),hat⟩,rfl,by omega⟩
 ·simp only [ZZ,WW,Ze,reduceCtorEq,zd,ze,za,zf,zb,pT,pSt]
  exact qet (stm l (q+1)) rfl ⟨⟨id,at_,(nm,f),[],c0 :: cr,[],Lib.join (Lib.fields s) [32],bd⟩,_,rfl,⟨zt hid (by decide),hnm,zt hf (by decide),zt ht1 (by omega),ht2,zt hc1 (by omega),hc2,zt hr1 (by omega),hr2,s4,zt hbd (by decide),hat⟩,rfl,by omega⟩
 ·simp only [ZZ,WW,Ze,reduceCtorEq,zd,ze,za,zf,zb,pT,pSt]
  exact qet (stm l (q+1)) rfl ⟨⟨id,at_,(nm,f),[],c0 :: cr,r0 :: rr,Lib.join (Lib.fields s) [32],bd⟩,_,rfl,⟨zt hid (by decide),hnm,zt hf (by decide),zt ht1 (by omega),ht2,zt hc1 (by omega),hc2,zt hr1 (by omega),hr2,s4,zt hbd (by decide),hat⟩,rfl,by omega⟩
 ·simp only [ZZ,WW,Ze,reduceCtorEq,zd,ze,za,zf,zb,pT,pSt]
  exact qet (stm l (q+1)) rfl ⟨⟨id,at_,(nm,f),t0 :: tr,[],[],Lib.join (Lib.fields s) [32],bd⟩,_,rfl,⟨zt hid (by decide),hnm,zt hf (by decide),zt ht1 (by omega),ht2,zt hc1 (by omega),hc2,zt hr1 (by omega),hr2,s4,zt hbd (by decide),hat⟩,rfl,by omega⟩
 ·simp only [ZZ,WW,Ze,reduceCtorEq,zd,ze,za,zf,zb,pT,pSt]
  exact qet (stm l (q+1)) rfl ⟨⟨id,at_,(nm,f),t0 :: tr,[],r0 :: rr,Lib.join (Lib.fields s) [32],bd⟩,_,rfl,⟨zt hid (by decide),hnm,zt hf (by decide),zt ht1 (by omega),ht2,zt hc1 (by omega),hc2,zt hr1 (by omega),hr2,s4,zt hbd (by decide),hat⟩,rfl,by omega⟩
 ·simp only [ZZ,WW,Ze,reduceCtorEq,zd,ze,za,zf,zb,pT,pSt]
  exact qet (stm l (q+1)) rfl ⟨⟨id,at_,(nm,f),t0 :: tr,c0 :: cr,[],Lib.join (Lib.fields s) [32],bd⟩,_,rfl,⟨zt hid (by decide),hnm,zt hf (by decide),zt ht1 (by omega),ht2,zt hc1 (by omega),hc2,zt hr1 (by omega),hr2,s4,zt hbd (by decide),hat⟩,rfl,by omega⟩
 ·simp only [ZZ,WW,Ze,reduceCtorEq,zd,ze,za,zf,zb,pT,pSt]
  exact qet (stm l (q+1)) rfl ⟨⟨id,at_,(nm,f),t0 :: tr,c0 :: cr,r0 :: rr,Lib.join (Lib.fields s) [32],bd⟩,_,rfl,⟨zt hid (by decide),hnm,zt hf (by decide),zt ht1 (by omega),ht2,zt hc1 (by omega),hc2,zt hr1 (by omega),hr2,s4,zt hbd (by decide),hat⟩,rfl,by omega⟩
def qdj:IC:=(sR [qT 87 .lss 86 85] (.seq (.cond (.t 87) .skip (.exit 4)) (.seq (.block 5 (sR [qX 88 2 84 86,qO 89 (.ld 2 true (.t 88)),qO 17 (.alc 100 [.str [],.str []]),qS 2 17 89] (.reg [wF 90 4 15,qL 91 90,wF 92 1 17,qL 93 92,qO 94 (.bsl 1 [.t 93]),qO 95 (.app 9 1 16 (.t 91) (.t 94)),wF 96 4 15,qS 1 96 95]))) (.reg [qB 97 .add 86 (cI 1),qM 86 97]))))
def qdk:IC:=(sR [qT 31 .lss 30 29] (.seq (.cond (.t 31) .skip (.exit 2)) (.seq (.block 3 (sR [qX 32 2 28 30,qO 33 (.ld 2 true (.t 32)),qO 13 (.alc 108 [.str [],.nl 2]),qS 2 13 33] (sR [wF 34 0 13,qL 35 34,wF 36 0 10,qL 37 36,qT 38 .eql 35 37] (jW 38 (.reg [wF 39 1 13,qL 40 39,qN 41 40,qM 11 41]))))) (.cut (.reg [qB 42 .add 30 (cI 1),qM 30 42])))))
def qdl:IC:=(sR [qT 25 .lss 24 23] (.seq (jE 25) (.seq (.block 1 (sR [qX 26 9 22 24,qO 27 (.ld 9 true (.t 26)),qO 10 (.alc 103 [.str [],.int .i64 0,.str [],.str [],.nl 2,.nl 2,.nl 1,.str [],.str []]),qS 9 10 27] (sR [jI 11 0] (.seq (sR [qM 28 2,qN 29 28,jI 30 0] (.block 2 (.loop qdk))) (sR [qO 43 (.ld 4 true (.t 3)),qO 44 (.ld 9 true (.t 10)),jC 45 55 [.t 43,.t 44],qO 14 (.alc 110 [.str [],.int .i64 0,.int .i64 0]),qS 3 14 45] (.seq (sR [wF 46 1 14,qL 47 46,qB 48 .eql 47 (cI 1),qM 49 48,⟨some 50,.fla 1 (.t 14),(some (49,false))⟩,⟨some 51,.ld 1 false (.t 50),(some (49,false))⟩,⟨some 52,.bin .eql (.t 51) (cI 2),(some (49,false))⟩,⟨some 53,.mov (.t 52),(some (49,false))⟩,⟨some 54,.mov (.t 11),(some (53,true))⟩,⟨some 55,.bin .eql (.t 54) (cI 0),(some (53,true))⟩,⟨some 56,.pick (.t 53) (.t 55) (.c (.bool false)),(some (49,false))⟩,qO 57 (.pick (.t 49) (.c (.bool true)) (.t 56))] (jW 57 (.exit 1))) (.seq (.drg [⟨none,.hole 15,none⟩,qM 58 8,qN 59 58,qB 60 .add 59 (cI 1),wF 61 0 10,qL 62 61,wF 63 1 10,qL 64 63,wF 65 2 10,wF 66 1 65,qL 67 66,wF 68 1 14,qL 69 68,qO 70 (.ld 4 true (.t 3)),qO 71 (.ld 9 true (.t 10)),qO 72 (.pcl 0 56 [.t 70,.t 71]),qO 73 (.bld [.int .i64 0,.str [],.int .i64 0,.str [],.nl 1,.int .i64 0,.str [],.int .i64 0] [(0,1,.t 60),(1,1,.t 62),(2,1,.t 64),(3,1,.t 67),(5,1,.t 69),(6,1,.t 72)]),qO 15 (.alcd 54 [.int .i64 0,.str [],.int .i64 0,.str [],.nl 1,.int .i64 0,.str [],.int .i64 0]),qS 8 15 73]) (.seq (sR [wF 74 1 14,qL 75 74,qB 76 .eql 75 (cI 2)] (jW 76 (.reg [qM 77 11,wF 78 7 15,qS 1 78 77]))) (.cut (.seq (sR [wF 79 4 10,qL 80 79,wF 81 5 10,qL 82 81,qO 83 (.bsl 1 [.t 80,.t 82]),jC 84 57 [.t 83],qN 85 84,jI 86 0] (.block 4 (.loop qdj))) (sR [⟨none,.re,none⟩,wF 98 4 15,qL 99 98,jC 100 58 [.t 99],wF 101 4 15,qS 1 101 100] (.reg [qM 102 8,qO 103 (.ld 8 true (.t 15)),qO 104 (.bsl 8 [.t 103]),qO 105 (.app 54 8 104 (.t 102) (.t 104)),qM 8 105])))))))))))) (.cut (.reg [qB 106 .add 24 (cI 1),qM 24 106])))))
abbrev qhV:IC:=(sR [qO 3 (.box 48 (.t 0)),qO 6 (.mov (.c (.nl 8)))] (sR [qM 18 1,jC 19 49 [.t 18],qM 7 19] (sR [qM 20 7,jC 21 50 [.t 20,.f 51]] (sR [qO 8 (.nilr 54 8)] (.seq (sR [qM 22 7,qN 23 22,jI 24 0] (.block 0 (.loop qdl))) (sR [qM 107 8,qM 6 107] .ret))))))
theorem qh7:chkF Tryz.prog Tryz.f14 qhV [.t 6] 108=true:=by kernel_rfl
theorem qt5 (P D:List Par) (Ts X:List (List UInt8)) (m:Ltr):1≤(ql0 P D Ts X m).1∧(ql0 P D Ts X m).1≤3:=by
 unfold ql0
 repeat' split
 all_goals exact ⟨by decide,by decide⟩
set_option maxRecDepth 100000 in
set_option maxHeartbeats 8000000 in
theorem qur (P D:List Par) (Ts X:List (List UInt8)) (u:List Ltr) (hB:CB P D Ts X) (hu:u.length≤12) (hm:∀ m∈u,LtM 100 m) (hR:∀ x,0≤(qa4 P D x).1.2.2∧(qa4 P D x).1.2.2≤4):FCall Tryz.prog E6 14 [.agg (cirV P D Ts X),.sl 9 (ltE u),.sl 2 []] tRow 8 (fun es=>∃ q:List Lr,es=lrE q∧q.length≤u.length∧∀ r∈q,LrT r∧0≤r.no∧r.no≤100000∧r.tos.length≤200):=by
 have hcal:=fun m (hm:LtM 100 m)=>qqA P D Ts X m hB (hm.big (by omega)) (by have:=hm.b11;omega) (by have:=hm.b10;omega)
 have hdes:=fun m (hm:LtM 100 m)=>up6 (qmp P D Ts X m hB hm (by have:=hm.b11;omega) hR)
 simp only [cirV,cldV,ltV] at hcal hdes
 unfold FCall
 refine qf0 mixed Tryz.func14 qh7 ?_
 refine zV ?_
 simp only [cirV,ZZ,WW,Ze,reduceCtorEq,zd,ze,za,zf,zb]
 refine useF (qqy (ltE u) (by rw [qfI];omega)) rfl rfl ?_
 rintro es rfl
 refine zS ?_
 refine useR (qqq (fun x:Ltr=>x.id) (fun x=>x.at_) (fun x=>x.fr.1) (fun x=>x.fr.2) (fun x=>adrE x.tos) (fun x=>adrE x.ccs) (fun x=>strE x.refs) (fun x=>x.sub) (fun x=>x.body) ordM ordM_cmp.ord 51 [] (fun _=>by kernel_rfl) u hu (fun x _ y _=>qwH x y) (fun _ _=>rfl) (fun _ _=>rfl)) rfl rfl rfl zE_ ?_
 rintro _ es' ⟨rfl,o,hes,hp,hs⟩
 have hes:es'=ltE o:=hes
 subst hes
 have hol:o.length=u.length:=hp.length_eq
 have hom:∀ m∈o,LtM 100 m:=fun m h=>hm m (hp.mem_iff.1 h)
 clear hs hp
 have hRn:lrE []=[]:=rfl
 simp only [ZZ,WW,Ze,reduceCtorEq,zd,ze,za,zf,zb,qfI]
 refine qis (fun n fr L=>∃ (k:Nat) (q:List Lr),k≤o.length∧n=o.length - k∧(q.length≤k)∧(∀ r∈q,LrT r∧0≤r.no∧r.no≤100000∧r.tos.length≤200)∧fr=(oo::oo::.p (.sl 2 [])::.adr (.l 3) 0::oo::oo::oo::oo::.row (.l 8)::oD (oC (oo::(.p (.sl 9 (ltE o))::.p (int (o.length:Nat))::.p (int (k:Nat))::oG (oE (oB (oo::[])))))))∧L=[(.l 3,.box [.p (.sl 3 (parE P)),.p (.sl 3 (parE D)),.p (.sl 1 (strE Ts)),.p (.sl 1 (strE X))] qaN),(.l 8,.row (lrE q) tRow 8 true)]) (o.length) (oo::oo::.p (.sl 2 [])::.adr (.l 3) 0::oo::oo::oo::oo::.row (.l 8)::oD (oC (oo::(.p (.sl 9 (ltE o))::.p (int (o.length:Nat))::.p (int (0:Nat))::oG (oE (oB (oo::[]))))))) [(.l 3,.box [.p (.sl 3 (parE P)),.p (.sl 3 (parE D)),.p (.sl 1 (strE Ts)),.p (.sl 1 (strE X))] qaN),(.l 8,.row (lrE []) tRow 8 true)] (ReOk.trans (qdx (k:=.l 19) rfl) (by simp only [ZZ,WW,Ze,reduceCtorEq,zd,ze,za,zf,zb,hRn,qfI];exact qbq (by simp only [ZZ,WW,Ze,reduceCtorEq,zd,ze,za,zf,zb,qfI];try trivial) (by simp only [ZZ,WW,Ze,reduceCtorEq,zd,ze,za,zf,zb,hRn]))) ⟨0,[],by omega,by omega,by simp,(fun r hr=>by cases hr),rfl,rfl⟩ ?_
 rintro n fr L ⟨k,q,hk,rfl,hql,hqb,rfl,rfl⟩
 simp only [qdl,ZZ,WW,Ze,reduceCtorEq,zd,ze,za,zf,zb]
 refine br ?_ ?_
 ·intro h
  have hlt:k < o.length:=by have:=of_decide_eq_true h;omega
  obtain ⟨m,hx⟩:∃ m,o[k]?=some m:=⟨_,zk hlt⟩
  have hg:=qrx hx
  simp only [ltV] at hg
  have hmm:=hom m (List.mem_of_getElem? hx)
  simp only [ZZ,WW,Ze,reduceCtorEq,zd,ze,za,zf,zb,hg,qfI]
  ((with_reducible and_intros)<;>try exact sc_)
  refine qad (fun n fr L=>fr=(oo::oo::.p (.sl 2 [])::.adr (.l 3) 0::oo::oo::oo::oo::.row (.l 8)::oo::.adr (.l 10) 0::.p (int 0)::oD (oB (.p (.sl 9 (ltE o))::.p (int (o.length:Nat))::.p (int (k:Nat))::oo::oo::oo::oo::.p (int 0)::.p (int 0)::oG (oD (oC (oo::[]))))))∧L=[(.l 3,.box [.p (.sl 3 (parE P)),.p (.sl 3 (parE D)),.p (.sl 1 (strE Ts)),.p (.sl 1 (strE X))] qaN),(.l 8,.row (lrE q) tRow 8 true),(.l 10,.box [.p (.str m.id),.p (int m.at_),.p (.str m.fr.1),.p (.str m.fr.2),.p (.sl 2 (adrE m.tos)),.p (.sl 2 (adrE m.ccs)),.p (.sl 1 (strE m.refs)),.p (.str m.sub),.p (.str m.body)] qax)]) 0 (oo::oo::.p (.sl 2 [])::.adr (.l 3) 0::oo::oo::oo::oo::.row (.l 8)::oo::.adr (.l 10) 0::.p (int 0)::oD (oB (.p (.sl 9 (ltE o))::.p (int (o.length:Nat))::.p (int (k:Nat))::oo::oo::oo::oo::.p (int 0)::.p (int 0)::oG (oD (oC (oo::[])))))) [(.l 3,.box [.p (.sl 3 (parE P)),.p (.sl 3 (parE D)),.p (.sl 1 (strE Ts)),.p (.sl 1 (strE X))] qaN),(.l 8,.row (lrE q) tRow 8 true),(.l 10,.box [.p (.str m.id),.p (int m.at_),.p (.str m.fr.1),.p (.str m.fr.2),.p (.sl 2 (adrE m.tos)),.p (.sl 2 (adrE m.ccs)),.p (.sl 1 (strE m.refs)),.p (.str m.sub),.p (.str m.body)] qax)] zF_ zE_ ⟨rfl,rfl⟩ ?_
  rintro n fr L ⟨rfl,rfl⟩
  simp only [qdk,ZZ,WW,Ze,reduceCtorEq,zd,ze,za,zf,zb]
  refine br (fun h=>by simp at h) (fun _=>?_)
  refine zS ?_
  have hcm:=hcal m hmm
  have hdm:=hdes m hmm
  have hdl:=qtZ P D Ts m (by have:=hmm.b4;have:=hmm.b6;simp;omega) hB.h6
  have hkd:=qt5 P D Ts X m
  generalize (ql0 P D Ts X m).1=kd at *
  generalize (ql0 P D Ts X m).2=wy at *
  refine use1 hcm rfl (.inl rfl) ?_
  refine zS ?_
  have e1:∀ b:Bool,b=false→(!b)=true:=by decide
  refine ⟨fun h=>⟨h,fun h2=>by rw [h,h2];rfl⟩,e1 _,?_⟩
  refine br ?_ ?_
  ·intro _
   refine zS ?_
   refine qae zE_ ?_
   refine zS ?_
   refine ⟨qai (by omega) (by omega),?_⟩
   refine qab (o.length - (k+1)) (oo::oo::.p (.sl 2 [])::.adr (.l 3) 0::oo::oo::oo::oo::.row (.l 8)::oD (oC (oo::(.p (.sl 9 (ltE o))::.p (int (o.length:Nat))::.p (int ((k+1):Nat))::oG (oE (oB (oo::[]))))))) [(.l 3,.box [.p (.sl 3 (parE P)),.p (.sl 3 (parE D)),.p (.sl 1 (strE Ts)),.p (.sl 1 (strE X))] qaN),(.l 8,.row (lrE q) tRow 8 true)] (by omega) zF_ zF_ ⟨k+1,q,by omega,rfl,by omega,hqb,rfl,rfl⟩
  intro h7
  have hk2:decide (kd=2)=false:=by
   rw [Bool.or_eq_false_iff,Bool.and_eq_false_iff] at h7
   rcases h7.2 with h|h
   ·exact h
   ·simp at h
  refine zS ?_
  refine drg1 (x1:=.str (desF P D Ts m)) ?_
  simp only [ZZ,WW,Ze,reduceCtorEq,zd,ze,za,zf,zb,qav]
  refine ⟨qai (by omega) (by omega),fun L'=>usep hdm rfl (.inl rfl),?_⟩
  refine br (fun h=>by rw [hk2] at h;cases h) (fun _=>?_)
  refine zS ?_
  refine qae zE_ ?_
  refine zS ?_
  have hAl:(m.tos++m.ccs).length≤200:=by have:=hmm.b4;have:=hmm.b6;simp;omega
  have hb:∀ a∈m.tos++m.ccs,a.2.length≤30000:=fun a ha=>(zp.1 ha).elim (fun h=>(hmm.b5 a h).2) (fun h=>(hmm.b7 a h).2)
  have hcat:=qiE (E:=E6) [m.tos,m.ccs] (by simp) (by have:=hmm.b4;have:=hmm.b6;simp [qgE];omega)
  rw [cat2] at hcat
  refine useF hcat rfl rfl ?_
  rintro es rfl
  generalize m.tos++m.ccs=A at *
  simp only [ZZ,WW,Ze,reduceCtorEq,zd,ze,za,zf,zb,qaY]
  refine qis (fun n fr L=>∃ j,j≤A.length∧n=A.length - j∧fr=(oo::oo::.p (.sl 2 [])::.adr (.l 3) 0::oo::oo::oo::oo::.row (.l 8)::oC (oB (.adr (.l 15) 0::oC (oB (.p (.sl 9 (ltE o))::.p (int (o.length:Nat))::.p (int (k:Nat))::oF (oE (oD (oB (oo::(.p (.sl 2 (adrE A))::.p (int (A.length:Nat))::.p (int (j:Nat))::oE (oC (oo::[]))))))))))))∧L=([(.l 3,.box [.p (.sl 3 (parE P)),.p (.sl 3 (parE D)),.p (.sl 1 (strE Ts)),.p (.sl 1 (strE X))] qaN),(.l 8,.row (lrE q) tRow 8 true),(.l 15,.box [.p (int ((q.length:Nat)+1)),.p (.str m.id),.p (int m.at_),.p (.str m.fr.2),cSt 95 ((A.take j).map (·.2)),.p (int kd),.p (.str (desF P D Ts m)),.p (int 0)] tRow)]++oSt 95 ((A.take j).map (·.2)))) A.length (oo::oo::.p (.sl 2 [])::.adr (.l 3) 0::oo::oo::oo::oo::.row (.l 8)::oC (oB (.adr (.l 15) 0::oC (oB (.p (.sl 9 (ltE o))::.p (int (o.length:Nat))::.p (int (k:Nat))::oF (oE (oD (oB (oo::(.p (.sl 2 (adrE A))::.p (int (A.length:Nat))::.p (int (0:Nat))::oE (oC (oo::[])))))))))))) ([(.l 3,.box [.p (.sl 3 (parE P)),.p (.sl 3 (parE D)),.p (.sl 1 (strE Ts)),.p (.sl 1 (strE X))] qaN),(.l 8,.row (lrE q) tRow 8 true),(.l 15,.box [.p (int ((q.length:Nat)+1)),.p (.str m.id),.p (int m.at_),.p (.str m.fr.2),cSt 95 [],.p (int kd),.p (.str (desF P D Ts m)),.p (int 0)] tRow)]++oSt 95 []) (ReOk.trans (qdx (k:=.l 84) rfl) (by simp only [ZZ,WW,Ze,reduceCtorEq,zd,ze,za,zf,zb];exact qbq (by simp only [ZZ,WW,Ze,reduceCtorEq,zd,ze,za,zf,zb,qaY];try trivial) (by simp only [ZZ,WW,Ze,reduceCtorEq,zd,ze,za,zf,zb,cSt,oSt]))) ⟨0,by omega,by omega,rfl,rfl⟩ ?_
  rintro n fr L ⟨j,hj,rfl,rfl,rfl⟩
  simp only [qdj,ZZ,WW,Ze,reduceCtorEq,zd,ze,za,zf,zb]
  refine br ?_ ?_
  ·intro h8
   have hlt2:j < A.length:=by have:=of_decide_eq_true h8;omega
   obtain ⟨x,hx2⟩:∃ x,A[j]?=some x:=⟨_,zk hlt2⟩
   have hg2:=qmh hx2
   have htn:=qeO (fun a:AdT=>a.2) hx2
   have htl:((A.take j).map (·.2)).length≤200:=by simp;omega
   generalize hT:(A.take j).map (·.2)=T at *
   rcases T with _|⟨t0,tr⟩
   ·simp only [cSt,oSt,ZZ,WW,Ze,reduceCtorEq,zd,ze,za,zf,zb]
    simp only [ZZ,WW,Ze,reduceCtorEq,zd,ze,za,zf,zb,hg2,qaY,qac]
    refine ⟨⟨by omega,by omega⟩,hlt2,qai (by omega) (by omega),?_⟩
    exact qab (A.length - (j+1)) (oo::oo::.p (.sl 2 [])::.adr (.l 3) 0::oo::oo::oo::oo::.row (.l 8)::oC (oB (.adr (.l 15) 0::oC (oB (.p (.sl 9 (ltE o))::.p (int (o.length:Nat))::.p (int (k:Nat))::oF (oE (oD (oB (oo::(.p (.sl 2 (adrE A))::.p (int (A.length:Nat))::.p (int ((j+1):Nat))::oE (oC (oo::[])))))))))))) ([(.l 3,.box [.p (.sl 3 (parE P)),.p (.sl 3 (parE D)),.p (.sl 1 (strE Ts)),.p (.sl 1 (strE X))] qaN),(.l 8,.row (lrE q) tRow 8 true),(.l 15,.box [.p (int ((q.length:Nat)+1)),.p (.str m.id),.p (int m.at_),.p (.str m.fr.2),cSt 95 ([]++[x.2]),.p (int kd),.p (.str (desF P D Ts m)),.p (int 0)] tRow)]++oSt 95 ([]++[x.2])) (by omega) zF_ (by simp only [ZZ,WW,Ze,reduceCtorEq,zd,ze,za,zf,zb,cSt,oSt,strE,zF]) ⟨j+1,by omega,rfl,rfl,by rw [htn];rfl⟩
   ·simp only [cSt,oSt,ZZ,WW,Ze,reduceCtorEq,zd,ze,za,zf,zb]
    simp only [zl] at htl
    simp only [ZZ,WW,Ze,reduceCtorEq,zd,ze,za,zf,zb,hg2,qaY,qac,zl]
    refine ⟨⟨by omega,by omega⟩,hlt2,by omega,qai (by omega) (by omega),?_⟩
    exact qab (A.length - (j+1)) (oo::oo::.p (.sl 2 [])::.adr (.l 3) 0::oo::oo::oo::oo::.row (.l 8)::oC (oB (.adr (.l 15) 0::oC (oB (.p (.sl 9 (ltE o))::.p (int (o.length:Nat))::.p (int (k:Nat))::oF (oE (oD (oB (oo::(.p (.sl 2 (adrE A))::.p (int (A.length:Nat))::.p (int ((j+1):Nat))::oE (oC (oo::[])))))))))))) ([(.l 3,.box [.p (.sl 3 (parE P)),.p (.sl 3 (parE D)),.p (.sl 1 (strE Ts)),.p (.sl 1 (strE X))] qaN),(.l 8,.row (lrE q) tRow 8 true),(.l 15,.box [.p (int ((q.length:Nat)+1)),.p (.str m.id),.p (int m.at_),.p (.str m.fr.2),cSt 95 ((t0 :: tr)++[x.2]),.p (int kd),.p (.str (desF P D Ts m)),.p (int 0)] tRow)]++oSt 95 ((t0 :: tr)++[x.2])) (by omega) zF_ (by simp only [ZZ,WW,Ze,reduceCtorEq,zd,ze,za,zf,zb,cSt,oSt,strE,zF]) ⟨j+1,by omega,rfl,rfl,by rw [htn];rfl⟩
  ·intro h8
   have hge2:A.length≤j:=by have:=of_decide_eq_false h8;omega
   rw [List.take_of_length_le hge2]
   have hTl:(A.map (·.2)).length≤200:=by simp;omega
   have hTb:∀ s∈A.map (·.2),s.length≤30000:=fun s hs=>by obtain ⟨a,ha,rfl⟩:=List.mem_map.1 hs;exact hb a ha
   generalize A.map (·.2)=T at *
   have hso:=qmC (E:=E6) T (by omega)
   have hsl:=qmD T
   obtain ⟨r,hrd⟩:∃ r:Lr,r=⟨(q.length:Nat)+1,m.id,m.at_,m.fr.2,qj4 T,kd,desF P D Ts m,0⟩:=⟨_,rfl⟩
   have hr:LrT r:=by
    rw [hrd]
    have c1:=hmm.b1
    have c3:=hmm.b3
    have c12:=hmm.b12
    exact ⟨by show m.id.length≤_;omega,by show m.fr.2.length≤_;omega,by show (qj4 T).length≤_;omega,fun s hs=>by have:=hTb s ((qks T s).1 hs);omega,by show (desF P D Ts m).length≤_;omega,by show _≤((q.length:Nat):Int)+1∧((q.length:Nat):Int)+1≤_;omega,by show _≤m.at_∧m.at_≤_;omega,by show _≤(0:Int)∧(0:Int)≤_;omega,by show _≤kd∧kd≤_;omega⟩
   have hrn:0≤r.no∧r.no≤100000∧r.tos.length≤200:=by rw [hrd];show 0≤((q.length:Nat):Int)+1∧((q.length:Nat):Int)+1≤_∧(qj4 T).length≤_;omega
   have happ:lrE q++[[int ((q.length:Nat)+1),.str m.id,int m.at_,.str m.fr.2,.sl 1 (strE (qj4 T)),int kd,.str (desF P D Ts m),int 0]]=lrE (q++[r]):=by
    rw [← qjg,hrd]
   rcases T with _|⟨t0,tr⟩
   ·simp only [cSt,oSt,ZZ,WW,Ze,reduceCtorEq,zd,ze,za,zf,zb]
    rw [qky]
    refine ⟨_,_,ReOk.refl,?_⟩
    refine zS ?_
    refine use1 hso rfl (.inl rfl) ?_
    refine zS ?_
    refine ⟨by rw [qav];omega,?_⟩
    rw [happ]
    refine qae zE_ ?_
    refine zS ?_
    refine ⟨qai (by omega) (by omega),?_⟩
    refine qab (o.length - (k+1)) (oo::oo::.p (.sl 2 [])::.adr (.l 3) 0::oo::oo::oo::oo::.row (.l 8)::oD (oC (oo::(.p (.sl 9 (ltE o))::.p (int (o.length:Nat))::.p (int ((k+1):Nat))::oG (oE (oB (oo::[]))))))) [(.l 3,.box [.p (.sl 3 (parE P)),.p (.sl 3 (parE D)),.p (.sl 1 (strE Ts)),.p (.sl 1 (strE X))] qaN),(.l 8,.row (lrE (q++[r])) tRow 8 true)] (by omega) zF_ zF_ ⟨k+1,q++[r],by omega,rfl,by rw [zm];simp only [zl,zr];omega,(fun y hy=>by rcases zp.1 hy with hy|hy;exact hqb y hy;rw [zu] at hy;rw [hy];exact ⟨hr,hrn⟩),rfl,rfl⟩
   ·simp only [cSt,oSt,ZZ,WW,Ze,reduceCtorEq,zd,ze,za,zf,zb]
    rw [qky]
    refine ⟨_,_,qdx (k:=.l 95) rfl,?_⟩
    refine zS ?_
    refine use1 hso rfl (.inl rfl) ?_
    refine zS ?_
    refine ⟨by rw [qav];omega,?_⟩
    rw [happ]
    refine qae zE_ ?_
    refine zS ?_
    refine ⟨qai (by omega) (by omega),?_⟩
    refine qab (o.length - (k+1)) (oo::oo::.p (.sl 2 [])::.adr (.l 3) 0::oo::oo::oo::oo::.row (.l 8)::oD (oC (oo::(.p (.sl 9 (ltE o))::.p (int (o.length:Nat))::.p (int ((k+1):Nat))::oG (oE (oB (oo::[]))))))) [(.l 3,.box [.p (.sl 3 (parE P)),.p (.sl 3 (parE D)),.p (.sl 1 (strE Ts)),.p (.sl 1 (strE X))] qaN),(.l 8,.row (lrE (q++[r])) tRow 8 true)] (by omega) zF_ zF_ ⟨k+1,q++[r],by omega,rfl,by rw [zm];simp only [zl,zr];omega,(fun y hy=>by rcases zp.1 hy with hy|hy;exact hqb y hy;rw [zu] at hy;rw [hy];exact ⟨hr,hrn⟩),rfl,rfl⟩
 ·intro h
  have hge:o.length≤k:=by have:=of_decide_eq_false h;omega
  refine zS ?_
  exact qke 8 _ rfl rfl ⟨q,rfl,by omega,hqb⟩
end Go.Proofs.YtjgdjinhkgjpeabGreatDoor
