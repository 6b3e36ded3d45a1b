import Derived.Test.YtehfjlpenlffmaaGreatDoorZ10
import Derived.Test.YtehfjlpenlffmaaGreatDoorZ8
set_option linter.unusedVariables false
set_option linter.unusedSimpArgs false
set_option linter.defProp false
namespace Go.Proofs.YtehfjlpenlffmaaGreatDoor
open Go.RowKit
def ir_chasemake_Stream_Letter_L1:IC:=(.seq (.reg [qO 62 (.bin .lss (.t 61) (.t 60))]) (.seq (.cond (.t 62) .skip (.exit 2)) (.seq (.block 3 (.seq (.reg [qM 63 0,qO 64 (.bsr 9 1 [.c (.str [103,111,110,101,49]),.c (.str [103,111,110,101,50])]),qM 65 3,qO 66 (.app 9 1 16 (.t 64) (.t 65)),⟨none,.fz (.t 66),none⟩,qO 67 (.call 42 [.t 63,.t 66]),qM 12 67]) (.seq (.reg [qM 68 12,qM 69 1,qO 70 (.bin .neq (.t 68) (.t 69)),qM 71 70,⟨some 72,.fla 6 (.t 9),(some (71,true))⟩,⟨some 73,.ld 1 false (.t 72),(some (71,true))⟩,⟨some 74,.mov (.t 12),(some (71,true))⟩,⟨some 75,.call 94 [.t 73,.t 74],(some (71,true))⟩,⟨some 76,.not (.t 75),(some (71,true))⟩,qO 77 (.pick (.t 71) (.t 76) (.c (.bool false)))]) (.cond (.t 77) (.reg [qO 78 (.fla 6 (.t 9)),qO 79 (.ld 1 false (.t 78)),qM 80 12,⟨none,.fz (.t 80),none⟩,qO 81 (.bsl 1 [.t 80]),qO 82 (.app 9 1 16 (.t 79) (.t 81)),qO 83 (.fla 6 (.t 9)),⟨none,.st 1 (.t 83) (.t 82),none⟩]) .skip)))) (.cut (.reg [qO 84 (.bin .add (.t 61) (.c (.int .i64 1))),qM 61 84])))))
def ir_chasemake_Stream_Letter_L0:IC:=(.seq (.reg [qO 31 (.bin .lss (.t 30) (.t 29))]) (.seq (.cond (.t 31) .skip (.exit 0)) (.seq (.block 1 (.seq (.reg [qM 32 0,qO 33 (.call 92 []),qO 34 (.call 42 [.t 32,.t 33]),⟨none,.fz (.t 34),none⟩,qO 35 (.bld [.str [],.str []] [(1,1,.t 34)]),qO 11 (.alc 56 [.str [],.str []]),⟨none,.st 2 (.t 11) (.t 35),none⟩]) (.seq (.seq (.reg [qM 36 10,qO 37 (.fla 1 (.t 11)),qO 38 (.ld 1 false (.t 37)),qO 39 (.mpl false (.bool false) (.t 36) (.t 38))]) (.cond (.t 39) (.exit 1) .skip)) (.seq (.reg [qM 40 10,qO 41 (.fla 1 (.t 11)),qO 42 (.ld 1 false (.t 41)),⟨none,.mpu (.t 40) (.t 42) (.c (.bool true)),none⟩]) (.seq (.reg [qM 43 0,qO 44 (.call 9 [.t 43,.c (.int .i64 3)])]) (.cond (.t 44) (.reg [qO 45 (.fla 5 (.t 9)),qO 46 (.ld 1 false (.t 45)),qO 47 (.ld 2 true (.t 11)),qO 48 (.bsl 2 [.t 47]),qO 49 (.app 56 2 32 (.t 46) (.t 48)),qO 50 (.fla 5 (.t 9)),⟨none,.st 1 (.t 50) (.t 49),none⟩]) (.reg [qO 51 (.fla 4 (.t 9)),qO 52 (.ld 1 false (.t 51)),qO 53 (.ld 2 true (.t 11)),qO 54 (.bsl 2 [.t 53]),qO 55 (.app 56 2 32 (.t 52) (.t 54)),qO 56 (.fla 4 (.t 9)),⟨none,.st 1 (.t 56) (.t 55),none⟩]))))))) (.cut (.reg [qO 57 (.bin .add (.t 30) (.c (.int .i64 1))),qM 30 57])))))
def ir_chasemake_Stream_Letter:IC:=(.seq (.reg [qO 8 (.alc 60 [.str [],.int .i64 0,.str [],.str [],.nl 2,.nl 2,.nl 1,.str [],.str []])]) (.seq (.reg [qM 13 1,qM 14 2,qM 15 0,qO 16 (.call 92 []),qO 17 (.call 42 [.t 15,.t 16]),⟨none,.fz (.t 17),none⟩,qO 18 (.bld [.str [],.str []] [(1,1,.t 17)]),qM 19 0,qO 20 (.call 93 [.t 19]),⟨none,.fz (.t 20),none⟩,qO 21 (.bld [.str [],.int .i64 0,.str [],.str [],.nl 2,.nl 2,.nl 1,.str [],.str []] [(0,1,.t 13),(1,1,.t 14),(2,2,.t 18),(8,1,.t 20)]),qO 9 (.alc 60 [.str [],.int .i64 0,.str [],.str [],.nl 2,.nl 2,.nl 1,.str [],.str []]),⟨none,.st 9 (.t 9) (.t 21),none⟩]) (.seq (.reg [qM 22 0,qO 23 (.bsl 1 [.c (.str []),.c (.str []),.c (.str [65,110,110,32,76,101,101]),.c (.str [195,137,97])]),qO 24 (.call 42 [.t 22,.t 23]),qO 25 (.fla 2 (.t 9)),qO 26 (.fla 0 (.t 25)),⟨none,.st 1 (.t 26) (.t 24),none⟩]) (.seq (.reg [qO 27 (.mkm 9 4),qM 10 27]) (.seq (.seq (.reg [qM 28 0,qO 29 (.call 19 [.t 28,.c (.int .i64 0),.c (.int .i64 3)]),qO 30 (.mov (.c (.int .i64 0)))]) (.block 0 (.loop ir_chasemake_Stream_Letter_L0))) (.seq (.seq (.reg [qM 58 0,⟨none,.re,none⟩,qO 59 (.bsl 1 [.c (.int .i64 0),.c (.int .i64 0),.c (.int .i64 1),.c (.int .i64 1),.c (.int .i64 2)]),qO 60 (.call 43 [.t 58,.t 59]),qO 61 (.mov (.c (.int .i64 0)))]) (.block 2 (.loop ir_chasemake_Stream_Letter_L1))) (.seq (.reg [qM 85 0,⟨none,.re,none⟩,qO 86 (.bsl 1 [.c (.str []),.c (.str [76,117,110,99,104]),.c (.str [82,101,58,32,76,117,110,99,104]),.c (.str [82,69,58,32,70,119,100,58,32,108,117,110,99,104]),.c (.str [76,101,103,97,108,32,97,100,118,105,99,101]),.c (.str [82,101,58,32,108,101,103,97,108,32,32,97,100,118,105,99,101]),.c (.str [79,116,104,101,114])]),qO 87 (.call 42 [.t 85,.t 86]),qO 88 (.fla 7 (.t 9)),⟨none,.st 1 (.t 88) (.t 87),none⟩]) (.seq (.reg [qO 89 (.fla 7 (.t 9)),qO 90 (.ld 1 false (.t 89)),qO 91 (.call 96 [.t 90]),qO 92 (.call 95 [.t 91,.c (.str [32])]),qO 93 (.fla 7 (.t 9)),⟨none,.st 1 (.t 93) (.t 92),none⟩]) (.seq (.reg [qO 94 (.ld 9 true (.t 9)),⟨none,.st 9 (.t 8) (.t 94),none⟩]) .ret)))))))))
def rs_chasemake_Stream_Letter:List IRes:=[.c 8 9 true]
theorem ck_chasemake_Stream_Letter:chkF Tryz.prog Tryz.f27 ir_chasemake_Stream_Letter rs_chasemake_Stream_Letter 95=true:=by kernel_rfl
def cT (q:Nat):List AdT→AV
 |[]=>.p (.nl 2)
 |_ :: _=>.row (.l q)
def oT (q:Nat):List AdT→Objs
 |[]=>[]
 |a :: r=>[(.l q,.row (adrE (a :: r)) tAdr 2 true)]
def pT:List AdT→PV
 |[]=>.nl 2
 |a :: r=>.sl 2 (adrE (a :: r))
abbrev tStrW:Nat:=9
def cSt (q:Nat):List (List UInt8)→AV
 |[]=>.p (.nl 1)
 |_ :: _=>.row (.l q)
def oSt (q:Nat):List (List UInt8)→Objs
 |[]=>[]
 |a :: r=>[(.l q,.row (strE (a :: r)) tStrW 1 true)]
def pSt:List (List UInt8)→PV
 |[]=>.nl 1
 |a :: r=>.sl 1 (strE (a :: r))
def nmA:List (List UInt8):=[[],[],[65,110,110,32,76,101,101],[195,137,97]]
theorem nmA_len:∀ s∈nmA,s.length≤30000:=by decide
def sjA:List (List UInt8):=[[],[76,117,110,99,104],[82,101,58,32,76,117,110,99,104],[82,69,58,32,70,119,100,58,32,108,117,110,99,104],[76,101,103,97,108,32,97,100,118,105,99,101],[82,101,58,32,108,101,103,97,108,32,32,97,100,118,105,99,101],[79,116,104,101,114]]
theorem sjA_ok:∀ s∈sjA,s.length≤100∧s.all (fun b=>decide (b.toNat < 128))=true∧(Lib.fields s).length≤1000∧(Lib.join (Lib.fields s) [32]).length≤30000:=by decide +kernel
def gnA:List (List UInt8):=[[103,111,110,101,49],[103,111,110,101,50]]
set_option maxHeartbeats 4000000 in
set_option maxRecDepth 100000 in
theorem Letter_ok (l:List Int) (k:Nat) (id:List UInt8) (at_:Int) (ids:List (List UInt8)) (hid:id.length≤100) (hids:ids.length≤100) (hib:∀ s∈ids,s.length≤100) (hk:k≤800000) (hl:l.length≤9223372036854775807) :
  SCall Tryz.prog E6 27 T (stm l k) [.str id,int at_,.sl 1 (strE ids)] (fun x cs'=>∃ m k',x=.agg (ltV m)∧LtM 10 m∧cs'=stm l k'∧k'≤k+100):=by
 unfold SCall
 refine gcallP mixed Tryz.func27 ck_chasemake_Stream_Letter ?_
 simp only [a0,l0,OS.ao,List.map_cons,List.map_nil,List.length_cons,List.length_nil,List.cons_append,List.nil_append,Nat.reduceSub,Nat.reduceAdd,List.replicate_succ,List.replicate_zero,ir_chasemake_Stream_Letter,rs_chasemake_Stream_Letter,ZZ,WW,Ze,reduceCtorEq,Nat.reduceAdd,Nat.reduceMul,Nat.reduceLeDiff,Nat.reduceLT,Nat.reduceEqDiff]
 refine use1 people_ok rfl (.inl rfl) ?_
 simp only [ZZ,WW,Ze,reduceCtorEq,Nat.reduceAdd,Nat.reduceMul,Nat.reduceLeDiff,Nat.reduceLT,Nat.reduceEqDiff]
 refine useS (one_ok l k peA (by omega) hl (by decide) (by decide)) rfl rfl rfl zE_ ?_
 rintro x cs' ⟨f,rfl,hf,rfl⟩
 have hf:=peA_len f hf
 simp only [ZZ,WW,Ze,reduceCtorEq,Nat.reduceAdd,Nat.reduceMul,Nat.reduceLeDiff,Nat.reduceLT,Nat.reduceEqDiff]
 refine useS (body_ok l (k+1) (by omega) hl) rfl rfl rfl zE_ ?_
 rintro x cs' ⟨bd,k1,rfl,hbd,rfl,hk1⟩
 simp only [ZZ,WW,Ze,reduceCtorEq,Nat.reduceAdd,Nat.reduceMul,Nat.reduceLeDiff,Nat.reduceLT,Nat.reduceEqDiff]
 refine useS (one_ok l k1 nmA (by omega) hl (by decide) (by decide)) rfl rfl rfl zE_ ?_
 rintro x cs' ⟨nm,rfl,hnm,rfl⟩
 have hnm:=nmA_len nm hnm
 simp only [ZZ,WW,Ze,reduceCtorEq,Nat.reduceAdd,Nat.reduceMul,Nat.reduceLeDiff,Nat.reduceLT,Nat.reduceEqDiff]
 refine useS (Range_ok l (k1+1) 0 3 (by omega) hl (by decide) (by decide) (by decide)) rfl rfl rfl zE_ ?_
 rintro x cs' ⟨z,rfl,hz0,hz3,rfl⟩
 simp only [ZZ,WW,Ze,reduceCtorEq,Nat.reduceAdd,Nat.reduceMul,Nat.reduceLeDiff,Nat.reduceLT,Nat.reduceEqDiff]
 refine loop_intro (fun n fr L=>∃ (i k':Nat) (W:List (List UInt8)) (kv:List (List UInt8×PV)) (ts cc:List AdT),i≤3∧n=3 - i∧k'≤k1+2+4 * i∧setOf kv W∧ts.length≤i∧cc.length≤i∧(∀ a∈ts,a.1.length≤30000∧a.2.length≤30000)∧(∀ a∈cc,a.1.length≤30000∧a.2.length≤30000)∧fr=[.adr (.b 0) 0,.p (.str id),oo,.p (.sl 1 (strE ids)),oo,oo,oo,oo,.adr (.l 8) 0,.adr (.l 9) 0,.mp (.l 27),oo,oo,oo,oo,oo,oo,oo,oo,oo,oo,oo,oo,oo,oo,oo,oo,oo,oo,.p (int z),.p (int (i:Nat)),oo,oo,oo,oo,oo,oo,oo,oo,oo,oo,oo,oo,oo,oo,oo,oo,oo,oo,oo,oo,oo,oo,oo,oo,oo,oo,oo,oo,oo,oo,oo,oo,oo,oo,oo,oo,oo,oo,oo,oo,oo,oo,oo,oo,oo,oo,oo,oo,oo,oo,oo,oo,oo,oo,oo,oo,oo,oo,oo,oo,oo,oo,oo,oo]∧L=([(.b 0,.box ((stm l (k')).map .p) T),(.l 8,.box [.p (.str []),.p (int 0),.p (.str []),.p (.str []),.p (.nl 2),.p (.nl 2),.p (.nl 1),.p (.str []),.p (.str [])] tMail),(.l 9,.box [.p (.str id),.p (int at_),.p (.str nm),.p (.str f),cT 55 (ts),cT 49 (cc),.p (.nl 1),.p (.str []),.p (.str bd)] tMail),(.l 27,.map (kv) 9 4)]++(oT 55 (ts)++oT 49 (cc)))) 3 [.adr (.b 0) 0,.p (.str id),oo,.p (.sl 1 (strE ids)),oo,oo,oo,oo,.adr (.l 8) 0,.adr (.l 9) 0,.mp (.l 27),oo,oo,oo,oo,oo,oo,oo,oo,oo,oo,oo,oo,oo,oo,oo,oo,oo,oo,.p (int z),.p (int (0:Nat)),oo,oo,oo,oo,oo,oo,oo,oo,oo,oo,oo,oo,oo,oo,oo,oo,oo,oo,oo,oo,oo,oo,oo,oo,oo,oo,oo,oo,oo,oo,oo,oo,oo,oo,oo,oo,oo,oo,oo,oo,oo,oo,oo,oo,oo,oo,oo,oo,oo,oo,oo,oo,oo,oo,oo,oo,oo,oo,oo,oo,oo,oo,oo,oo] ([(.b 0,.box ((stm l (k1+1+1)).map .p) T),(.l 8,.box [.p (.str []),.p (int 0),.p (.str []),.p (.str []),.p (.nl 2),.p (.nl 2),.p (.nl 1),.p (.str []),.p (.str [])] tMail),(.l 9,.box [.p (.str id),.p (int at_),.p (.str nm),.p (.str f),cT 55 ([]),cT 49 ([]),.p (.nl 1),.p (.str []),.p (.str bd)] tMail),(.l 27,.map ([]) 9 4)]++(oT 55 ([])++oT 49 ([]))) (by (simp only [ZZ,WW,Ze,reduceCtorEq,Nat.reduceAdd,Nat.reduceMul,Nat.reduceLeDiff,Nat.reduceLT,Nat.reduceEqDiff];try trivial)) (by simp only [ZZ,WW,Ze,reduceCtorEq,Nat.reduceAdd,Nat.reduceMul,Nat.reduceLeDiff,Nat.reduceLT,Nat.reduceEqDiff,cT,oT]) ⟨0,k1+1+1,[],[],[],[],by omega,by omega,by omega,setOf_nil,by simp,by simp,by simp,by simp,rfl,rfl⟩ ?_
 rintro n fr L ⟨i,k',W,kv,ts,cc,hi3,rfl,hk',hkv,ht1,hc1,ht2,hc2,rfl,rfl⟩
 simp only [ir_chasemake_Stream_Letter_L0,ZZ,WW,Ze,reduceCtorEq,Nat.reduceAdd,Nat.reduceMul,Nat.reduceLeDiff,Nat.reduceLT,Nat.reduceEqDiff]
 refine br ?_ ?_
 ·intro h
  have hlt:(i:Int) < z:=of_decide_eq_true h
  rcases ts with _|⟨t0,tr⟩<;>rcases cc with _|⟨c0,cr⟩
  ·simp only [cT,oT,ZZ,WW,Ze,reduceCtorEq,Nat.reduceAdd,Nat.reduceMul,Nat.reduceLeDiff,Nat.reduceLT,Nat.reduceEqDiff]
   refine use1 people_ok rfl (.inl rfl) ?_
   simp only [ZZ,WW,Ze,reduceCtorEq,Nat.reduceAdd,Nat.reduceMul,Nat.reduceLeDiff,Nat.reduceLT,Nat.reduceEqDiff]
   refine useS (one_ok l k' peA (by omega) hl (by decide) (by decide)) rfl rfl rfl zE_ ?_
   rintro x cs' ⟨g,rfl,hg,rfl⟩
   have hg:=peA_len g hg
   simp only [ZZ,WW,Ze,reduceCtorEq,Nat.reduceAdd,Nat.reduceMul,Nat.reduceLeDiff,Nat.reduceLT,Nat.reduceEqDiff,hkv g]
   refine br ?_ ?_
   ·intro _
    simp only [ZZ,WW,Ze,reduceCtorEq,Nat.reduceAdd,Nat.reduceMul,Nat.reduceLeDiff,Nat.reduceLT,Nat.reduceEqDiff]
    refine cut_same zE_ ?_
    simp only [ZZ,WW,Ze,reduceCtorEq,Nat.reduceAdd,Nat.reduceMul,Nat.reduceLeDiff,Nat.reduceLT,Nat.reduceEqDiff]
    refine ⟨i64_of (by omega) (by omega),end_round (3 - (i+1)) [.adr (.b 0) 0,.p (.str id),oo,.p (.sl 1 (strE ids)),oo,oo,oo,oo,.adr (.l 8) 0,.adr (.l 9) 0,.mp (.l 27),oo,oo,oo,oo,oo,oo,oo,oo,oo,oo,oo,oo,oo,oo,oo,oo,oo,oo,.p (int z),.p (int ((i+1:Nat))),oo,oo,oo,oo,oo,oo,oo,oo,oo,oo,oo,oo,oo,oo,oo,oo,oo,oo,oo,oo,oo,oo,oo,oo,oo,oo,oo,oo,oo,oo,oo,oo,oo,oo,oo,oo,oo,oo,oo,oo,oo,oo,oo,oo,oo,oo,oo,oo,oo,oo,oo,oo,oo,oo,oo,oo,oo,oo,oo,oo,oo,oo,oo,oo] ([(.b 0,.box ((stm l (k'+1)).map .p) T),(.l 8,.box [.p (.str []),.p (int 0),.p (.str []),.p (.str []),.p (.nl 2),.p (.nl 2),.p (.nl 1),.p (.str []),.p (.str [])] tMail),(.l 9,.box [.p (.str id),.p (int at_),.p (.str nm),.p (.str f),cT 55 ([]),cT 49 ([]),.p (.nl 1),.p (.str []),.p (.str bd)] tMail),(.l 27,.map (kv) 9 4)]++(oT 55 ([])++oT 49 ([]))) (by omega) (by (simp only [ZZ,WW,Ze,reduceCtorEq,Nat.reduceAdd,Nat.reduceMul,Nat.reduceLeDiff,Nat.reduceLT,Nat.reduceEqDiff];try trivial)) (by simp only [ZZ,WW,Ze,reduceCtorEq,Nat.reduceAdd,Nat.reduceMul,Nat.reduceLeDiff,Nat.reduceLT,Nat.reduceEqDiff,cT,oT,adrE,adC,List.map_append]) ⟨i+1,k'+1,W,kv,[],[],by omega,rfl,by omega,hkv,(by simp only [List.length_append,List.length_cons,List.length_nil] at *;omega),(by simp only [List.length_append,List.length_cons,List.length_nil] at *;omega),ht2,hc2,rfl,rfl⟩⟩
   intro _
   simp only [ZZ,WW,Ze,reduceCtorEq,Nat.reduceAdd,Nat.reduceMul,Nat.reduceLeDiff,Nat.reduceLT,Nat.reduceEqDiff]
   refine useS (Flip_ok l (k'+1) 3 (by omega) hl (by decide)) rfl rfl rfl zE_ ?_
   rintro x cs' ⟨b,rfl,rfl⟩
   simp only [ZZ,WW,Ze,reduceCtorEq,Nat.reduceAdd,Nat.reduceMul,Nat.reduceLeDiff,Nat.reduceLT,Nat.reduceEqDiff]
   refine br ?_ ?_
   ·intro _
    simp only [ZZ,WW,Ze,reduceCtorEq,Nat.reduceAdd,Nat.reduceMul,Nat.reduceLeDiff,Nat.reduceLT,Nat.reduceEqDiff,adrE_len,List.length_cons]
    refine cut_same zE_ ?_
    simp only [ZZ,WW,Ze,reduceCtorEq,Nat.reduceAdd,Nat.reduceMul,Nat.reduceLeDiff,Nat.reduceLT,Nat.reduceEqDiff]
    refine ⟨i64_of (by omega) (by omega),end_round (3 - (i+1)) [.adr (.b 0) 0,.p (.str id),oo,.p (.sl 1 (strE ids)),oo,oo,oo,oo,.adr (.l 8) 0,.adr (.l 9) 0,.mp (.l 27),oo,oo,oo,oo,oo,oo,oo,oo,oo,oo,oo,oo,oo,oo,oo,oo,oo,oo,.p (int z),.p (int ((i+1:Nat))),oo,oo,oo,oo,oo,oo,oo,oo,oo,oo,oo,oo,oo,oo,oo,oo,oo,oo,oo,oo,oo,oo,oo,oo,oo,oo,oo,oo,oo,oo,oo,oo,oo,oo,oo,oo,oo,oo,oo,oo,oo,oo,oo,oo,oo,oo,oo,oo,oo,oo,oo,oo,oo,oo,oo,oo,oo,oo,oo,oo,oo,oo,oo,oo] ([(.b 0,.box ((stm l (k'+1+1)).map .p) T),(.l 8,.box [.p (.str []),.p (int 0),.p (.str []),.p (.str []),.p (.nl 2),.p (.nl 2),.p (.nl 1),.p (.str []),.p (.str [])] tMail),(.l 9,.box [.p (.str id),.p (int at_),.p (.str nm),.p (.str f),cT 55 ([]),cT 49 (([])++[([],g)]),.p (.nl 1),.p (.str []),.p (.str bd)] tMail),(.l 27,.map (mpS kv g (.bool true)) 9 4)]++(oT 55 ([])++oT 49 (([])++[([],g)]))) (by omega) (by (simp only [ZZ,WW,Ze,reduceCtorEq,Nat.reduceAdd,Nat.reduceMul,Nat.reduceLeDiff,Nat.reduceLT,Nat.reduceEqDiff];try trivial)) (by simp only [ZZ,WW,Ze,reduceCtorEq,Nat.reduceAdd,Nat.reduceMul,Nat.reduceLeDiff,Nat.reduceLT,Nat.reduceEqDiff,cT,oT,adrE,adC,List.map_append]) ⟨i+1,k'+1+1,W++[g],mpS kv g (.bool true),[],([])++[([],g)],by omega,rfl,by omega,setOf_put hkv g,(by simp only [List.length_append,List.length_cons,List.length_nil] at *;omega),(by simp only [List.length_append,List.length_cons,List.length_nil] at *;omega),ht2,(fun a ha=>by rcases List.mem_append.1 ha with ha|ha;exact hc2 a ha;rw [List.mem_singleton] at ha;subst ha;exact ⟨by simp,show g.length≤30000 by omega⟩),rfl,rfl⟩⟩
   ·intro _
    simp only [ZZ,WW,Ze,reduceCtorEq,Nat.reduceAdd,Nat.reduceMul,Nat.reduceLeDiff,Nat.reduceLT,Nat.reduceEqDiff,adrE_len,List.length_cons]
    refine cut_same zE_ ?_
    simp only [ZZ,WW,Ze,reduceCtorEq,Nat.reduceAdd,Nat.reduceMul,Nat.reduceLeDiff,Nat.reduceLT,Nat.reduceEqDiff]
    refine ⟨i64_of (by omega) (by omega),end_round (3 - (i+1)) [.adr (.b 0) 0,.p (.str id),oo,.p (.sl 1 (strE ids)),oo,oo,oo,oo,.adr (.l 8) 0,.adr (.l 9) 0,.mp (.l 27),oo,oo,oo,oo,oo,oo,oo,oo,oo,oo,oo,oo,oo,oo,oo,oo,oo,oo,.p (int z),.p (int ((i+1:Nat))),oo,oo,oo,oo,oo,oo,oo,oo,oo,oo,oo,oo,oo,oo,oo,oo,oo,oo,oo,oo,oo,oo,oo,oo,oo,oo,oo,oo,oo,oo,oo,oo,oo,oo,oo,oo,oo,oo,oo,oo,oo,oo,oo,oo,oo,oo,oo,oo,oo,oo,oo,oo,oo,oo,oo,oo,oo,oo,oo,oo,oo,oo,oo,oo] ([(.b 0,.box ((stm l (k'+1+1)).map .p) T),(.l 8,.box [.p (.str []),.p (int 0),.p (.str []),.p (.str []),.p (.nl 2),.p (.nl 2),.p (.nl 1),.p (.str []),.p (.str [])] tMail),(.l 9,.box [.p (.str id),.p (int at_),.p (.str nm),.p (.str f),cT 55 (([])++[([],g)]),cT 49 ([]),.p (.nl 1),.p (.str []),.p (.str bd)] tMail),(.l 27,.map (mpS kv g (.bool true)) 9 4)]++(oT 55 (([])++[([],g)])++oT 49 ([]))) (by omega) (by (simp only [ZZ,WW,Ze,reduceCtorEq,Nat.reduceAdd,Nat.reduceMul,Nat.reduceLeDiff,Nat.reduceLT,Nat.reduceEqDiff];try trivial)) (by simp only [ZZ,WW,Ze,reduceCtorEq,Nat.reduceAdd,Nat.reduceMul,Nat.reduceLeDiff,Nat.reduceLT,Nat.reduceEqDiff,cT,oT,adrE,adC,List.map_append]) ⟨i+1,k'+1+1,W++[g],mpS kv g (.bool true),([])++[([],g)],[],by omega,rfl,by omega,setOf_put hkv g,(by simp only [List.length_append,List.length_cons,List.length_nil] at *;omega),(by simp only [List.length_append,List.length_cons,List.length_nil] at *;omega),(fun a ha=>by rcases List.mem_append.1 ha with ha|ha;exact ht2 a ha;rw [List.mem_singleton] at ha;subst ha;exact ⟨by simp,show g.length≤30000 by omega⟩),hc2,rfl,rfl⟩⟩
  ·simp only [cT,oT,ZZ,WW,Ze,reduceCtorEq,Nat.reduceAdd,Nat.reduceMul,Nat.reduceLeDiff,Nat.reduceLT,Nat.reduceEqDiff]
   simp only [List.length_cons] at hc1
   refine use1 people_ok rfl (.inl rfl) ?_
   simp only [ZZ,WW,Ze,reduceCtorEq,Nat.reduceAdd,Nat.reduceMul,Nat.reduceLeDiff,Nat.reduceLT,Nat.reduceEqDiff]
   refine useS (one_ok l k' peA (by omega) hl (by decide) (by decide)) rfl rfl rfl zE_ ?_
   rintro x cs' ⟨g,rfl,hg,rfl⟩
   have hg:=peA_len g hg
   simp only [ZZ,WW,Ze,reduceCtorEq,Nat.reduceAdd,Nat.reduceMul,Nat.reduceLeDiff,Nat.reduceLT,Nat.reduceEqDiff,hkv g]
   refine br ?_ ?_
   ·intro _
    simp only [ZZ,WW,Ze,reduceCtorEq,Nat.reduceAdd,Nat.reduceMul,Nat.reduceLeDiff,Nat.reduceLT,Nat.reduceEqDiff]
    refine cut_same zE_ ?_
    simp only [ZZ,WW,Ze,reduceCtorEq,Nat.reduceAdd,Nat.reduceMul,Nat.reduceLeDiff,Nat.reduceLT,Nat.reduceEqDiff]
    refine ⟨i64_of (by omega) (by omega),end_round (3 - (i+1)) [.adr (.b 0) 0,.p (.str id),oo,.p (.sl 1 (strE ids)),oo,oo,oo,oo,.adr (.l 8) 0,.adr (.l 9) 0,.mp (.l 27),oo,oo,oo,oo,oo,oo,oo,oo,oo,oo,oo,oo,oo,oo,oo,oo,oo,oo,.p (int z),.p (int ((i+1:Nat))),oo,oo,oo,oo,oo,oo,oo,oo,oo,oo,oo,oo,oo,oo,oo,oo,oo,oo,oo,oo,oo,oo,oo,oo,oo,oo,oo,oo,oo,oo,oo,oo,oo,oo,oo,oo,oo,oo,oo,oo,oo,oo,oo,oo,oo,oo,oo,oo,oo,oo,oo,oo,oo,oo,oo,oo,oo,oo,oo,oo,oo,oo,oo,oo] ([(.b 0,.box ((stm l (k'+1)).map .p) T),(.l 8,.box [.p (.str []),.p (int 0),.p (.str []),.p (.str []),.p (.nl 2),.p (.nl 2),.p (.nl 1),.p (.str []),.p (.str [])] tMail),(.l 9,.box [.p (.str id),.p (int at_),.p (.str nm),.p (.str f),cT 55 ([]),cT 49 (c0 :: cr),.p (.nl 1),.p (.str []),.p (.str bd)] tMail),(.l 27,.map (kv) 9 4)]++(oT 55 ([])++oT 49 (c0 :: cr))) (by omega) (by (simp only [ZZ,WW,Ze,reduceCtorEq,Nat.reduceAdd,Nat.reduceMul,Nat.reduceLeDiff,Nat.reduceLT,Nat.reduceEqDiff];try trivial)) (by simp only [ZZ,WW,Ze,reduceCtorEq,Nat.reduceAdd,Nat.reduceMul,Nat.reduceLeDiff,Nat.reduceLT,Nat.reduceEqDiff,cT,oT,adrE,adC,List.map_append]) ⟨i+1,k'+1,W,kv,[],c0 :: cr,by omega,rfl,by omega,hkv,(by simp only [List.length_append,List.length_cons,List.length_nil] at *;omega),(by simp only [List.length_append,List.length_cons,List.length_nil] at *;omega),ht2,hc2,rfl,rfl⟩⟩
   intro _
   simp only [ZZ,WW,Ze,reduceCtorEq,Nat.reduceAdd,Nat.reduceMul,Nat.reduceLeDiff,Nat.reduceLT,Nat.reduceEqDiff]
   refine useS (Flip_ok l (k'+1) 3 (by omega) hl (by decide)) rfl rfl rfl zE_ ?_
   rintro x cs' ⟨b,rfl,rfl⟩
   simp only [ZZ,WW,Ze,reduceCtorEq,Nat.reduceAdd,Nat.reduceMul,Nat.reduceLeDiff,Nat.reduceLT,Nat.reduceEqDiff]
   refine br ?_ ?_
   ·intro _
    simp only [ZZ,WW,Ze,reduceCtorEq,Nat.reduceAdd,Nat.reduceMul,Nat.reduceLeDiff,Nat.reduceLT,Nat.reduceEqDiff,adrE_len,List.length_cons]
    ((repeat' (with_reducible apply And.intro))<;>try ((exact sc_)))
    refine cut_same zE_ ?_
    simp only [ZZ,WW,Ze,reduceCtorEq,Nat.reduceAdd,Nat.reduceMul,Nat.reduceLeDiff,Nat.reduceLT,Nat.reduceEqDiff]
    refine ⟨i64_of (by omega) (by omega),end_round (3 - (i+1)) [.adr (.b 0) 0,.p (.str id),oo,.p (.sl 1 (strE ids)),oo,oo,oo,oo,.adr (.l 8) 0,.adr (.l 9) 0,.mp (.l 27),oo,oo,oo,oo,oo,oo,oo,oo,oo,oo,oo,oo,oo,oo,oo,oo,oo,oo,.p (int z),.p (int ((i+1:Nat))),oo,oo,oo,oo,oo,oo,oo,oo,oo,oo,oo,oo,oo,oo,oo,oo,oo,oo,oo,oo,oo,oo,oo,oo,oo,oo,oo,oo,oo,oo,oo,oo,oo,oo,oo,oo,oo,oo,oo,oo,oo,oo,oo,oo,oo,oo,oo,oo,oo,oo,oo,oo,oo,oo,oo,oo,oo,oo,oo,oo,oo,oo,oo,oo] ([(.b 0,.box ((stm l (k'+1+1)).map .p) T),(.l 8,.box [.p (.str []),.p (int 0),.p (.str []),.p (.str []),.p (.nl 2),.p (.nl 2),.p (.nl 1),.p (.str []),.p (.str [])] tMail),(.l 9,.box [.p (.str id),.p (int at_),.p (.str nm),.p (.str f),cT 55 ([]),cT 49 ((c0 :: cr)++[([],g)]),.p (.nl 1),.p (.str []),.p (.str bd)] tMail),(.l 27,.map (mpS kv g (.bool true)) 9 4)]++(oT 55 ([])++oT 49 ((c0 :: cr)++[([],g)]))) (by omega) (by (simp only [ZZ,WW,Ze,reduceCtorEq,Nat.reduceAdd,Nat.reduceMul,Nat.reduceLeDiff,Nat.reduceLT,Nat.reduceEqDiff];try trivial)) (by simp only [ZZ,WW,Ze,reduceCtorEq,Nat.reduceAdd,Nat.reduceMul,Nat.reduceLeDiff,Nat.reduceLT,Nat.reduceEqDiff,cT,oT,adrE,adC,List.map_append]) ⟨i+1,k'+1+1,W++[g],mpS kv g (.bool true),[],(c0 :: cr)++[([],g)],by omega,rfl,by omega,setOf_put hkv g,(by simp only [List.length_append,List.length_cons,List.length_nil] at *;omega),(by simp only [List.length_append,List.length_cons,List.length_nil] at *;omega),ht2,(fun a ha=>by rcases List.mem_append.1 ha with ha|ha;exact hc2 a ha;rw [List.mem_singleton] at ha;subst ha;exact ⟨by simp,show g.length≤30000 by omega⟩),rfl,rfl⟩⟩
   ·intro _
    simp only [ZZ,WW,Ze,reduceCtorEq,Nat.reduceAdd,Nat.reduceMul,Nat.reduceLeDiff,Nat.reduceLT,Nat.reduceEqDiff,adrE_len,List.length_cons]
    refine cut_same zE_ ?_
    simp only [ZZ,WW,Ze,reduceCtorEq,Nat.reduceAdd,Nat.reduceMul,Nat.reduceLeDiff,Nat.reduceLT,Nat.reduceEqDiff]
    refine ⟨i64_of (by omega) (by omega),end_round (3 - (i+1)) [.adr (.b 0) 0,.p (.str id),oo,.p (.sl 1 (strE ids)),oo,oo,oo,oo,.adr (.l 8) 0,.adr (.l 9) 0,.mp (.l 27),oo,oo,oo,oo,oo,oo,oo,oo,oo,oo,oo,oo,oo,oo,oo,oo,oo,oo,.p (int z),.p (int ((i+1:Nat))),oo,oo,oo,oo,oo,oo,oo,oo,oo,oo,oo,oo,oo,oo,oo,oo,oo,oo,oo,oo,oo,oo,oo,oo,oo,oo,oo,oo,oo,oo,oo,oo,oo,oo,oo,oo,oo,oo,oo,oo,oo,oo,oo,oo,oo,oo,oo,oo,oo,oo,oo,oo,oo,oo,oo,oo,oo,oo,oo,oo,oo,oo,oo,oo] ([(.b 0,.box ((stm l (k'+1+1)).map .p) T),(.l 8,.box [.p (.str []),.p (int 0),.p (.str []),.p (.str []),.p (.nl 2),.p (.nl 2),.p (.nl 1),.p (.str []),.p (.str [])] tMail),(.l 9,.box [.p (.str id),.p (int at_),.p (.str nm),.p (.str f),cT 55 (([])++[([],g)]),cT 49 (c0 :: cr),.p (.nl 1),.p (.str []),.p (.str bd)] tMail),(.l 27,.map (mpS kv g (.bool true)) 9 4)]++(oT 55 (([])++[([],g)])++oT 49 (c0 :: cr))) (by omega) (by (simp only [ZZ,WW,Ze,reduceCtorEq,Nat.reduceAdd,Nat.reduceMul,Nat.reduceLeDiff,Nat.reduceLT,Nat.reduceEqDiff];try trivial)) (by simp only [ZZ,WW,Ze,reduceCtorEq,Nat.reduceAdd,Nat.reduceMul,Nat.reduceLeDiff,Nat.reduceLT,Nat.reduceEqDiff,cT,oT,adrE,adC,List.map_append]) ⟨i+1,k'+1+1,W++[g],mpS kv g (.bool true),([])++[([],g)],c0 :: cr,by omega,rfl,by omega,setOf_put hkv g,(by simp only [List.length_append,List.length_cons,List.length_nil] at *;omega),(by simp only [List.length_append,List.length_cons,List.length_nil] at *;omega),(fun a ha=>by rcases List.mem_append.1 ha with ha|ha;exact ht2 a ha;rw [List.mem_singleton] at ha;subst ha;exact ⟨by simp,show g.length≤30000 by omega⟩),hc2,rfl,rfl⟩⟩
  ·simp only [cT,oT,ZZ,WW,Ze,reduceCtorEq,Nat.reduceAdd,Nat.reduceMul,Nat.reduceLeDiff,Nat.reduceLT,Nat.reduceEqDiff]
   simp only [List.length_cons] at ht1
   refine use1 people_ok rfl (.inl rfl) ?_
   simp only [ZZ,WW,Ze,reduceCtorEq,Nat.reduceAdd,Nat.reduceMul,Nat.reduceLeDiff,Nat.reduceLT,Nat.reduceEqDiff]
   refine useS (one_ok l k' peA (by omega) hl (by decide) (by decide)) rfl rfl rfl zE_ ?_
   rintro x cs' ⟨g,rfl,hg,rfl⟩
   have hg:=peA_len g hg
   simp only [ZZ,WW,Ze,reduceCtorEq,Nat.reduceAdd,Nat.reduceMul,Nat.reduceLeDiff,Nat.reduceLT,Nat.reduceEqDiff,hkv g]
   refine br ?_ ?_
   ·intro _
    simp only [ZZ,WW,Ze,reduceCtorEq,Nat.reduceAdd,Nat.reduceMul,Nat.reduceLeDiff,Nat.reduceLT,Nat.reduceEqDiff]
    refine cut_same zE_ ?_
    simp only [ZZ,WW,Ze,reduceCtorEq,Nat.reduceAdd,Nat.reduceMul,Nat.reduceLeDiff,Nat.reduceLT,Nat.reduceEqDiff]
    refine ⟨i64_of (by omega) (by omega),end_round (3 - (i+1)) [.adr (.b 0) 0,.p (.str id),oo,.p (.sl 1 (strE ids)),oo,oo,oo,oo,.adr (.l 8) 0,.adr (.l 9) 0,.mp (.l 27),oo,oo,oo,oo,oo,oo,oo,oo,oo,oo,oo,oo,oo,oo,oo,oo,oo,oo,.p (int z),.p (int ((i+1:Nat))),oo,oo,oo,oo,oo,oo,oo,oo,oo,oo,oo,oo,oo,oo,oo,oo,oo,oo,oo,oo,oo,oo,oo,oo,oo,oo,oo,oo,oo,oo,oo,oo,oo,oo,oo,oo,oo,oo,oo,oo,oo,oo,oo,oo,oo,oo,oo,oo,oo,oo,oo,oo,oo,oo,oo,oo,oo,oo,oo,oo,oo,oo,oo,oo] ([(.b 0,.box ((stm l (k'+1)).map .p) T),(.l 8,.box [.p (.str []),.p (int 0),.p (.str []),.p (.str []),.p (.nl 2),.p (.nl 2),.p (.nl 1),.p (.str []),.p (.str [])] tMail),(.l 9,.box [.p (.str id),.p (int at_),.p (.str nm),.p (.str f),cT 55 (t0 :: tr),cT 49 ([]),.p (.nl 1),.p (.str []),.p (.str bd)] tMail),(.l 27,.map (kv) 9 4)]++(oT 55 (t0 :: tr)++oT 49 ([]))) (by omega) (by (simp only [ZZ,WW,Ze,reduceCtorEq,Nat.reduceAdd,Nat.reduceMul,Nat.reduceLeDiff,Nat.reduceLT,Nat.reduceEqDiff];try trivial)) (by simp only [ZZ,WW,Ze,reduceCtorEq,Nat.reduceAdd,Nat.reduceMul,Nat.reduceLeDiff,Nat.reduceLT,Nat.reduceEqDiff,cT,oT,adrE,adC,List.map_append]) ⟨i+1,k'+1,W,kv,t0 :: tr,[],by omega,rfl,by omega,hkv,(by simp only [List.length_append,List.length_cons,List.length_nil] at *;omega),(by simp only [List.length_append,List.length_cons,List.length_nil] at *;omega),ht2,hc2,rfl,rfl⟩⟩
   intro _
   simp only [ZZ,WW,Ze,reduceCtorEq,Nat.reduceAdd,Nat.reduceMul,Nat.reduceLeDiff,Nat.reduceLT,Nat.reduceEqDiff]
   refine useS (Flip_ok l (k'+1) 3 (by omega) hl (by decide)) rfl rfl rfl zE_ ?_
   rintro x cs' ⟨b,rfl,rfl⟩
   simp only [ZZ,WW,Ze,reduceCtorEq,Nat.reduceAdd,Nat.reduceMul,Nat.reduceLeDiff,Nat.reduceLT,Nat.reduceEqDiff]
   refine br ?_ ?_
   ·intro _
    simp only [ZZ,WW,Ze,reduceCtorEq,Nat.reduceAdd,Nat.reduceMul,Nat.reduceLeDiff,Nat.reduceLT,Nat.reduceEqDiff,adrE_len,List.length_cons]
    refine cut_same zE_ ?_
    simp only [ZZ,WW,Ze,reduceCtorEq,Nat.reduceAdd,Nat.reduceMul,Nat.reduceLeDiff,Nat.reduceLT,Nat.reduceEqDiff]
    refine ⟨i64_of (by omega) (by omega),end_round (3 - (i+1)) [.adr (.b 0) 0,.p (.str id),oo,.p (.sl 1 (strE ids)),oo,oo,oo,oo,.adr (.l 8) 0,.adr (.l 9) 0,.mp (.l 27),oo,oo,oo,oo,oo,oo,oo,oo,oo,oo,oo,oo,oo,oo,oo,oo,oo,oo,.p (int z),.p (int ((i+1:Nat))),oo,oo,oo,oo,oo,oo,oo,oo,oo,oo,oo,oo,oo,oo,oo,oo,oo,oo,oo,oo,oo,oo,oo,oo,oo,oo,oo,oo,oo,oo,oo,oo,oo,oo,oo,oo,oo,oo,oo,oo,oo,oo,oo,oo,oo,oo,oo,oo,oo,oo,oo,oo,oo,oo,oo,oo,oo,oo,oo,oo,oo,oo,oo,oo] ([(.b 0,.box ((stm l (k'+1+1)).map .p) T),(.l 8,.box [.p (.str []),.p (int 0),.p (.str []),.p (.str []),.p (.nl 2),.p (.nl 2),.p (.nl 1),.p (.str []),.p (.str [])] tMail),(.l 9,.box [.p (.str id),.p (int at_),.p (.str nm),.p (.str f),cT 55 (t0 :: tr),cT 49 (([])++[([],g)]),.p (.nl 1),.p (.str []),.p (.str bd)] tMail),(.l 27,.map (mpS kv g (.bool true)) 9 4)]++(oT 55 (t0 :: tr)++oT 49 (([])++[([],g)]))) (by omega) (by (simp only [ZZ,WW,Ze,reduceCtorEq,Nat.reduceAdd,Nat.reduceMul,Nat.reduceLeDiff,Nat.reduceLT,Nat.reduceEqDiff];try trivial)) (by simp only [ZZ,WW,Ze,reduceCtorEq,Nat.reduceAdd,Nat.reduceMul,Nat.reduceLeDiff,Nat.reduceLT,Nat.reduceEqDiff,cT,oT,adrE,adC,List.map_append]) ⟨i+1,k'+1+1,W++[g],mpS kv g (.bool true),t0 :: tr,([])++[([],g)],by omega,rfl,by omega,setOf_put hkv g,(by simp only [List.length_append,List.length_cons,List.length_nil] at *;omega),(by simp only [List.length_append,List.length_cons,List.length_nil] at *;omega),ht2,(fun a ha=>by rcases List.mem_append.1 ha with ha|ha;exact hc2 a ha;rw [List.mem_singleton] at ha;subst ha;exact ⟨by simp,show g.length≤30000 by omega⟩),rfl,rfl⟩⟩
   ·intro _
    simp only [ZZ,WW,Ze,reduceCtorEq,Nat.reduceAdd,Nat.reduceMul,Nat.reduceLeDiff,Nat.reduceLT,Nat.reduceEqDiff,adrE_len,List.length_cons]
    ((repeat' (with_reducible apply And.intro))<;>try ((exact sc_)))
    refine cut_same zE_ ?_
    simp only [ZZ,WW,Ze,reduceCtorEq,Nat.reduceAdd,Nat.reduceMul,Nat.reduceLeDiff,Nat.reduceLT,Nat.reduceEqDiff]
    refine ⟨i64_of (by omega) (by omega),end_round (3 - (i+1)) [.adr (.b 0) 0,.p (.str id),oo,.p (.sl 1 (strE ids)),oo,oo,oo,oo,.adr (.l 8) 0,.adr (.l 9) 0,.mp (.l 27),oo,oo,oo,oo,oo,oo,oo,oo,oo,oo,oo,oo,oo,oo,oo,oo,oo,oo,.p (int z),.p (int ((i+1:Nat))),oo,oo,oo,oo,oo,oo,oo,oo,oo,oo,oo,oo,oo,oo,oo,oo,oo,oo,oo,oo,oo,oo,oo,oo,oo,oo,oo,oo,oo,oo,oo,oo,oo,oo,oo,oo,oo,oo,oo,oo,oo,oo,oo,oo,oo,oo,oo,oo,oo,oo,oo,oo,oo,oo,oo,oo,oo,oo,oo,oo,oo,oo,oo,oo] ([(.b 0,.box ((stm l (k'+1+1)).map .p) T),(.l 8,.box [.p (.str []),.p (int 0),.p (.str []),.p (.str []),.p (.nl 2),.p (.nl 2),.p (.nl 1),.p (.str []),.p (.str [])] tMail),(.l 9,.box [.p (.str id),.p (int at_),.p (.str nm),.p (.str f),cT 55 ((t0 :: tr)++[([],g)]),cT 49 ([]),.p (.nl 1),.p (.str []),.p (.str bd)] tMail),(.l 27,.map (mpS kv g (.bool true)) 9 4)]++(oT 55 ((t0 :: tr)++[([],g)])++oT 49 ([]))) (by omega) (by (simp only [ZZ,WW,Ze,reduceCtorEq,Nat.reduceAdd,Nat.reduceMul,Nat.reduceLeDiff,Nat.reduceLT,Nat.reduceEqDiff];try trivial)) (by simp only [ZZ,WW,Ze,reduceCtorEq,Nat.reduceAdd,Nat.reduceMul,Nat.reduceLeDiff,Nat.reduceLT,Nat.reduceEqDiff,cT,oT,adrE,adC,List.map_append]) ⟨i+1,k'+1+1,W++[g],mpS kv g (.bool true),(t0 :: tr)++[([],g)],[],by omega,rfl,by omega,setOf_put hkv g,(by simp only [List.length_append,List.length_cons,List.length_nil] at *;omega),(by simp only [List.length_append,List.length_cons,List.length_nil] at *;omega),(fun a ha=>by rcases List.mem_append.1 ha with ha|ha;exact ht2 a ha;rw [List.mem_singleton] at ha;subst ha;exact ⟨by simp,show g.length≤30000 by omega⟩),hc2,rfl,rfl⟩⟩
  ·simp only [cT,oT,ZZ,WW,Ze,reduceCtorEq,Nat.reduceAdd,Nat.reduceMul,Nat.reduceLeDiff,Nat.reduceLT,Nat.reduceEqDiff]
   simp only [List.length_cons] at ht1
   simp only [List.length_cons] at hc1
   refine use1 people_ok rfl (.inl rfl) ?_
   simp only [ZZ,WW,Ze,reduceCtorEq,Nat.reduceAdd,Nat.reduceMul,Nat.reduceLeDiff,Nat.reduceLT,Nat.reduceEqDiff]
   refine useS (one_ok l k' peA (by omega) hl (by decide) (by decide)) rfl rfl rfl zE_ ?_
   rintro x cs' ⟨g,rfl,hg,rfl⟩
   have hg:=peA_len g hg
   simp only [ZZ,WW,Ze,reduceCtorEq,Nat.reduceAdd,Nat.reduceMul,Nat.reduceLeDiff,Nat.reduceLT,Nat.reduceEqDiff,hkv g]
   refine br ?_ ?_
   ·intro _
    simp only [ZZ,WW,Ze,reduceCtorEq,Nat.reduceAdd,Nat.reduceMul,Nat.reduceLeDiff,Nat.reduceLT,Nat.reduceEqDiff]
    refine cut_same zE_ ?_
    simp only [ZZ,WW,Ze,reduceCtorEq,Nat.reduceAdd,Nat.reduceMul,Nat.reduceLeDiff,Nat.reduceLT,Nat.reduceEqDiff]
    refine ⟨i64_of (by omega) (by omega),end_round (3 - (i+1)) [.adr (.b 0) 0,.p (.str id),oo,.p (.sl 1 (strE ids)),oo,oo,oo,oo,.adr (.l 8) 0,.adr (.l 9) 0,.mp (.l 27),oo,oo,oo,oo,oo,oo,oo,oo,oo,oo,oo,oo,oo,oo,oo,oo,oo,oo,.p (int z),.p (int ((i+1:Nat))),oo,oo,oo,oo,oo,oo,oo,oo,oo,oo,oo,oo,oo,oo,oo,oo,oo,oo,oo,oo,oo,oo,oo,oo,oo,oo,oo,oo,oo,oo,oo,oo,oo,oo,oo,oo,oo,oo,oo,oo,oo,oo,oo,oo,oo,oo,oo,oo,oo,oo,oo,oo,oo,oo,oo,oo,oo,oo,oo,oo,oo,oo,oo,oo] ([(.b 0,.box ((stm l (k'+1)).map .p) T),(.l 8,.box [.p (.str []),.p (int 0),.p (.str []),.p (.str []),.p (.nl 2),.p (.nl 2),.p (.nl 1),.p (.str []),.p (.str [])] tMail),(.l 9,.box [.p (.str id),.p (int at_),.p (.str nm),.p (.str f),cT 55 (t0 :: tr),cT 49 (c0 :: cr),.p (.nl 1),.p (.str []),.p (.str bd)] tMail),(.l 27,.map (kv) 9 4)]++(oT 55 (t0 :: tr)++oT 49 (c0 :: cr))) (by omega) (by (simp only [ZZ,WW,Ze,reduceCtorEq,Nat.reduceAdd,Nat.reduceMul,Nat.reduceLeDiff,Nat.reduceLT,Nat.reduceEqDiff];try trivial)) (by simp only [ZZ,WW,Ze,reduceCtorEq,Nat.reduceAdd,Nat.reduceMul,Nat.reduceLeDiff,Nat.reduceLT,Nat.reduceEqDiff,cT,oT,adrE,adC,List.map_append]) ⟨i+1,k'+1,W,kv,t0 :: tr,c0 :: cr,by omega,rfl,by omega,hkv,(by simp only [List.length_append,List.length_cons,List.length_nil] at *;omega),(by simp only [List.length_append,List.length_cons,List.length_nil] at *;omega),ht2,hc2,rfl,rfl⟩⟩
   intro _
   simp only [ZZ,WW,Ze,reduceCtorEq,Nat.reduceAdd,Nat.reduceMul,Nat.reduceLeDiff,Nat.reduceLT,Nat.reduceEqDiff]
   refine useS (Flip_ok l (k'+1) 3 (by omega) hl (by decide)) rfl rfl rfl zE_ ?_
   rintro x cs' ⟨b,rfl,rfl⟩
   simp only [ZZ,WW,Ze,reduceCtorEq,Nat.reduceAdd,Nat.reduceMul,Nat.reduceLeDiff,Nat.reduceLT,Nat.reduceEqDiff]
   refine br ?_ ?_
   ·intro _
    simp only [ZZ,WW,Ze,reduceCtorEq,Nat.reduceAdd,Nat.reduceMul,Nat.reduceLeDiff,Nat.reduceLT,Nat.reduceEqDiff,adrE_len,List.length_cons]
    ((repeat' (with_reducible apply And.intro))<;>try ((exact sc_)))
    refine cut_same zE_ ?_
    simp only [ZZ,WW,Ze,reduceCtorEq,Nat.reduceAdd,Nat.reduceMul,Nat.reduceLeDiff,Nat.reduceLT,Nat.reduceEqDiff]
    refine ⟨i64_of (by omega) (by omega),end_round (3 - (i+1)) [.adr (.b 0) 0,.p (.str id),oo,.p (.sl 1 (strE ids)),oo,oo,oo,oo,.adr (.l 8) 0,.adr (.l 9) 0,.mp (.l 27),oo,oo,oo,oo,oo,oo,oo,oo,oo,oo,oo,oo,oo,oo,oo,oo,oo,oo,.p (int z),.p (int ((i+1:Nat))),oo,oo,oo,oo,oo,oo,oo,oo,oo,oo,oo,oo,oo,oo,oo,oo,oo,oo,oo,oo,oo,oo,oo,oo,oo,oo,oo,oo,oo,oo,oo,oo,oo,oo,oo,oo,oo,oo,oo,oo,oo,oo,oo,oo,oo,oo,oo,oo,oo,oo,oo,oo,oo,oo,oo,oo,oo,oo,oo,oo,oo,oo,oo,oo] ([(.b 0,.box ((stm l (k'+1+1)).map .p) T),(.l 8,.box [.p (.str []),.p (int 0),.p (.str []),.p (.str []),.p (.nl 2),.p (.nl 2),.p (.nl 1),.p (.str []),.p (.str [])] tMail),(.l 9,.box [.p (.str id),.p (int at_),.p (.str nm),.p (.str f),cT 55 (t0 :: tr),cT 49 ((c0 :: cr)++[([],g)]),.p (.nl 1),.p (.str []),.p (.str bd)] tMail),(.l 27,.map (mpS kv g (.bool true)) 9 4)]++(oT 55 (t0 :: tr)++oT 49 ((c0 :: cr)++[([],g)]))) (by omega) (by (simp only [ZZ,WW,Ze,reduceCtorEq,Nat.reduceAdd,Nat.reduceMul,Nat.reduceLeDiff,Nat.reduceLT,Nat.reduceEqDiff];try trivial)) (by simp only [ZZ,WW,Ze,reduceCtorEq,Nat.reduceAdd,Nat.reduceMul,Nat.reduceLeDiff,Nat.reduceLT,Nat.reduceEqDiff,cT,oT,adrE,adC,List.map_append]) ⟨i+1,k'+1+1,W++[g],mpS kv g (.bool true),t0 :: tr,(c0 :: cr)++[([],g)],by omega,rfl,by omega,setOf_put hkv g,(by simp only [List.length_append,List.length_cons,List.length_nil] at *;omega),(by simp only [List.length_append,List.length_cons,List.length_nil] at *;omega),ht2,(fun a ha=>by rcases List.mem_append.1 ha with ha|ha;exact hc2 a ha;rw [List.mem_singleton] at ha;subst ha;exact ⟨by simp,show g.length≤30000 by omega⟩),rfl,rfl⟩⟩
   ·intro _
    simp only [ZZ,WW,Ze,reduceCtorEq,Nat.reduceAdd,Nat.reduceMul,Nat.reduceLeDiff,Nat.reduceLT,Nat.reduceEqDiff,adrE_len,List.length_cons]
    ((repeat' (with_reducible apply And.intro))<;>try ((exact sc_)))
    refine cut_same zE_ ?_
    simp only [ZZ,WW,Ze,reduceCtorEq,Nat.reduceAdd,Nat.reduceMul,Nat.reduceLeDiff,Nat.reduceLT,Nat.reduceEqDiff]
    refine ⟨i64_of (by omega) (by omega),end_round (3 - (i+1)) [.adr (.b 0) 0,.p (.str id),oo,.p (.sl 1 (strE ids)),oo,oo,oo,oo,.adr (.l 8) 0,.adr (.l 9) 0,.mp (.l 27),oo,oo,oo,oo,oo,oo,oo,oo,oo,oo,oo,oo,oo,oo,oo,oo,oo,oo,.p (int z),.p (int ((i+1:Nat))),oo,oo,oo,oo,oo,oo,oo,oo,oo,oo,oo,oo,oo,oo,oo,oo,oo,oo,oo,oo,oo,oo,oo,oo,oo,oo,oo,oo,oo,oo,oo,oo,oo,oo,oo,oo,oo,oo,oo,oo,oo,oo,oo,oo,oo,oo,oo,oo,oo,oo,oo,oo,oo,oo,oo,oo,oo,oo,oo,oo,oo,oo,oo,oo] ([(.b 0,.box ((stm l (k'+1+1)).map .p) T),(.l 8,.box [.p (.str []),.p (int 0),.p (.str []),.p (.str []),.p (.nl 2),.p (.nl 2),.p (.nl 1),.p (.str []),.p (.str [])] tMail),(.l 9,.box [.p (.str id),.p (int at_),.p (.str nm),.p (.str f),cT 55 ((t0 :: tr)++[([],g)]),cT 49 (c0 :: cr),.p (.nl 1),.p (.str []),.p (.str bd)] tMail),(.l 27,.map (mpS kv g (.bool true)) 9 4)]++(oT 55 ((t0 :: tr)++[([],g)])++oT 49 (c0 :: cr))) (by omega) (by (simp only [ZZ,WW,Ze,reduceCtorEq,Nat.reduceAdd,Nat.reduceMul,Nat.reduceLeDiff,Nat.reduceLT,Nat.reduceEqDiff];try trivial)) (by simp only [ZZ,WW,Ze,reduceCtorEq,Nat.reduceAdd,Nat.reduceMul,Nat.reduceLeDiff,Nat.reduceLT,Nat.reduceEqDiff,cT,oT,adrE,adC,List.map_append]) ⟨i+1,k'+1+1,W++[g],mpS kv g (.bool true),(t0 :: tr)++[([],g)],c0 :: cr,by omega,rfl,by omega,setOf_put hkv g,(by simp only [List.length_append,List.length_cons,List.length_nil] at *;omega),(by simp only [List.length_append,List.length_cons,List.length_nil] at *;omega),(fun a ha=>by rcases List.mem_append.1 ha with ha|ha;exact ht2 a ha;rw [List.mem_singleton] at ha;subst ha;exact ⟨by simp,show g.length≤30000 by omega⟩),hc2,rfl,rfl⟩⟩
 intro h
 clear h hkv
 simp only [ZZ,WW,Ze,reduceCtorEq,Nat.reduceAdd,Nat.reduceMul,Nat.reduceLeDiff,Nat.reduceLT,Nat.reduceEqDiff]
 rw [ops_re]
 refine ⟨[.adr (.b 0) 0,.p (.str id),oo,.p (.sl 1 (strE ids)),oo,oo,oo,oo,.adr (.l 8) 0,.adr (.l 9) 0,oo,oo,oo,oo,oo,oo,oo,oo,oo,oo,oo,oo,oo,oo,oo,oo,oo,oo,oo,oo,oo,oo,oo,oo,oo,oo,oo,oo,oo,oo,oo,oo,oo,oo,oo,oo,oo,oo,oo,oo,oo,oo,oo,oo,oo,oo,oo,oo,.adr (.b 0) 0,oo,oo,oo,oo,oo,oo,oo,oo,oo,oo,oo,oo,oo,oo,oo,oo,oo,oo,oo,oo,oo,oo,oo,oo,oo,oo,oo,oo,oo,oo,oo,oo,oo,oo,oo,oo],[(.b 0,.box ((stm l (k')).map .p) T),(.l 8,.box [.p (.str []),.p (int 0),.p (.str []),.p (.str []),.p (.nl 2),.p (.nl 2),.p (.nl 1),.p (.str []),.p (.str [])] tMail),(.l 9,.box [.p (.str id),.p (int at_),.p (.str nm),.p (.str f),.p (pT ts),.p (pT cc),.p (.nl 1),.p (.str []),.p (.str bd)] tMail)],?_,?_⟩
 ·rcases ts with _|⟨t0,tr⟩<;>rcases cc with _|⟨c0,cr⟩
  ·exact re_weak (by (simp only [ZZ,WW,Ze,reduceCtorEq,Nat.reduceAdd,Nat.reduceMul,Nat.reduceLeDiff,Nat.reduceLT,Nat.reduceEqDiff];try trivial)) (by simp only [ZZ,WW,Ze,reduceCtorEq,Nat.reduceAdd,Nat.reduceMul,Nat.reduceLeDiff,Nat.reduceLT,Nat.reduceEqDiff,cT,oT,pT])
  ·exact ReOk.trans (re_row (k:=.l 49) rfl) (by simp only [ZZ,WW,Ze,reduceCtorEq,Nat.reduceAdd,Nat.reduceMul,Nat.reduceLeDiff,Nat.reduceLT,Nat.reduceEqDiff,cT,oT];exact re_weak (by (simp only [ZZ,WW,Ze,reduceCtorEq,Nat.reduceAdd,Nat.reduceMul,Nat.reduceLeDiff,Nat.reduceLT,Nat.reduceEqDiff];try trivial)) (by simp only [ZZ,WW,Ze,reduceCtorEq,Nat.reduceAdd,Nat.reduceMul,Nat.reduceLeDiff,Nat.reduceLT,Nat.reduceEqDiff,pT]))
  ·exact ReOk.trans (re_row (k:=.l 55) rfl) (by simp only [ZZ,WW,Ze,reduceCtorEq,Nat.reduceAdd,Nat.reduceMul,Nat.reduceLeDiff,Nat.reduceLT,Nat.reduceEqDiff,cT,oT];exact re_weak (by (simp only [ZZ,WW,Ze,reduceCtorEq,Nat.reduceAdd,Nat.reduceMul,Nat.reduceLeDiff,Nat.reduceLT,Nat.reduceEqDiff];try trivial)) (by simp only [ZZ,WW,Ze,reduceCtorEq,Nat.reduceAdd,Nat.reduceMul,Nat.reduceLeDiff,Nat.reduceLT,Nat.reduceEqDiff,pT]))
  ·exact ReOk.trans (re_row (k:=.l 55) rfl) (by simp only [ZZ,WW,Ze,reduceCtorEq,Nat.reduceAdd,Nat.reduceMul,Nat.reduceLeDiff,Nat.reduceLT,Nat.reduceEqDiff,cT,oT];exact ReOk.trans (re_row (k:=.l 49) rfl) (by simp only [ZZ,WW,Ze,reduceCtorEq,Nat.reduceAdd,Nat.reduceMul,Nat.reduceLeDiff,Nat.reduceLT,Nat.reduceEqDiff];exact re_weak (by (simp only [ZZ,WW,Ze,reduceCtorEq,Nat.reduceAdd,Nat.reduceMul,Nat.reduceLeDiff,Nat.reduceLT,Nat.reduceEqDiff];try trivial)) (by simp only [ZZ,WW,Ze,reduceCtorEq,Nat.reduceAdd,Nat.reduceMul,Nat.reduceLeDiff,Nat.reduceLT,Nat.reduceEqDiff,pT])))
 simp only [ZZ,WW,Ze,reduceCtorEq,Nat.reduceAdd,Nat.reduceMul,Nat.reduceLeDiff,Nat.reduceLT,Nat.reduceEqDiff]
 refine useS (Pick_ok l k' [0,0,1,1,2] (by omega) hl (by simp) (by simp)) rfl rfl rfl zE_ ?_
 rintro x cs' ⟨y,rfl,hy,rfl⟩
 have hy:0≤y∧y≤2:=by simp at hy;omega
 simp only [ZZ,WW,Ze,reduceCtorEq,Nat.reduceAdd,Nat.reduceMul,Nat.reduceLeDiff,Nat.reduceLT,Nat.reduceEqDiff]
 refine loop_intro (fun n fr L=>∃ (j q:Nat) (rf:List (List UInt8)),j≤2∧n=2 - j∧q≤k1+15+j∧rf.length≤j∧(∀ r∈rf,r.length≤30000)∧fr=[.adr (.b 0) 0,.p (.str id),oo,.p (.sl 1 (strE ids)),oo,oo,oo,oo,.adr (.l 8) 0,.adr (.l 9) 0,oo,oo,oo,oo,oo,oo,oo,oo,oo,oo,oo,oo,oo,oo,oo,oo,oo,oo,oo,oo,oo,oo,oo,oo,oo,oo,oo,oo,oo,oo,oo,oo,oo,oo,oo,oo,oo,oo,oo,oo,oo,oo,oo,oo,oo,oo,oo,oo,oo,oo,.p (int y),.p (int (j:Nat)),oo,oo,oo,oo,oo,oo,oo,oo,oo,oo,oo,oo,oo,oo,oo,oo,oo,oo,oo,oo,oo,oo,oo,oo,oo,oo,oo,oo,oo,oo,oo,oo,oo]∧L=([(.b 0,.box ((stm l (q)).map .p) T),(.l 8,.box [.p (.str []),.p (int 0),.p (.str []),.p (.str []),.p (.nl 2),.p (.nl 2),.p (.nl 1),.p (.str []),.p (.str [])] tMail),(.l 9,.box [.p (.str id),.p (int at_),.p (.str nm),.p (.str f),.p (pT ts),.p (pT cc),cSt 82 (rf),.p (.str []),.p (.str bd)] tMail)]++oSt 82 (rf))) 2 [.adr (.b 0) 0,.p (.str id),oo,.p (.sl 1 (strE ids)),oo,oo,oo,oo,.adr (.l 8) 0,.adr (.l 9) 0,oo,oo,oo,oo,oo,oo,oo,oo,oo,oo,oo,oo,oo,oo,oo,oo,oo,oo,oo,oo,oo,oo,oo,oo,oo,oo,oo,oo,oo,oo,oo,oo,oo,oo,oo,oo,oo,oo,oo,oo,oo,oo,oo,oo,oo,oo,oo,oo,oo,oo,.p (int y),.p (int (0:Nat)),oo,oo,oo,oo,oo,oo,oo,oo,oo,oo,oo,oo,oo,oo,oo,oo,oo,oo,oo,oo,oo,oo,oo,oo,oo,oo,oo,oo,oo,oo,oo,oo,oo] ([(.b 0,.box ((stm l (k'+1)).map .p) T),(.l 8,.box [.p (.str []),.p (int 0),.p (.str []),.p (.str []),.p (.nl 2),.p (.nl 2),.p (.nl 1),.p (.str []),.p (.str [])] tMail),(.l 9,.box [.p (.str id),.p (int at_),.p (.str nm),.p (.str f),.p (pT ts),.p (pT cc),cSt 82 ([]),.p (.str []),.p (.str bd)] tMail)]++oSt 82 ([])) (by (simp only [ZZ,WW,Ze,reduceCtorEq,Nat.reduceAdd,Nat.reduceMul,Nat.reduceLeDiff,Nat.reduceLT,Nat.reduceEqDiff];try trivial)) (by simp only [ZZ,WW,Ze,reduceCtorEq,Nat.reduceAdd,Nat.reduceMul,Nat.reduceLeDiff,Nat.reduceLT,Nat.reduceEqDiff,cSt,oSt]) ⟨0,k'+1,[],by omega,by omega,by omega,by simp,by simp,rfl,rfl⟩ ?_
 rintro n fr L ⟨j,q,rf,hj2,rfl,hq,hr1,hr2,rfl,rfl⟩
 simp only [ir_chasemake_Stream_Letter_L1,ZZ,WW,Ze,reduceCtorEq,Nat.reduceAdd,Nat.reduceMul,Nat.reduceLeDiff,Nat.reduceLT,Nat.reduceEqDiff]
 refine br ?_ ?_
 ·intro h
  have hlt:(j:Int) < y:=of_decide_eq_true h
  rcases rf with _|⟨r0,rr⟩
  ·simp only [cSt,oSt,ZZ,WW,Ze,reduceCtorEq,Nat.reduceAdd,Nat.reduceMul,Nat.reduceLeDiff,Nat.reduceLT,Nat.reduceEqDiff]
   simp only [strE_len,ZZ,WW,Ze,reduceCtorEq,Nat.reduceAdd,Nat.reduceMul,Nat.reduceLeDiff,Nat.reduceLT,Nat.reduceEqDiff]
   ((repeat' (with_reducible apply And.intro))<;>try ((exact sc_)))
   refine useS (one_ok l q (gnA++ids) (by omega) hl (by simp [gnA]) (by simp [gnA];omega)) rfl rfl rfl zE_ ?_
   rintro x cs' ⟨r,rfl,hr,rfl⟩
   have hr:r.length≤30000:=by rcases List.mem_append.1 hr with hr|hr;(simp only [gnA,List.mem_cons,List.not_mem_nil,or_false] at hr;rcases hr with rfl|rfl<;>decide);have:=hib r hr;omega
   simp only [ZZ,WW,Ze,reduceCtorEq,Nat.reduceAdd,Nat.reduceMul,Nat.reduceLeDiff,Nat.reduceLT,Nat.reduceEqDiff]
   refine useG (fun _=>up6 (ContainsS_ok ([]) r (by simp only [List.length_cons,List.length_nil] at *;omega))) rfl (.inr rfl) ?_
   simp only [ZZ,WW,Ze,reduceCtorEq,Nat.reduceAdd,Nat.reduceMul,Nat.reduceLeDiff,Nat.reduceLT,Nat.reduceEqDiff]
   refine br ?_ ?_
   ·intro _
    simp only [ZZ,WW,Ze,reduceCtorEq,Nat.reduceAdd,Nat.reduceMul,Nat.reduceLeDiff,Nat.reduceLT,Nat.reduceEqDiff]
    refine cut_same zE_ ?_
    simp only [ZZ,WW,Ze,reduceCtorEq,Nat.reduceAdd,Nat.reduceMul,Nat.reduceLeDiff,Nat.reduceLT,Nat.reduceEqDiff]
    refine ⟨i64_of (by omega) (by omega),end_round (2 - (j+1)) [.adr (.b 0) 0,.p (.str id),oo,.p (.sl 1 (strE ids)),oo,oo,oo,oo,.adr (.l 8) 0,.adr (.l 9) 0,oo,oo,oo,oo,oo,oo,oo,oo,oo,oo,oo,oo,oo,oo,oo,oo,oo,oo,oo,oo,oo,oo,oo,oo,oo,oo,oo,oo,oo,oo,oo,oo,oo,oo,oo,oo,oo,oo,oo,oo,oo,oo,oo,oo,oo,oo,oo,oo,oo,oo,.p (int y),.p (int ((j+1:Nat))),oo,oo,oo,oo,oo,oo,oo,oo,oo,oo,oo,oo,oo,oo,oo,oo,oo,oo,oo,oo,oo,oo,oo,oo,oo,oo,oo,oo,oo,oo,oo,oo,oo] ([(.b 0,.box ((stm l (q+1)).map .p) T),(.l 8,.box [.p (.str []),.p (int 0),.p (.str []),.p (.str []),.p (.nl 2),.p (.nl 2),.p (.nl 1),.p (.str []),.p (.str [])] tMail),(.l 9,.box [.p (.str id),.p (int at_),.p (.str nm),.p (.str f),.p (pT ts),.p (pT cc),cSt 82 (([])++[r]),.p (.str []),.p (.str bd)] tMail)]++oSt 82 (([])++[r])) (by omega) (by (simp only [ZZ,WW,Ze,reduceCtorEq,Nat.reduceAdd,Nat.reduceMul,Nat.reduceLeDiff,Nat.reduceLT,Nat.reduceEqDiff];try trivial)) (by simp only [ZZ,WW,Ze,reduceCtorEq,Nat.reduceAdd,Nat.reduceMul,Nat.reduceLeDiff,Nat.reduceLT,Nat.reduceEqDiff,cSt,oSt,strE,List.map_append]) ⟨j+1,q+1,([])++[r],by omega,rfl,by omega,(by simp only [List.length_append,List.length_cons,List.length_nil] at *;omega),(fun a ha=>by rcases List.mem_append.1 ha with ha|ha;exact hr2 a ha;rw [List.mem_singleton] at ha;subst ha;exact hr),rfl,rfl⟩⟩
   ·intro _
    simp only [ZZ,WW,Ze,reduceCtorEq,Nat.reduceAdd,Nat.reduceMul,Nat.reduceLeDiff,Nat.reduceLT,Nat.reduceEqDiff]
    refine cut_same zE_ ?_
    simp only [ZZ,WW,Ze,reduceCtorEq,Nat.reduceAdd,Nat.reduceMul,Nat.reduceLeDiff,Nat.reduceLT,Nat.reduceEqDiff]
    refine ⟨i64_of (by omega) (by omega),end_round (2 - (j+1)) [.adr (.b 0) 0,.p (.str id),oo,.p (.sl 1 (strE ids)),oo,oo,oo,oo,.adr (.l 8) 0,.adr (.l 9) 0,oo,oo,oo,oo,oo,oo,oo,oo,oo,oo,oo,oo,oo,oo,oo,oo,oo,oo,oo,oo,oo,oo,oo,oo,oo,oo,oo,oo,oo,oo,oo,oo,oo,oo,oo,oo,oo,oo,oo,oo,oo,oo,oo,oo,oo,oo,oo,oo,oo,oo,.p (int y),.p (int ((j+1:Nat))),oo,oo,oo,oo,oo,oo,oo,oo,oo,oo,oo,oo,oo,oo,oo,oo,oo,oo,oo,oo,oo,oo,oo,oo,oo,oo,oo,oo,oo,oo,oo,oo,oo] ([(.b 0,.box ((stm l (q+1)).map .p) T),(.l 8,.box [.p (.str []),.p (int 0),.p (.str []),.p (.str []),.p (.nl 2),.p (.nl 2),.p (.nl 1),.p (.str []),.p (.str [])] tMail),(.l 9,.box [.p (.str id),.p (int at_),.p (.str nm),.p (.str f),.p (pT ts),.p (pT cc),cSt 82 ([]),.p (.str []),.p (.str bd)] tMail)]++oSt 82 ([])) (by omega) (by (simp only [ZZ,WW,Ze,reduceCtorEq,Nat.reduceAdd,Nat.reduceMul,Nat.reduceLeDiff,Nat.reduceLT,Nat.reduceEqDiff];try trivial)) (by simp only [ZZ,WW,Ze,reduceCtorEq,Nat.reduceAdd,Nat.reduceMul,Nat.reduceLeDiff,Nat.reduceLT,Nat.reduceEqDiff,cSt,oSt,strE,List.map_append]) ⟨j+1,q+1,[],by omega,rfl,by omega,(by simp only [List.length_append,List.length_cons,List.length_nil] at *;omega),hr2,rfl,rfl⟩⟩
  ·simp only [cSt,oSt,ZZ,WW,Ze,reduceCtorEq,Nat.reduceAdd,Nat.reduceMul,Nat.reduceLeDiff,Nat.reduceLT,Nat.reduceEqDiff]
   simp only [List.length_cons] at hr1
   simp only [strE_len,ZZ,WW,Ze,reduceCtorEq,Nat.reduceAdd,Nat.reduceMul,Nat.reduceLeDiff,Nat.reduceLT,Nat.reduceEqDiff]
   ((repeat' (with_reducible apply And.intro))<;>try ((exact sc_)))
   refine useS (one_ok l q (gnA++ids) (by omega) hl (by simp [gnA]) (by simp [gnA];omega)) rfl rfl rfl zE_ ?_
   rintro x cs' ⟨r,rfl,hr,rfl⟩
   have hr:r.length≤30000:=by rcases List.mem_append.1 hr with hr|hr;(simp only [gnA,List.mem_cons,List.not_mem_nil,or_false] at hr;rcases hr with rfl|rfl<;>decide);have:=hib r hr;omega
   simp only [ZZ,WW,Ze,reduceCtorEq,Nat.reduceAdd,Nat.reduceMul,Nat.reduceLeDiff,Nat.reduceLT,Nat.reduceEqDiff]
   refine useG (fun _=>up6 (ContainsS_ok (r0 :: rr) r (by simp only [List.length_cons,List.length_nil] at *;omega))) rfl (.inr rfl) ?_
   simp only [ZZ,WW,Ze,reduceCtorEq,Nat.reduceAdd,Nat.reduceMul,Nat.reduceLeDiff,Nat.reduceLT,Nat.reduceEqDiff]
   refine br ?_ ?_
   ·intro _
    simp only [ZZ,WW,Ze,reduceCtorEq,Nat.reduceAdd,Nat.reduceMul,Nat.reduceLeDiff,Nat.reduceLT,Nat.reduceEqDiff,strE_len,List.length_cons]
    ((repeat' (with_reducible apply And.intro))<;>try ((exact sc_)))
    refine cut_same zE_ ?_
    simp only [ZZ,WW,Ze,reduceCtorEq,Nat.reduceAdd,Nat.reduceMul,Nat.reduceLeDiff,Nat.reduceLT,Nat.reduceEqDiff]
    refine ⟨i64_of (by omega) (by omega),end_round (2 - (j+1)) [.adr (.b 0) 0,.p (.str id),oo,.p (.sl 1 (strE ids)),oo,oo,oo,oo,.adr (.l 8) 0,.adr (.l 9) 0,oo,oo,oo,oo,oo,oo,oo,oo,oo,oo,oo,oo,oo,oo,oo,oo,oo,oo,oo,oo,oo,oo,oo,oo,oo,oo,oo,oo,oo,oo,oo,oo,oo,oo,oo,oo,oo,oo,oo,oo,oo,oo,oo,oo,oo,oo,oo,oo,oo,oo,.p (int y),.p (int ((j+1:Nat))),oo,oo,oo,oo,oo,oo,oo,oo,oo,oo,oo,oo,oo,oo,oo,oo,oo,oo,oo,oo,oo,oo,oo,oo,oo,oo,oo,oo,oo,oo,oo,oo,oo] ([(.b 0,.box ((stm l (q+1)).map .p) T),(.l 8,.box [.p (.str []),.p (int 0),.p (.str []),.p (.str []),.p (.nl 2),.p (.nl 2),.p (.nl 1),.p (.str []),.p (.str [])] tMail),(.l 9,.box [.p (.str id),.p (int at_),.p (.str nm),.p (.str f),.p (pT ts),.p (pT cc),cSt 82 ((r0 :: rr)++[r]),.p (.str []),.p (.str bd)] tMail)]++oSt 82 ((r0 :: rr)++[r])) (by omega) (by (simp only [ZZ,WW,Ze,reduceCtorEq,Nat.reduceAdd,Nat.reduceMul,Nat.reduceLeDiff,Nat.reduceLT,Nat.reduceEqDiff];try trivial)) (by simp only [ZZ,WW,Ze,reduceCtorEq,Nat.reduceAdd,Nat.reduceMul,Nat.reduceLeDiff,Nat.reduceLT,Nat.reduceEqDiff,cSt,oSt,strE,List.map_append]) ⟨j+1,q+1,(r0 :: rr)++[r],by omega,rfl,by omega,(by simp only [List.length_append,List.length_cons,List.length_nil] at *;omega),(fun a ha=>by rcases List.mem_append.1 ha with ha|ha;exact hr2 a ha;rw [List.mem_singleton] at ha;subst ha;exact hr),rfl,rfl⟩⟩
   ·intro _
    simp only [ZZ,WW,Ze,reduceCtorEq,Nat.reduceAdd,Nat.reduceMul,Nat.reduceLeDiff,Nat.reduceLT,Nat.reduceEqDiff]
    refine cut_same zE_ ?_
    simp only [ZZ,WW,Ze,reduceCtorEq,Nat.reduceAdd,Nat.reduceMul,Nat.reduceLeDiff,Nat.reduceLT,Nat.reduceEqDiff]
    refine ⟨i64_of (by omega) (by omega),end_round (2 - (j+1)) [.adr (.b 0) 0,.p (.str id),oo,.p (.sl 1 (strE ids)),oo,oo,oo,oo,.adr (.l 8) 0,.adr (.l 9) 0,oo,oo,oo,oo,oo,oo,oo,oo,oo,oo,oo,oo,oo,oo,oo,oo,oo,oo,oo,oo,oo,oo,oo,oo,oo,oo,oo,oo,oo,oo,oo,oo,oo,oo,oo,oo,oo,oo,oo,oo,oo,oo,oo,oo,oo,oo,oo,oo,oo,oo,.p (int y),.p (int ((j+1:Nat))),oo,oo,oo,oo,oo,oo,oo,oo,oo,oo,oo,oo,oo,oo,oo,oo,oo,oo,oo,oo,oo,oo,oo,oo,oo,oo,oo,oo,oo,oo,oo,oo,oo] ([(.b 0,.box ((stm l (q+1)).map .p) T),(.l 8,.box [.p (.str []),.p (int 0),.p (.str []),.p (.str []),.p (.nl 2),.p (.nl 2),.p (.nl 1),.p (.str []),.p (.str [])] tMail),(.l 9,.box [.p (.str id),.p (int at_),.p (.str nm),.p (.str f),.p (pT ts),.p (pT cc),cSt 82 (r0 :: rr),.p (.str []),.p (.str bd)] tMail)]++oSt 82 (r0 :: rr)) (by omega) (by (simp only [ZZ,WW,Ze,reduceCtorEq,Nat.reduceAdd,Nat.reduceMul,Nat.reduceLeDiff,Nat.reduceLT,Nat.reduceEqDiff];try trivial)) (by simp only [ZZ,WW,Ze,reduceCtorEq,Nat.reduceAdd,Nat.reduceMul,Nat.reduceLeDiff,Nat.reduceLT,Nat.reduceEqDiff,cSt,oSt,strE,List.map_append]) ⟨j+1,q+1,r0 :: rr,by omega,rfl,by omega,(by simp only [List.length_append,List.length_cons,List.length_nil] at *;omega),hr2,rfl,rfl⟩⟩
 intro h
 clear h
 simp only [ZZ,WW,Ze,reduceCtorEq,Nat.reduceAdd,Nat.reduceMul,Nat.reduceLeDiff,Nat.reduceLT,Nat.reduceEqDiff]
 rw [ops_re]
 refine ⟨[.adr (.b 0) 0,oo,oo,oo,oo,oo,oo,oo,.adr (.l 8) 0,.adr (.l 9) 0,oo,oo,oo,oo,oo,oo,oo,oo,oo,oo,oo,oo,oo,oo,oo,oo,oo,oo,oo,oo,oo,oo,oo,oo,oo,oo,oo,oo,oo,oo,oo,oo,oo,oo,oo,oo,oo,oo,oo,oo,oo,oo,oo,oo,oo,oo,oo,oo,oo,oo,oo,oo,oo,oo,oo,oo,oo,oo,oo,oo,oo,oo,oo,oo,oo,oo,oo,oo,oo,oo,oo,oo,oo,oo,oo,.adr (.b 0) 0,oo,oo,oo,oo,oo,oo,oo,oo,oo],[(.b 0,.box ((stm l (q)).map .p) T),(.l 8,.box [.p (.str []),.p (int 0),.p (.str []),.p (.str []),.p (.nl 2),.p (.nl 2),.p (.nl 1),.p (.str []),.p (.str [])] tMail),(.l 9,.box [.p (.str id),.p (int at_),.p (.str nm),.p (.str f),.p (pT ts),.p (pT cc),.p (pSt rf),.p (.str []),.p (.str bd)] tMail)],?_,?_⟩
 ·rcases rf with _|⟨r0,rr⟩
  ·exact re_weak (by (simp only [ZZ,WW,Ze,reduceCtorEq,Nat.reduceAdd,Nat.reduceMul,Nat.reduceLeDiff,Nat.reduceLT,Nat.reduceEqDiff];try trivial)) (by simp only [ZZ,WW,Ze,reduceCtorEq,Nat.reduceAdd,Nat.reduceMul,Nat.reduceLeDiff,Nat.reduceLT,Nat.reduceEqDiff,cSt,oSt,pSt])
  ·exact ReOk.trans (re_row (k:=.l 82) rfl) (by simp only [ZZ,WW,Ze,reduceCtorEq,Nat.reduceAdd,Nat.reduceMul,Nat.reduceLeDiff,Nat.reduceLT,Nat.reduceEqDiff,cSt,oSt];exact re_weak (by (simp only [ZZ,WW,Ze,reduceCtorEq,Nat.reduceAdd,Nat.reduceMul,Nat.reduceLeDiff,Nat.reduceLT,Nat.reduceEqDiff];try trivial)) (by simp only [ZZ,WW,Ze,reduceCtorEq,Nat.reduceAdd,Nat.reduceMul,Nat.reduceLeDiff,Nat.reduceLT,Nat.reduceEqDiff,pSt]))
 simp only [ZZ,WW,Ze,reduceCtorEq,Nat.reduceAdd,Nat.reduceMul,Nat.reduceLeDiff,Nat.reduceLT,Nat.reduceEqDiff]
 refine useS (one_ok l q sjA (by omega) hl (by decide) (by decide)) rfl rfl rfl zE_ ?_
 rintro x cs' ⟨s,rfl,hs,rfl⟩
 obtain ⟨s1,s2,s3,s4⟩:=sjA_ok s hs
 simp only [ZZ,WW,Ze,reduceCtorEq,Nat.reduceAdd,Nat.reduceMul,Nat.reduceLeDiff,Nat.reduceLT,Nat.reduceEqDiff]
 refine use1 (Fields6_ok s (by omega) s2) rfl (.inl rfl) ?_
 simp only [ZZ,WW,Ze,reduceCtorEq,Nat.reduceAdd,Nat.reduceMul,Nat.reduceLeDiff,Nat.reduceLT,Nat.reduceEqDiff]
 refine use1 (Join_ok (Lib.fields s) [32] (by omega) (by omega)) rfl (.inl rfl) ?_
 rcases ts with _|⟨t0,tr⟩<;>rcases cc with _|⟨c0,cr⟩<;>rcases rf with _|⟨r0,rr⟩
 ·simp only [ZZ,WW,Ze,reduceCtorEq,Nat.reduceAdd,Nat.reduceMul,Nat.reduceLeDiff,Nat.reduceLT,Nat.reduceEqDiff,pT,pSt]
  exact fin_S (stm l (q+1)) rfl ⟨⟨id,at_,(nm,f),[],[],[],Lib.join (Lib.fields s) [32],bd⟩,_,rfl,⟨Nat.le_trans hid (by decide),hnm,Nat.le_trans hf (by decide),Nat.le_trans ht1 (by omega),ht2,Nat.le_trans hc1 (by omega),hc2,Nat.le_trans hr1 (by omega),hr2,s4,Nat.le_trans hbd (by decide)⟩,rfl,by omega⟩
 ·simp only [ZZ,WW,Ze,reduceCtorEq,Nat.reduceAdd,Nat.reduceMul,Nat.reduceLeDiff,Nat.reduceLT,Nat.reduceEqDiff,pT,pSt]
  exact fin_S (stm l (q+1)) rfl ⟨⟨id,at_,(nm,f),[],[],r0 :: rr,Lib.join (Lib.fields s) [32],bd⟩,_,rfl,⟨Nat.le_trans hid (by decide),hnm,Nat.le_trans hf (by decide),Nat.le_trans ht1 (by omega),ht2,Nat.le_trans hc1 (by omega),hc2,Nat.le_trans hr1 (by omega),hr2,s4,Nat.le_trans hbd (by decide)⟩,rfl,by omega⟩
 ·simp only [ZZ,WW,Ze,reduceCtorEq,Nat.reduceAdd,Nat.reduceMul,Nat.reduceLeDiff,Nat.reduceLT,Nat.reduceEqDiff,pT,pSt]
  exact fin_S (stm l (q+1)) rfl ⟨⟨id,at_,(nm,f),[],c0 :: cr,[],Lib.join (Lib.fields s) [32],bd⟩,_,rfl,⟨Nat.le_trans hid (by decide),hnm,Nat.le_trans hf (by decide),Nat.le_trans ht1 (by omega),ht2,Nat.le_trans hc1 (by omega),hc2,Nat.le_trans hr1 (by omega),hr2,s4,Nat.le_trans hbd (by decide)⟩,rfl,by omega⟩
 ·simp only [ZZ,WW,Ze,reduceCtorEq,Nat.reduceAdd,Nat.reduceMul,Nat.reduceLeDiff,Nat.reduceLT,Nat.reduceEqDiff,pT,pSt]
  exact fin_S (stm l (q+1)) rfl ⟨⟨id,at_,(nm,f),[],c0 :: cr,r0 :: rr,Lib.join (Lib.fields s) [32],bd⟩,_,rfl,⟨Nat.le_trans hid (by decide),hnm,Nat.le_trans hf (by decide),Nat.le_trans ht1 (by omega),ht2,Nat.le_trans hc1 (by omega),hc2,Nat.le_trans hr1 (by omega),hr2,s4,Nat.le_trans hbd (by decide)⟩,rfl,by omega⟩
 ·simp only [ZZ,WW,Ze,reduceCtorEq,Nat.reduceAdd,Nat.reduceMul,Nat.reduceLeDiff,Nat.reduceLT,Nat.reduceEqDiff,pT,pSt]
  exact fin_S (stm l (q+1)) rfl ⟨⟨id,at_,(nm,f),t0 :: tr,[],[],Lib.join (Lib.fields s) [32],bd⟩,_,rfl,⟨Nat.le_trans hid (by decide),hnm,Nat.le_trans hf (by decide),Nat.le_trans ht1 (by omega),ht2,Nat.le_trans hc1 (by omega),hc2,Nat.le_trans hr1 (by omega),hr2,s4,Nat.le_trans hbd (by decide)⟩,rfl,by omega⟩
 ·simp only [ZZ,WW,Ze,reduceCtorEq,Nat.reduceAdd,Nat.reduceMul,Nat.reduceLeDiff,Nat.reduceLT,Nat.reduceEqDiff,pT,pSt]
  exact fin_S (stm l (q+1)) rfl ⟨⟨id,at_,(nm,f),t0 :: tr,[],r0 :: rr,Lib.join (Lib.fields s) [32],bd⟩,_,rfl,⟨Nat.le_trans hid (by decide),hnm,Nat.le_trans hf (by decide),Nat.le_trans ht1 (by omega),ht2,Nat.le_trans hc1 (by omega),hc2,Nat.le_trans hr1 (by omega),hr2,s4,Nat.le_trans hbd (by decide)⟩,rfl,by omega⟩
 ·simp only [ZZ,WW,Ze,reduceCtorEq,Nat.reduceAdd,Nat.reduceMul,Nat.reduceLeDiff,Nat.reduceLT,Nat.reduceEqDiff,pT,pSt]
  exact fin_S (stm l (q+1)) rfl ⟨⟨id,at_,(nm,f),t0 :: tr,c0 :: cr,[],Lib.join (Lib.fields s) [32],bd⟩,_,rfl,⟨Nat.le_trans hid (by decide),hnm,Nat.le_trans hf (by decide),Nat.le_trans ht1 (by omega),ht2,Nat.le_trans hc1 (by omega),hc2,Nat.le_trans hr1 (by omega),hr2,s4,Nat.le_trans hbd (by decide)⟩,rfl,by omega⟩
 ·simp only [ZZ,WW,Ze,reduceCtorEq,Nat.reduceAdd,Nat.reduceMul,Nat.reduceLeDiff,Nat.reduceLT,Nat.reduceEqDiff,pT,pSt]
  exact fin_S (stm l (q+1)) rfl ⟨⟨id,at_,(nm,f),t0 :: tr,c0 :: cr,r0 :: rr,Lib.join (Lib.fields s) [32],bd⟩,_,rfl,⟨Nat.le_trans hid (by decide),hnm,Nat.le_trans hf (by decide),Nat.le_trans ht1 (by omega),ht2,Nat.le_trans hc1 (by omega),hc2,Nat.le_trans hr1 (by omega),hr2,s4,Nat.le_trans hbd (by decide)⟩,rfl,by omega⟩
end Go.Proofs.YtehfjlpenlffmaaGreatDoor
