import Derived.Test.YtjgdjinhkgjpeaaGreatDoorZ11
import Derived.Test.YtjgdjinhkgjpeaaGreatDoorZ7
import Derived.Test.YtjgdjinhkgjpeaaGreatDoorZ6
set_option linter.unusedVariables false
set_option linter.unusedSimpArgs false
set_option linter.defProp false
namespace Go.Proofs.YtjgdjinhkgjpeaaGreatDoor
open Nat renaming reduceAdd→zd,reduceEqDiff→zb,reduceLT→zf,reduceLeDiff→za,reduceMul→ze
open List renaming mem_cons→zI,not_mem_nil→zU
open Go.RowKit
def qcs:IC:=(.seq (.reg [qO 2 (.mov (.c (.int .i64 0))),qO 3 (.mov (.c (.int .i64 0))),qO 4 (.mov (.c (.str []))),qO 5 (.mov (.c (.str []))),qO 6 (.mov (.c (.str []))),qO 7 (.alc 42 [.int .i64 0,.int .i64 0])]) (.seq (.reg [qM 8 0,qO 9 (.call 46 [.t 8,.c (.int .i64 50)]),qM 10 0,qO 11 (.bsl 1 [.c (.int .i64 1),.c (.int .i64 1),.c (.int .i64 2),.c (.int .i64 4),.c (.int .i64 5)]),qO 12 (.call 49 [.t 10,.t 11]),qM 13 0,qO 14 (.bsl 1 [.c (.str [105,97]),.c (.str [105,98]),.c (.str [105,99])]),qO 15 (.call 34 [.t 13,.t 14]),qM 2 9,qM 3 12,qM 4 15]) (.seq (.seq (.reg [qM 16 3]) (.block 0 (.seq (.reg [qO 21 (.bin .eql (.t 16) (.c (.int .i64 1))),qM 20 21]) (.cond (.t 20) (.reg [qM 22 0,qO 23 (.bsl 1 [.c (.str [119,97,110,116]),.c (.str [116,111,112,105,99])]),qO 24 (.call 34 [.t 22,.t 23]),qM 25 0,qO 26 (.bsl 1 [.c (.str [121,101,115]),.c (.str [110,111]),.c (.str [109,97,121,98,101]),.c (.str [])]),qO 27 (.call 34 [.t 25,.t 26]),qM 5 24,qM 6 27]) (.seq (.reg [qO 29 (.bin .eql (.t 16) (.c (.int .i64 2))),qM 28 29]) (.cond (.t 28) (.reg [qM 30 0,qO 31 (.bsl 1 [.c (.str [104,111,116]),.c (.str [115,101,99,114,101,116])]),qO 32 (.call 34 [.t 30,.t 31]),qM 6 32]) (.seq (.reg [qO 34 (.bin .eql (.t 16) (.c (.int .i64 4))),qM 33 34]) (.cond (.t 33) (.seq (.reg [qM 35 0,qO 36 (.bsl 1 [.c (.int .i64 0),.c (.int .i64 1),.c (.int .i64 4)]),qO 37 (.call 49 [.t 35,.t 36]),qO 38 (.fla 0 (.t 7)),⟨none,.st 1 (.t 38) (.t 37),none⟩]) (.drg [qO 39 (.fla 0 (.t 7)),qO 40 (.ldl 1 false (.t 39)),qM 41 0,qO 42 (.bsl 1 [.c (.int .i64 1),.c (.int .i64 3),.c (.int .i64 9),.c (.int .i64 600)]),qO 43 (.dcall true 49 [.t 41,.t 42]),qO 44 (.bin .add (.t 40) (.t 43)),qO 45 (.fla 1 (.t 7)),⟨none,.st 1 (.t 45) (.t 44),none⟩])) (.reg [qM 17 0,qO 18 (.bsl 1 [.c (.str [108,111,111,107,32,97,116,32,116,104,105,115]),.c (.str [120])]),qO 19 (.call 34 [.t 17,.t 18]),qM 6 19]))))))))) (.cut (.seq (.seq (.reg [qM 46 0,qO 47 (.call 14 [.t 46,.c (.int .i64 12)])]) (.cond (.t 47) (.seq (.reg [qM 48 0,qO 49 (.call 46 [.t 48,.c (.int .i64 6)])]) (.block 1 (.seq (.reg [qO 58 (.bin .eql (.t 49) (.c (.int .i64 0))),qM 57 58]) (.cond (.t 57) (.reg [qM 59 0,qO 60 (.bsl 1 [.c (.int .i64 (-1)),.c (.int .i64 5761440)]),qO 61 (.call 49 [.t 59,.t 60]),qM 2 61]) (.seq (.reg [qO 63 (.bin .eql (.t 49) (.c (.int .i64 1))),qM 62 63]) (.cond (.t 62) (.reg [qM 64 0,qO 65 (.call 48 [.t 64,.c (.int .i64 0),.c (.int .i64 7)]),qM 3 65]) (.seq (.reg [qO 67 (.bin .eql (.t 49) (.c (.int .i64 2))),qM 66 67]) (.cond (.t 66) (.reg [qM 68 0,qO 69 (.bsl 1 [.c (.str []),.c (.str [73])]),qO 70 (.call 34 [.t 68,.t 69]),qM 4 70]) (.seq (.reg [qO 72 (.bin .eql (.t 49) (.c (.int .i64 3))),qM 71 72]) (.cond (.t 71) (.reg [qM 73 0,qO 74 (.bsl 1 [.c (.str []),.c (.str [119,97,110,116]),.c (.str [70])]),qO 75 (.call 34 [.t 73,.t 74]),qM 5 75]) (.seq (.reg [qO 77 (.bin .eql (.t 49) (.c (.int .i64 4))),qM 76 77]) (.cond (.t 76) (.reg [qM 78 0,qO 79 (.call 125 [.c (.str [118]),.c (.int .i64 60)]),qO 80 (.call 125 [.c (.str [118]),.c (.int .i64 61)]),qO 81 (.call 125 [.c (.str [118]),.c (.int .i64 200)]),qO 82 (.call 125 [.c (.str [118]),.c (.int .i64 201)]),qO 83 (.bsl 1 [.c (.str []),.c (.str [32,120]),.c (.str [97,9,98]),.t 79,.t 80,.t 81,.t 82]),qO 84 (.call 34 [.t 78,.t 83]),qM 6 84]) (.reg [qM 50 0,qO 51 (.bsl 1 [.c (.int .i64 (-1)),.c (.int .i64 0),.c (.int .i64 5)]),qO 52 (.call 49 [.t 50,.t 51]),qM 53 0,qO 54 (.bsl 1 [.c (.int .i64 0),.c (.int .i64 5),.c (.int .i64 20000),.c (.int .i64 20001)]),qO 55 (.call 49 [.t 53,.t 54]),⟨none,.fz (.t 52),none⟩,⟨none,.fz (.t 55),none⟩,qO 56 (.bld [.int .i64 0,.int .i64 0] [(0,1,.t 52),(1,1,.t 55)]),⟨none,.st 2 (.t 7) (.t 56),none⟩]))))))))))))) .skip)) (.cut (.seq (.drg [qM 85 2,qM 86 3,qM 87 4,qM 88 5,qM 89 6,qO 90 (.ld 2 true (.t 7)),qM 2 85,qM 3 86,qM 4 87,qM 5 88,qM 6 89,⟨none,.st 2 (.t 7) (.t 90),none⟩]) .ret)))))))
def qci:List IRes:=[.t 2,.t 3,.t 4,.t 5,.t 6,.c 7 2 true]
theorem qfi:chkF Tryz.prog Tryz.f82 qcs qci 91=true:=by kernel_rfl
abbrev tSpn:Nat:=42
structure DoB (t kd:Int) (id f v:List UInt8) (a b:Int):Prop where
 c1:-100000000≤t∧t≤100000000
 c2:-100000000≤kd∧kd≤100000000
 c3:id.length≤200000
 c4:f.length≤200000
 c5:v.length≤200000
 c6:-100000000≤a∧a≤100000000
 c7:-100000000≤b∧b≤100000000
theorem DoB.dd {t kd:Int} {id f v:List UInt8} {a b:Int} (h:DoB t kd id f v a b) {s:List UInt8} (hs:s.length≤200000):DdB (newD s t kd id f v a b):=by
 obtain ⟨c1,c2,c3,c4,c5,c6,c7⟩:=h
 exact ⟨hs,c3,c4,c5,by simp [newD],by simp [newD],by simp [newD],by simp only [newD];omega,by simp only [newD];omega,by simp only [newD];omega,by simp only [newD];omega,by simp [newD]⟩
def DoM1 (l:List Int) (k:Nat) (t kd:Int) (id:List UInt8) (fr:List AV) (L:Objs):Prop:=∃ (f v:List UInt8) (a b:Int) (k2:Nat),DoB t kd id f v a b∧k2≤k+5∧fr=[.adr (.b 0) 0,oo,.p (int t),.p (int kd),.p (.str id),.p (.str f),.p (.str v),.adr (.l 7) 0,oo,oo,oo,oo,oo,oo,oo,oo,oo,oo,oo,oo,oo,oo,oo,oo,oo,oo,oo,oo,oo,oo,oo,oo,oo,oo,oo,oo,oo,oo,oo,oo,oo,oo,oo,oo,oo,oo,oo,oo,oo,oo,oo,oo,oo,oo,oo,oo,oo,oo,oo,oo,oo,oo,oo,oo,oo,oo,oo,oo,oo,oo,oo,oo,oo,oo,oo,oo,oo,oo,oo,oo,oo,oo,oo,oo,oo,oo,oo,oo,oo,oo,oo]∧L=[(.b 0,.box ((stm l k2).map .p) T),(.l 7,.box [.p (int a),.p (int b)] tSpn)]
def DoM2 (l:List Int) (k:Nat) (fr:List AV) (L:Objs):Prop:=∃ (t kd:Int) (id f v:List UInt8) (a b:Int) (k2:Nat),DoB t kd id f v a b∧k2≤k+9∧fr=[.adr (.b 0) 0,oo,.p (int t),.p (int kd),.p (.str id),.p (.str f),.p (.str v),.adr (.l 7) 0,oo,oo,oo,oo,oo,oo,oo,oo,oo,oo,oo,oo,oo,oo,oo,oo,oo,oo,oo,oo,oo,oo,oo,oo,oo,oo,oo,oo,oo,oo,oo,oo,oo,oo,oo,oo,oo,oo,oo,oo,oo,oo,oo,oo,oo,oo,oo,oo,oo,oo,oo,oo,oo,oo,oo,oo,oo,oo,oo,oo,oo,oo,oo,oo,oo,oo,oo,oo,oo,oo,oo,oo,oo,oo,oo,oo,oo,oo,oo,oo,oo,oo,oo]∧L=[(.b 0,.box ((stm l k2).map .p) T),(.l 7,.box [.p (int a),.p (int b)] tSpn)]
section
variable {E:Envt}
set_option maxRecDepth 100000 in
set_option maxHeartbeats 4000000 in
theorem quf (l:List Int) (k:Nat) (hk:k≤900000) (hl:l.length≤9223372036854775807) :
  qdl Tryz.prog E 82 T (stm l k) [] (fun x cs'=>∃ (t kd:Int) (id f v:List UInt8) (a b:Int) (k':Nat),x=.tup [int t,int kd,.str id,.str f,.str v,.agg [int a,int b]]∧DoB t kd id f v a b∧cs'=stm l k'∧k'≤k+10):=by
 unfold qdl
 refine qgl mixed Tryz.func82 qfi ?_
 simp only [a0,l0,OS.ao,List.map_cons,List.map_nil,List.length_cons,List.length_nil,List.cons_append,List.nil_append,Nat.reduceSub,zd,List.replicate_succ,List.replicate_zero,qcs,qci,ZZ,WW,Ze,reduceCtorEq,zd,ze,za,zf,zb]
 refine useS (qb4 l k 50 (by omega) hl (by decide)) rfl rfl rfl zE_ ?_
 rintro x cs' ⟨y,rfl,rfl⟩
 have b1:=qdC y 50
 have b2:=qdD y 50 (by decide)
 generalize qer y 50=t at *
 simp only [ZZ,WW,Ze,reduceCtorEq,zd,ze,za,zf,zb]
 refine useS (qhZ l (k+1) [1,1,2,4,5] (by omega) hl (by simp) (by simp)) rfl rfl rfl zE_ ?_
 rintro x cs' ⟨kd,rfl,hkd,rfl⟩
 have hkd:-1≤kd∧kd≤5761440:=by simp only [zI,zU,or_false] at hkd;omega
 simp only [ZZ,WW,Ze,reduceCtorEq,zd,ze,za,zf,zb]
 refine useS (qee l (k+1+1) [[105,97],[105,98],[105,99]] (by omega) hl (by simp) (by simp)) rfl rfl rfl zE_ ?_
 rintro x cs' ⟨id,rfl,hid,rfl⟩
 have hid:id.length≤200000:=by simp only [zI,zU,or_false] at hid;rcases hid with rfl|rfl|rfl<;>decide
 simp only [ZZ,WW,Ze,reduceCtorEq,zd,ze,za,zf,zb]
 refine qjY (DoM1 l k t kd id) ?_ ?_ ?_
 ·intro _
  simp only [ZZ,WW,Ze,reduceCtorEq,zd,ze,za,zf,zb]
  refine useS (qee l (k+1+1+1) [[119,97,110,116],[116,111,112,105,99]] (by omega) hl (by simp) (by simp)) rfl rfl rfl zE_ ?_
  rintro x cs' ⟨f,rfl,hf,rfl⟩
  have hf:f.length≤200000:=by simp only [zI,zU,or_false] at hf;rcases hf with rfl|rfl<;>decide
  simp only [ZZ,WW,Ze,reduceCtorEq,zd,ze,za,zf,zb]
  refine useS (qee l (k+1+1+1+1) [[121,101,115],[110,111],[109,97,121,98,101],[]] (by omega) hl (by simp) (by simp)) rfl rfl rfl zE_ ?_
  rintro x cs' ⟨v,rfl,hv,rfl⟩
  have hv:v.length≤200000:=by simp only [zI,zU,or_false] at hv;rcases hv with rfl|rfl|rfl|rfl<;>decide
  simp only [ZZ,WW,Ze,reduceCtorEq,zd,ze,za,zf,zb]
  exact qao [.adr (.b 0) 0,oo,.p (int t),.p (int kd),.p (.str id),.p (.str f),.p (.str v),.adr (.l 7) 0,oo,oo,oo,oo,oo,oo,oo,oo,oo,oo,oo,oo,oo,oo,oo,oo,oo,oo,oo,oo,oo,oo,oo,oo,oo,oo,oo,oo,oo,oo,oo,oo,oo,oo,oo,oo,oo,oo,oo,oo,oo,oo,oo,oo,oo,oo,oo,oo,oo,oo,oo,oo,oo,oo,oo,oo,oo,oo,oo,oo,oo,oo,oo,oo,oo,oo,oo,oo,oo,oo,oo,oo,oo,oo,oo,oo,oo,oo,oo,oo,oo,oo,oo] [(.b 0,.box ((stm l (k+1+1+1+1+1)).map .p) T),(.l 7,.box [.p (int 0),.p (int 0)] tSpn)] (by (simp only [ZZ,WW,Ze,reduceCtorEq,zd,ze,za,zf,zb];try trivial)) zE_ ⟨f,v,0,0,_,⟨by omega,by omega,hid,hf,hv,by omega,by omega⟩,by omega,rfl,rfl⟩
 ·intro _
  simp only [ZZ,WW,Ze,reduceCtorEq,zd,ze,za,zf,zb]
  refine br ?_ ?_
  ·intro _
   simp only [ZZ,WW,Ze,reduceCtorEq,zd,ze,za,zf,zb]
   refine useS (qee l (k+1+1+1) [[104,111,116],[115,101,99,114,101,116]] (by omega) hl (by simp) (by simp)) rfl rfl rfl zE_ ?_
   rintro x cs' ⟨v,rfl,hv,rfl⟩
   have hv:v.length≤200000:=by simp only [zI,zU,or_false] at hv;rcases hv with rfl|rfl<;>decide
   simp only [ZZ,WW,Ze,reduceCtorEq,zd,ze,za,zf,zb]
   exact qao [.adr (.b 0) 0,oo,.p (int t),.p (int kd),.p (.str id),.p (.str []),.p (.str v),.adr (.l 7) 0,oo,oo,oo,oo,oo,oo,oo,oo,oo,oo,oo,oo,oo,oo,oo,oo,oo,oo,oo,oo,oo,oo,oo,oo,oo,oo,oo,oo,oo,oo,oo,oo,oo,oo,oo,oo,oo,oo,oo,oo,oo,oo,oo,oo,oo,oo,oo,oo,oo,oo,oo,oo,oo,oo,oo,oo,oo,oo,oo,oo,oo,oo,oo,oo,oo,oo,oo,oo,oo,oo,oo,oo,oo,oo,oo,oo,oo,oo,oo,oo,oo,oo,oo] [(.b 0,.box ((stm l (k+1+1+1+1)).map .p) T),(.l 7,.box [.p (int 0),.p (int 0)] tSpn)] (by (simp only [ZZ,WW,Ze,reduceCtorEq,zd,ze,za,zf,zb];try trivial)) zE_ ⟨[],v,0,0,_,⟨by omega,by omega,hid,by simp,hv,by omega,by omega⟩,by omega,rfl,rfl⟩
  intro _
  simp only [ZZ,WW,Ze,reduceCtorEq,zd,ze,za,zf,zb]
  refine br ?_ ?_
  ·intro _
   simp only [ZZ,WW,Ze,reduceCtorEq,zd,ze,za,zf,zb]
   refine useS (qhZ l (k+1+1+1) [0,1,4] (by omega) hl (by simp) (by simp)) rfl rfl rfl zE_ ?_
   rintro x cs' ⟨a,rfl,ha,rfl⟩
   have ha:-1≤a∧a≤5761440:=by simp only [zI,zU,or_false] at ha;omega
   simp only [ZZ,WW,Ze,reduceCtorEq,zd,ze,za,zf,zb]
   refine drg0 ?_
   simp only [ZZ,WW,Ze,reduceCtorEq,zd,ze,za,zf,zb]
   refine useD (qhZ l (k+1+1+1+1) [1,3,9,600] (by omega) hl (by simp) (by simp)) ⟨_,_,1,rfl,by simp,rfl⟩ rfl rfl rfl zE_ (fun _=>⟨0,rfl⟩) ?_
   rintro x cs' ⟨b,rfl,hb,rfl⟩
   have hb:-1≤b∧b≤5761440:=by simp only [zI,zU,or_false] at hb;omega
   simp only [ZZ,WW,Ze,reduceCtorEq,zd,ze,za,zf,zb]
   refine ⟨qaj (by omega) (by omega),?_⟩
   exact qao [.adr (.b 0) 0,oo,.p (int t),.p (int kd),.p (.str id),.p (.str []),.p (.str []),.adr (.l 7) 0,oo,oo,oo,oo,oo,oo,oo,oo,oo,oo,oo,oo,oo,oo,oo,oo,oo,oo,oo,oo,oo,oo,oo,oo,oo,oo,oo,oo,oo,oo,oo,oo,oo,oo,oo,oo,oo,oo,oo,oo,oo,oo,oo,oo,oo,oo,oo,oo,oo,oo,oo,oo,oo,oo,oo,oo,oo,oo,oo,oo,oo,oo,oo,oo,oo,oo,oo,oo,oo,oo,oo,oo,oo,oo,oo,oo,oo,oo,oo,oo,oo,oo,oo] [(.b 0,.box ((stm l (k+1+1+1+1+1)).map .p) T),(.l 7,.box [.p (int a),.p (int (a+b))] tSpn)] (by (simp only [ZZ,WW,Ze,reduceCtorEq,zd,ze,za,zf,zb];try trivial)) zE_ ⟨[],[],a,(a+b),_,⟨by omega,by omega,hid,by simp,by simp,by omega,by omega⟩,by omega,rfl,rfl⟩
  ·intro _
   simp only [ZZ,WW,Ze,reduceCtorEq,zd,ze,za,zf,zb]
   refine useS (qee l (k+1+1+1) [[108,111,111,107,32,97,116,32,116,104,105,115],[120]] (by omega) hl (by simp) (by simp)) rfl rfl rfl zE_ ?_
   rintro x cs' ⟨v,rfl,hv,rfl⟩
   have hv:v.length≤200000:=by simp only [zI,zU,or_false] at hv;rcases hv with rfl|rfl<;>decide
   simp only [ZZ,WW,Ze,reduceCtorEq,zd,ze,za,zf,zb]
   exact qao [.adr (.b 0) 0,oo,.p (int t),.p (int kd),.p (.str id),.p (.str []),.p (.str v),.adr (.l 7) 0,oo,oo,oo,oo,oo,oo,oo,oo,oo,oo,oo,oo,oo,oo,oo,oo,oo,oo,oo,oo,oo,oo,oo,oo,oo,oo,oo,oo,oo,oo,oo,oo,oo,oo,oo,oo,oo,oo,oo,oo,oo,oo,oo,oo,oo,oo,oo,oo,oo,oo,oo,oo,oo,oo,oo,oo,oo,oo,oo,oo,oo,oo,oo,oo,oo,oo,oo,oo,oo,oo,oo,oo,oo,oo,oo,oo,oo,oo,oo,oo,oo,oo,oo] [(.b 0,.box ((stm l (k+1+1+1+1)).map .p) T),(.l 7,.box [.p (int 0),.p (int 0)] tSpn)] (by (simp only [ZZ,WW,Ze,reduceCtorEq,zd,ze,za,zf,zb];try trivial)) zE_ ⟨[],v,0,0,_,⟨by omega,by omega,hid,by simp,hv,by omega,by omega⟩,by omega,rfl,rfl⟩
 rintro fr L ⟨f,v,a,b,k2,hB,hk2,rfl,rfl⟩
 have c1:=hB.c1
 have c2:=hB.c2
 have c6:=hB.c6
 have c7:=hB.c7
 simp only [ZZ,WW,Ze,reduceCtorEq,zd,ze,za,zf,zb]
 refine useS (qmP l k2 12 (by omega) hl (by decide)) rfl rfl rfl zE_ ?_
 rintro x cs' ⟨z,rfl,rfl⟩
 simp only [ZZ,WW,Ze,reduceCtorEq,zd,ze,za,zf,zb]
 refine qeU (DoM2 l k) ?_ ?_ ?_
 ·intro _
  simp only [ZZ,WW,Ze,reduceCtorEq,zd,ze,za,zf,zb]
  refine useS (qb4 l (k2+1) 6 (by omega) hl (by decide)) rfl rfl rfl zE_ ?_
  rintro x cs' ⟨w,rfl,rfl⟩
  generalize qer w 6=w
  simp only [ZZ,WW,Ze,reduceCtorEq,zd,ze,za,zf,zb]
  refine br ?_ ?_
  ·intro _
   simp only [ZZ,WW,Ze,reduceCtorEq,zd,ze,za,zf,zb]
   refine useS (qhZ l (k2+1+1) [-1,5761440] (by omega) hl (by simp) (by simp)) rfl rfl rfl zE_ ?_
   rintro x cs' ⟨u,rfl,hu,rfl⟩
   have hu:-1≤u∧u≤5761440:=by simp only [zI,zU,or_false] at hu;omega
   simp only [ZZ,WW,Ze,reduceCtorEq,zd,ze,za,zf,zb]
   exact qao [.adr (.b 0) 0,oo,.p (int u),.p (int kd),.p (.str id),.p (.str f),.p (.str v),.adr (.l 7) 0,oo,oo,oo,oo,oo,oo,oo,oo,oo,oo,oo,oo,oo,oo,oo,oo,oo,oo,oo,oo,oo,oo,oo,oo,oo,oo,oo,oo,oo,oo,oo,oo,oo,oo,oo,oo,oo,oo,oo,oo,oo,oo,oo,oo,oo,oo,oo,oo,oo,oo,oo,oo,oo,oo,oo,oo,oo,oo,oo,oo,oo,oo,oo,oo,oo,oo,oo,oo,oo,oo,oo,oo,oo,oo,oo,oo,oo,oo,oo,oo,oo,oo,oo] [(.b 0,.box ((stm l (k2+1+1+1)).map .p) T),(.l 7,.box [.p (int a),.p (int b)] tSpn)] (by (simp only [ZZ,WW,Ze,reduceCtorEq,zd,ze,za,zf,zb];try trivial)) zE_ ⟨u,kd,id,f,v,a,b,_,{ hB with c1:=by omega },by omega,rfl,rfl⟩
  intro _
  simp only [ZZ,WW,Ze,reduceCtorEq,zd,ze,za,zf,zb]
  refine br ?_ ?_
  ·intro _
   simp only [ZZ,WW,Ze,reduceCtorEq,zd,ze,za,zf,zb]
   refine useS (qj1 l (k2+1+1) 0 7 (by omega) hl (by decide) (by decide) (by decide)) rfl rfl rfl zE_ ?_
   rintro x cs' ⟨u,rfl,hu1,hu2,rfl⟩
   simp only [ZZ,WW,Ze,reduceCtorEq,zd,ze,za,zf,zb]
   exact qao [.adr (.b 0) 0,oo,.p (int t),.p (int u),.p (.str id),.p (.str f),.p (.str v),.adr (.l 7) 0,oo,oo,oo,oo,oo,oo,oo,oo,oo,oo,oo,oo,oo,oo,oo,oo,oo,oo,oo,oo,oo,oo,oo,oo,oo,oo,oo,oo,oo,oo,oo,oo,oo,oo,oo,oo,oo,oo,oo,oo,oo,oo,oo,oo,oo,oo,oo,oo,oo,oo,oo,oo,oo,oo,oo,oo,oo,oo,oo,oo,oo,oo,oo,oo,oo,oo,oo,oo,oo,oo,oo,oo,oo,oo,oo,oo,oo,oo,oo,oo,oo,oo,oo] [(.b 0,.box ((stm l (k2+1+1+1)).map .p) T),(.l 7,.box [.p (int a),.p (int b)] tSpn)] (by (simp only [ZZ,WW,Ze,reduceCtorEq,zd,ze,za,zf,zb];try trivial)) zE_ ⟨t,u,id,f,v,a,b,_,{ hB with c2:=by omega },by omega,rfl,rfl⟩
  intro _
  simp only [ZZ,WW,Ze,reduceCtorEq,zd,ze,za,zf,zb]
  refine br ?_ ?_
  ·intro _
   simp only [ZZ,WW,Ze,reduceCtorEq,zd,ze,za,zf,zb]
   refine useS (qee l (k2+1+1) [[],[73]] (by omega) hl (by simp) (by simp)) rfl rfl rfl zE_ ?_
   rintro x cs' ⟨u,rfl,hu,rfl⟩
   have hu:u.length≤200000:=by simp only [zI,zU,or_false] at hu;rcases hu with rfl|rfl<;>decide
   simp only [ZZ,WW,Ze,reduceCtorEq,zd,ze,za,zf,zb]
   exact qao [.adr (.b 0) 0,oo,.p (int t),.p (int kd),.p (.str u),.p (.str f),.p (.str v),.adr (.l 7) 0,oo,oo,oo,oo,oo,oo,oo,oo,oo,oo,oo,oo,oo,oo,oo,oo,oo,oo,oo,oo,oo,oo,oo,oo,oo,oo,oo,oo,oo,oo,oo,oo,oo,oo,oo,oo,oo,oo,oo,oo,oo,oo,oo,oo,oo,oo,oo,oo,oo,oo,oo,oo,oo,oo,oo,oo,oo,oo,oo,oo,oo,oo,oo,oo,oo,oo,oo,oo,oo,oo,oo,oo,oo,oo,oo,oo,oo,oo,oo,oo,oo,oo,oo] [(.b 0,.box ((stm l (k2+1+1+1)).map .p) T),(.l 7,.box [.p (int a),.p (int b)] tSpn)] (by (simp only [ZZ,WW,Ze,reduceCtorEq,zd,ze,za,zf,zb];try trivial)) zE_ ⟨t,kd,u,f,v,a,b,_,{ hB with c3:=hu },by omega,rfl,rfl⟩
  intro _
  simp only [ZZ,WW,Ze,reduceCtorEq,zd,ze,za,zf,zb]
  refine br ?_ ?_
  ·intro _
   simp only [ZZ,WW,Ze,reduceCtorEq,zd,ze,za,zf,zb]
   refine useS (qee l (k2+1+1) [[],[119,97,110,116],[70]] (by omega) hl (by simp) (by simp)) rfl rfl rfl zE_ ?_
   rintro x cs' ⟨u,rfl,hu,rfl⟩
   have hu:u.length≤200000:=by simp only [zI,zU,or_false] at hu;rcases hu with rfl|rfl|rfl<;>decide
   simp only [ZZ,WW,Ze,reduceCtorEq,zd,ze,za,zf,zb]
   exact qao [.adr (.b 0) 0,oo,.p (int t),.p (int kd),.p (.str id),.p (.str u),.p (.str v),.adr (.l 7) 0,oo,oo,oo,oo,oo,oo,oo,oo,oo,oo,oo,oo,oo,oo,oo,oo,oo,oo,oo,oo,oo,oo,oo,oo,oo,oo,oo,oo,oo,oo,oo,oo,oo,oo,oo,oo,oo,oo,oo,oo,oo,oo,oo,oo,oo,oo,oo,oo,oo,oo,oo,oo,oo,oo,oo,oo,oo,oo,oo,oo,oo,oo,oo,oo,oo,oo,oo,oo,oo,oo,oo,oo,oo,oo,oo,oo,oo,oo,oo,oo,oo,oo,oo] [(.b 0,.box ((stm l (k2+1+1+1)).map .p) T),(.l 7,.box [.p (int a),.p (int b)] tSpn)] (by (simp only [ZZ,WW,Ze,reduceCtorEq,zd,ze,za,zf,zb];try trivial)) zE_ ⟨t,kd,id,u,v,a,b,_,{ hB with c4:=hu },by omega,rfl,rfl⟩
  intro _
  simp only [ZZ,WW,Ze,reduceCtorEq,zd,ze,za,zf,zb]
  refine br ?_ ?_
  ·intro _
   simp only [ZZ,WW,Ze,reduceCtorEq,zd,ze,za,zf,zb]
   refine use1 (qhj [118] 60 (by omega) (by simp)) rfl (.inl rfl) ?_
   have g0:(Lib.repeatL [118] 60).length=60:=by rw [Lib.repeatL_length];rfl
   generalize Lib.repeatL [118] 60=r0 at g0 ⊢
   simp only [ZZ,WW,Ze,reduceCtorEq,zd,ze,za,zf,zb]
   refine use1 (qhj [118] 61 (by omega) (by simp)) rfl (.inl rfl) ?_
   have g1:(Lib.repeatL [118] 61).length=61:=by rw [Lib.repeatL_length];rfl
   generalize Lib.repeatL [118] 61=r1 at g1 ⊢
   simp only [ZZ,WW,Ze,reduceCtorEq,zd,ze,za,zf,zb]
   refine use1 (qhj [118] 200 (by omega) (by simp)) rfl (.inl rfl) ?_
   have g2:(Lib.repeatL [118] 200).length=200:=by rw [Lib.repeatL_length];rfl
   generalize Lib.repeatL [118] 200=r2 at g2 ⊢
   simp only [ZZ,WW,Ze,reduceCtorEq,zd,ze,za,zf,zb]
   refine use1 (qhj [118] 201 (by omega) (by simp)) rfl (.inl rfl) ?_
   have g3:(Lib.repeatL [118] 201).length=201:=by rw [Lib.repeatL_length];rfl
   generalize Lib.repeatL [118] 201=r3 at g3 ⊢
   simp only [ZZ,WW,Ze,reduceCtorEq,zd,ze,za,zf,zb]
   refine useS (qee l (k2+1+1) [[],[32,120],[97,9,98],r0,r1,r2,r3] (by omega) hl (by simp) (by simp)) rfl rfl rfl zE_ ?_
   rintro x cs' ⟨u,rfl,hu,rfl⟩
   have hu:u.length≤200000:=by simp only [zI,zU,or_false] at hu;rcases hu with rfl|rfl|rfl|rfl|rfl|rfl|rfl<;>first|omega|decide
   simp only [ZZ,WW,Ze,reduceCtorEq,zd,ze,za,zf,zb]
   exact qao [.adr (.b 0) 0,oo,.p (int t),.p (int kd),.p (.str id),.p (.str f),.p (.str u),.adr (.l 7) 0,oo,oo,oo,oo,oo,oo,oo,oo,oo,oo,oo,oo,oo,oo,oo,oo,oo,oo,oo,oo,oo,oo,oo,oo,oo,oo,oo,oo,oo,oo,oo,oo,oo,oo,oo,oo,oo,oo,oo,oo,oo,oo,oo,oo,oo,oo,oo,oo,oo,oo,oo,oo,oo,oo,oo,oo,oo,oo,oo,oo,oo,oo,oo,oo,oo,oo,oo,oo,oo,oo,oo,oo,oo,oo,oo,oo,oo,oo,oo,oo,oo,oo,oo] [(.b 0,.box ((stm l (k2+1+1+1)).map .p) T),(.l 7,.box [.p (int a),.p (int b)] tSpn)] (by (simp only [ZZ,WW,Ze,reduceCtorEq,zd,ze,za,zf,zb];try trivial)) zE_ ⟨t,kd,id,f,u,a,b,_,{ hB with c5:=hu },by omega,rfl,rfl⟩
  intro _
  simp only [ZZ,WW,Ze,reduceCtorEq,zd,ze,za,zf,zb]
  refine useS (qhZ l (k2+1+1) [-1,0,5] (by omega) hl (by simp) (by simp)) rfl rfl rfl zE_ ?_
  rintro x cs' ⟨u,rfl,hu,rfl⟩
  have hu:-1≤u∧u≤5761440:=by simp only [zI,zU,or_false] at hu;omega
  simp only [ZZ,WW,Ze,reduceCtorEq,zd,ze,za,zf,zb]
  refine useS (qhZ l (k2+1+1+1) [0,5,20000,20001] (by omega) hl (by simp) (by simp)) rfl rfl rfl zE_ ?_
  rintro x cs' ⟨u2,rfl,hu2,rfl⟩
  have hu2:-1≤u2∧u2≤5761440:=by simp only [zI,zU,or_false] at hu2;omega
  simp only [ZZ,WW,Ze,reduceCtorEq,zd,ze,za,zf,zb]
  exact qao [.adr (.b 0) 0,oo,.p (int t),.p (int kd),.p (.str id),.p (.str f),.p (.str v),.adr (.l 7) 0,oo,oo,oo,oo,oo,oo,oo,oo,oo,oo,oo,oo,oo,oo,oo,oo,oo,oo,oo,oo,oo,oo,oo,oo,oo,oo,oo,oo,oo,oo,oo,oo,oo,oo,oo,oo,oo,oo,oo,oo,oo,oo,oo,oo,oo,oo,oo,oo,oo,oo,oo,oo,oo,oo,oo,oo,oo,oo,oo,oo,oo,oo,oo,oo,oo,oo,oo,oo,oo,oo,oo,oo,oo,oo,oo,oo,oo,oo,oo,oo,oo,oo,oo] [(.b 0,.box ((stm l (k2+1+1+1+1)).map .p) T),(.l 7,.box [.p (int u),.p (int u2)] tSpn)] (by (simp only [ZZ,WW,Ze,reduceCtorEq,zd,ze,za,zf,zb];try trivial)) zE_ ⟨t,kd,id,f,v,u,u2,_,{ hB with c6:=by omega,c7:=by omega },by omega,rfl,rfl⟩
 ·intro _
  simp only [ZZ,WW,Ze,reduceCtorEq,zd,ze,za,zf,zb]
  exact qao [.adr (.b 0) 0,oo,.p (int t),.p (int kd),.p (.str id),.p (.str f),.p (.str v),.adr (.l 7) 0,oo,oo,oo,oo,oo,oo,oo,oo,oo,oo,oo,oo,oo,oo,oo,oo,oo,oo,oo,oo,oo,oo,oo,oo,oo,oo,oo,oo,oo,oo,oo,oo,oo,oo,oo,oo,oo,oo,oo,oo,oo,oo,oo,oo,oo,oo,oo,oo,oo,oo,oo,oo,oo,oo,oo,oo,oo,oo,oo,oo,oo,oo,oo,oo,oo,oo,oo,oo,oo,oo,oo,oo,oo,oo,oo,oo,oo,oo,oo,oo,oo,oo,oo] [(.b 0,.box ((stm l (k2+1)).map .p) T),(.l 7,.box [.p (int a),.p (int b)] tSpn)] (by (simp only [ZZ,WW,Ze,reduceCtorEq,zd,ze,za,zf,zb];try trivial)) zE_ ⟨t,kd,id,f,v,a,b,_,hB,by omega,rfl,rfl⟩
 rintro fr L ⟨t,kd,id,f,v,a,b,k3,hB,hk3,rfl,rfl⟩
 simp only [ZZ,WW,Ze,reduceCtorEq,zd,ze,za,zf,zb]
 refine drg0 ?_
 simp only [ZZ,WW,Ze,reduceCtorEq,zd,ze,za,zf,zb]
 exact qfU (stm l k3) rfl ⟨t,kd,id,f,v,a,b,k3,rfl,hB,rfl,by omega⟩
end
end Go.Proofs.YtjgdjinhkgjpeaaGreatDoor
namespace Go.Proofs.YtjgdjinhkgjpeaaGreatDoor
open Nat renaming reduceAdd→zd,reduceEqDiff→zb,reduceLT→zf,reduceLeDiff→za,reduceMul→ze
section
variable {E:Envt}
def nxV (l:List Int) (k:Nat):Int:=if l.length=0 then ((k:Int)+1) * 7919 else qer (l.getD (k % l.length) 0) 1073741824+((k / l.length:Nat):Int) * (7919+((k % l.length:Nat):Int))
theorem qpb (l:List Int) (k:Nat) (n:Int) (hk:k≤1000000) (hl:l.length≤9223372036854775807) (h2:n≤9223372036854775807) :
  qdl Tryz.prog E 46 T (stm l k) [int n] (fun x cs'=>x=int (qer (nxV l k) n)∧cs'=stm l (k+1)):=by
 unfold qdl
 refine qgl mixed Tryz.func46 qcM ?_
 simp only [a0,l0,OS.ao,List.map_cons,List.map_nil,List.length_cons,List.length_nil,List.cons_append,List.nil_append,Nat.reduceSub,zd,List.replicate_succ,List.replicate_zero,stm,qbB,qby,ZZ,WW,Ze,reduceCtorEq,zd,ze,za,zf,zb]
 refine ⟨qaj (by omega) (by omega),?_⟩
 simp only [ints,ZZ,WW,Ze,reduceCtorEq,zd,ze,za,zf,zb]
 generalize hes:l.map (fun x=>[PV.int IntKind.i64 x])=es
 have hln:es.length=l.length:=by rw [← hes];simp
 have hc:[PV.sl 1 es,int ((k:Int)+1)]=[PV.sl 1 es,int ((k+1:Nat):Int)]:=by simp
 refine br ?_ ?_
 ·intro h
  simp only [ZZ,WW,Ze,reduceCtorEq,zd,ze,za,zf,zb]
  refine ⟨qaj (by omega) (by omega),?_⟩
  refine use1 (qhk _ _ h2) rfl (.inl rfl) ?_
  simp only [ZZ,WW,Ze,reduceCtorEq,zd,ze,za,zf,zb]
  exact qfU [PV.sl 1 es,int ((k:Int)+1)] rfl ⟨by rw [nxV,if_pos (by rw [← hln];have:=of_decide_eq_true h;omega)],hc⟩
 ·intro h
  have hne:¬ ((es.length:Int)=0):=of_decide_eq_false h
  simp only [ZZ,WW,Ze,reduceCtorEq,zd,ze,za,zf,zb]
  refine drg0 ?_
  simp only [ZZ,WW,Ze,reduceCtorEq,zd,ze,za,zf,zb]
  refine ⟨qaj (by omega) (by omega),⟨by omega,?_⟩⟩
  refine drg0 ?_
  have hkk:(k:Int)+1 - 1=k:=by omega
  have hrem:(k:Int).tmod (es.length:Int)=((k % es.length:Nat):Int):=by rw [Int.tmod_eq_emod_of_nonneg (by omega)];rfl
  have hquo:(k:Int).tdiv (es.length:Int)=((k / es.length:Nat):Int):=by rw [Int.tdiv_eq_ediv_of_nonneg (by omega)];rfl
  have hq1:k / es.length≤k:=Nat.div_le_self _ _
  have hr1:k % es.length≤k:=Nat.mod_le _ _
  have hr2:k % es.length < es.length:=Nat.mod_lt _ (by omega)
  obtain ⟨x,hx⟩:∃ x,l[k % es.length]?=some x:=⟨_,List.getElem?_eq_getElem (by omega)⟩
  have hg:es.getD (k % es.length) []=[PV.int .i64 x]:=by rw [← hes];exact qcw (by rw [hes];exact hx)
  have hv:nxV l k=qer x 1073741824+((k / es.length:Nat):Int) * (7919+((k % es.length:Nat):Int)):=by
   rw [nxV,if_neg (by rw [← hln];omega),← hln,List.getD_eq_getElem?_getD,hx]
   rfl
  simp only [ZZ,WW,Ze,reduceCtorEq,zd,ze,za,zf,zb,hkk,hrem,hquo,hg]
  generalize k / es.length=q at *
  generalize k % es.length=r at *
  refine ⟨qaj (by omega) (by omega),⟨hne,qaj (by omega) (by omega)⟩,⟨by omega,by omega⟩,by omega,?_⟩
  refine use1 (qhk _ _ (by decide)) rfl (.inl rfl) ?_
  have hb1:=qdC x 1073741824
  have hb2:=qdD x 1073741824 (by omega)
  have hm:(q:Int) * (7919+(r:Int))≤1000000 * 1007919:=Int.mul_le_mul (by omega) (by omega) (by omega) (by omega)
  have hm0:0≤(q:Int) * (7919+(r:Int)):=Int.mul_nonneg (by omega) (by omega)
  simp only [ZZ,WW,Ze,reduceCtorEq,zd,ze,za,zf,zb]
  refine ⟨qaj (by omega) (by omega),qaj (by omega) (by omega),qaj (by omega) (by omega),?_⟩
  refine use1 (qhk _ _ h2) rfl (.inl rfl) ?_
  simp only [ZZ,WW,Ze,reduceCtorEq,zd,ze,za,zf,zb]
  exact qfU [PV.sl 1 es,int ((k:Int)+1)] rfl ⟨by rw [hv],hc⟩
end
end Go.Proofs.YtjgdjinhkgjpeaaGreatDoor
namespace Go.Proofs.YtjgdjinhkgjpeaaGreatDoor
open Nat renaming reduceAdd→zd,reduceEqDiff→zb,reduceLT→zf,reduceLeDiff→za,reduceMul→ze,reduceSub→zu
open List renaming cons_append→zo,getElem?_eq_getElem→zr,length_cons→zk,length_nil→zp,map_cons→zl,mem_of_getElem?→zD,nil_append→zq,replicate_succ→zj,replicate_zero→zm
open Go.RowKit
def qbU:IC:=(.seq (.reg [qO 23 (.bin .lss (.t 22) (.t 21))]) (.seq (.cond (.t 23) .skip (.exit 0)) (.seq (.block 1 (.seq (.reg [qM 24 0,qO 25 (.call 46 [.t 24,.c (.int .i64 3)]),qM 5 25]) (.seq (.reg [qM 26 0,qO 27 (.call 46 [.t 26,.c (.int .i64 6)])]) (.block 2 (.seq (.reg [qO 62 (.bin .eql (.t 27) (.c (.int .i64 0))),qM 61 62]) (.cond (.t 61) (.seq (.drg [qM 64 4,qM 65 5,qO 66 (.ixa 1 (.t 64) (.t 65)),qO 67 (.ldl 1 false (.t 66)),qM 68 4,qM 69 0,qO 70 (.dcall true 46 [.t 69,.c (.int .i64 3)]),qO 71 (.ixa 1 (.t 68) (.t 70)),qO 72 (.ldl 1 false (.t 71)),qO 73 (.pcall 0 45 [.t 67,.t 72]),qM 63 73,qO 74 (.ext 0 (.t 63)),qO 75 (.ext 1 (.t 63)),qM 6 74,qM 7 75]) (.seq (.reg [qM 76 7,qO 77 (.bin .eql (.t 76) (.c (.int .i64 0)))]) (.cond (.t 77) (.reg [qM 78 4,qM 79 5,qM 80 6,qO 81 (.ixa 1 (.t 78) (.t 79)),⟨none,.st 1 (.t 81) (.t 80),none⟩]) .skip))) (.seq (.seq (.reg [qO 83 (.bin .eql (.t 27) (.c (.int .i64 1))),qM 82 83]) (.cond (.t 82) .skip (.reg [qO 84 (.bin .eql (.t 27) (.c (.int .i64 2))),qM 82 84]))) (.cut (.cond (.t 82) (.seq (.seq (.reg [qM 85 4,qM 86 5,qO 87 (.ixa 1 (.t 85) (.t 86)),qO 88 (.ld 1 false (.t 87)),qO 89 (.len (.t 88)),qO 90 (.bin .eql (.t 89) (.c (.int .i64 0)))]) (.cond (.t 90) (.exit 1) .skip)) (.seq (.drg [⟨none,.fz (.t 101),none⟩,qM 92 4,qM 93 5,qO 94 (.ixa 1 (.t 92) (.t 93)),qO 95 (.ldl 1 false (.t 94)),qM 96 3,qM 97 5,qO 98 (.ixa 1 (.t 96) (.t 97)),qO 99 (.ldl 1 false (.t 98)),qM 100 0,qO 101 (.dcall true 46 [.t 100,.c (.int .i64 50)]),qM 102 4,qM 103 5,qO 104 (.ixa 1 (.t 102) (.t 103)),qO 105 (.ldl 1 false (.t 104)),qM 106 0,qM 107 4,qM 108 5,qO 109 (.ixa 1 (.t 107) (.t 108)),qO 110 (.ldl 1 false (.t 109)),qO 111 (.len (.t 110)),qO 112 (.dcall true 46 [.t 106,.t 111]),qO 113 (.ixa 12 (.t 105) (.t 112)),qO 114 (.fla 0 (.t 113)),qO 115 (.ldl 2 true (.t 114)),qO 116 (.pcall 0 81 [.t 95,.t 99,.t 101,.t 115]),qM 91 116,qO 117 (.ext 0 (.t 91)),qO 118 (.ext 1 (.t 91)),qM 8 117,qM 9 118]) (.seq (.reg [qM 119 9,qO 120 (.bin .eql (.t 119) (.c (.int .i64 0)))]) (.cond (.t 120) (.reg [qM 121 4,qM 122 5,qM 123 8,qO 124 (.ixa 1 (.t 121) (.t 122)),⟨none,.st 1 (.t 124) (.t 123),none⟩]) .skip)))) (.seq (.reg [qM 29 0,qO 30 (.call 82 [.t 29]),qM 28 30,qO 31 (.ext 0 (.t 28)),qO 32 (.ext 1 (.t 28)),qO 33 (.ext 2 (.t 28)),qO 34 (.ext 3 (.t 28)),qO 35 (.ext 4 (.t 28)),qO 36 (.ext 5 (.t 28)),qO 15 (.alc 42 [.int .i64 0,.int .i64 0]),qM 10 31,qM 11 32,qM 12 33,qM 13 34,qM 14 35,⟨none,.st 2 (.t 15) (.t 36),none⟩]) (.seq (.drg [⟨none,.fz (.t 10),none⟩,qM 38 4,qM 39 5,qO 40 (.ixa 1 (.t 38) (.t 39)),qO 41 (.ld 1 false (.t 40)),qM 42 3,qM 43 5,qO 44 (.ixa 1 (.t 42) (.t 43)),qO 45 (.ld 1 false (.t 44)),qM 46 10,qM 47 11,qM 48 12,qM 49 13,qM 50 14,qO 51 (.ld 2 true (.t 15)),qO 52 (.pcall 0 83 [.t 41,.t 45,.t 46,.t 47,.t 48,.t 49,.t 50,.t 51]),qM 37 52,qO 53 (.ext 0 (.t 37)),qO 54 (.ext 1 (.t 37)),qM 16 53,qM 17 54]) (.seq (.reg [qM 55 17,qO 56 (.bin .eql (.t 55) (.c (.int .i64 0)))]) (.cond (.t 56) (.reg [qM 57 4,qM 58 5,qM 59 16,qO 60 (.ixa 1 (.t 57) (.t 58)),⟨none,.st 1 (.t 60) (.t 59),none⟩]) .skip))))))))))))) (.cut (.reg [qO 125 (.bin .add (.t 22) (.c (.int .i64 1))),qM 22 125])))))
def qcq:IC:=(.seq (.reg [qO 2 (.mov (.c (.nl 1)))]) (.seq (.reg [qO 18 (.bsl 1 [.c (.str [97]),.c (.str [98]),.c (.str [99])]),qM 3 18]) (.seq (.reg [qO 19 (.mks 26 1 24 [.nl 12] (.c (.int .i64 3)) (.c (.int .i64 3))),qM 4 19]) (.seq (.seq (.reg [qM 20 0,qO 21 (.call 46 [.t 20,.c (.int .i64 18)]),qO 22 (.mov (.c (.int .i64 0)))]) (.block 0 (.loop qbU))) (.seq (.reg [qM 126 4,qM 2 126]) .ret)))))
def qcg:List IRes:=[.t 2]
theorem qfg:chkF Tryz.prog Tryz.f44 qcq qcg 127=true:=by kernel_rfl
def qbV:IC:=(.seq (.reg [qO 12 (.bin .lss (.t 11) (.t 10))]) (.seq (.cond (.t 12) .skip (.exit 0)) (.seq (.block 1 (.seq (.reg [qO 13 (.ixa 1 (.t 9) (.t 11)),qO 14 (.ld 1 false (.t 13)),qM 5 14]) (.seq (.reg [qM 16 3,qM 17 5,qO 18 (.call 45 [.t 16,.t 17]),qM 15 18,qO 19 (.ext 0 (.t 15)),qO 20 (.ext 1 (.t 15)),qM 6 19,qM 7 20]) (.seq (.reg [qM 21 7,qO 22 (.bin .eql (.t 21) (.c (.int .i64 0)))]) (.cond (.t 22) (.reg [qM 23 6,qM 3 23]) .skip))))) (.cut (.reg [qO 24 (.bin .add (.t 11) (.c (.int .i64 1))),qM 11 24])))))
def qct:IC:=(.seq (.reg [qO 2 (.mov (.c (.nl 12)))]) (.seq (.reg [qO 3 (.mov (.c (.nl 12)))]) (.seq (.seq (.reg [qM 8 0,qO 9 (.call 44 [.t 8]),qO 10 (.len (.t 9)),qO 11 (.mov (.c (.int .i64 0)))]) (.block 0 (.loop qbV))) (.seq (.reg [qM 25 3,qM 2 25]) .ret))))
def qcj:List IRes:=[.t 2]
theorem qfj:chkF Tryz.prog Tryz.f13 qct qcj 26=true:=by kernel_rfl
theorem qkD {i:Nat} {Q1 Q2:AQ} (hq:∀ e fr L,Q1 e fr L→Q2 e fr L) (e:Exit) (fr:List AV) (L:Objs) (h:qb3 i Q1 e fr L):qb3 i Q2 e fr L:=by
 cases e with
 |normal=>exact hq _ fr L h
 |exit j=>
  simp only [qb3] at h ⊢
  split
  ·rename_i hj;rw [if_pos hj] at h;exact hq _ fr L h
  ·rename_i hj;rw [if_neg hj] at h;exact hq _ fr L h
 |_=>exact hq _ fr L h
theorem qsi {P:Program} {E:Envt} {fr:List AV} {L:Objs} {Q:AQ} {b:Bool} {x y r:IC} {i j:Nat} (M:List AV→Objs→Prop) (h1:b=true→awp P E x fr L (qb3 i (qb3 j (midQ E M Q)))) (h2:b=false→awp P E y fr L (qb3 i (qb3 j (midQ E M Q)))) (hM:∀ fr L,M fr L→awp P E r fr L Q):BrC P E b x y fr L (qb3 i (qb3 j (qj4 P E (.cut r) Q))):=by
 have hn:∀ e fr L,midQ E M Q e fr L→qj4 P E (.cut r) Q e fr L:=by
  intro e fr L h
  cases e with
  |normal=>
   obtain ⟨fr',L',a1,a3⟩:=h
   exact ⟨fr',L',a1,hM fr' L' a3⟩
  |_=>exact h
 have hq:=qkD (i:=i) (qkD (i:=j) hn)
 exact ⟨fun e=>qhh x fr L _ _ hq (h1 e),fun e=>qhh y fr L _ _ hq (h2 e)⟩
abbrev tDL:Nat:=26
def SlD (x:PV) (l:List Dd):Prop:=(x=.nl 12∧l=[])∨x=.sl 12 (ddE l)
def StO (c:Int) (s:List (List Dd)):Prop:=s.length=3∧∀ l∈s,RD c l
def stE (s:List (List Dd)):List (List PV):=s.map fun l=>[.sl 12 (ddE l)]
theorem qdX (s:List (List Dd)):(stE s).length=s.length:=by simp [stE]
theorem qok {s:List (List Dd)} {k:Nat} {l:List Dd} (h:s[k]?=some l):(stE s).getD k []=[.sl 12 (ddE l)]:=qcw h
theorem qoj (s:List (List Dd)) (k:Nat) (l:List Dd):(stE s).set k [.sl 12 (ddE l)]=stE (s.set k l):=by simp [stE]
theorem StO.le {c c':Int} {s:List (List Dd)} (h:StO c s) (hc:c≤c'):StO c' s:=⟨h.1,fun x hx=>(h.2 x hx).le hc⟩
theorem StO.set {c:Int} {s:List (List Dd)} (h:StO c s) (k:Nat) {l:List Dd} (hl:RD c l):StO c (s.set k l):=by
 refine ⟨by simp [h.1],fun x hx=>?_⟩
 rcases List.mem_or_eq_of_mem_set hx with hx|rfl
 ·exact h.2 x hx
 ·exact hl
theorem qyj {s os:List UInt8} {t k on:Int} (hs:s.length≤200000) (ho:os.length≤200000) (ht:0≤t∧t < 50) (hk:k=3∨k=6) (hn:-1000000000000≤on∧on≤1000000000000):DdB (undD s t k os on):=
 ⟨hs,by simp [undD],by simp [undD],by simp [undD],ho,by simp [undD],by simp [undD],by simp only [undD];omega,by simp only [undD];omega,by simp [undD],by simp [undD],hn⟩
set_option maxRecDepth 100000 in
set_option maxHeartbeats 4000000 in
theorem qt4 (l:List Int) (k:Nat) (hk:k≤500000) (hl:l.length≤9223372036854775807) :
  qsu Tryz.prog ED 44 T (stm l k) [] tDL 1 (fun es cs'=>∃ (s:List (List Dd)) (k':Nat),es=stE s∧StO 100 s∧cs'=stm l k'∧k'≤k+1000):=by
 unfold qsu
 refine qpQ mixed Tryz.func44 qfg ?_
 simp only [a0,l0,OS.ao,zl,List.map_nil,zk,zp,zo,zq,zu,zd,zj,zm,qcq,qcg,ZZ,WW,Ze,reduceCtorEq,zd,ze,za,zf,zb]
 refine ⟨by omega,?_⟩
 refine useS (qb4 l k 18 (by omega) hl (by decide)) rfl rfl rfl zE_ ?_
 rintro x cs' ⟨y,rfl,rfl⟩
 have b1:=qdC y 18
 have b2:=qdD y 18 (by decide)
 obtain ⟨q,hq⟩:∃ q:Nat,qer y 18=(q:Int):=⟨(qer y 18).toNat,by omega⟩
 rw [hq] at b2 ⊢
 clear hq
 obtain ⟨nm,hnm⟩:∃ nm:List (List PV),nm=[[.str [97]],[.str [98]],[.str [99]]]:=⟨_,rfl⟩
 rw [← hnm]
 have hnl:nm.length=3:=by rw [hnm];rfl
 have hng:∀ j,j < 3→∃ s:List UInt8,nm.getD j []=[.str s]∧s.length≤200000:=by
  intro j hj
  rw [hnm]
  rcases j with _|_|_|j
  ·exact ⟨_,rfl,by decide⟩
  ·exact ⟨_,rfl,by decide⟩
  ·exact ⟨_,rfl,by decide⟩
  ·omega
 clear hnm
 simp only [ZZ,WW,Ze,reduceCtorEq,zd,ze,za,zf,zb]
 refine qag (fun n fr L=>∃ (i:Nat) (k':Nat) (s:List (List Dd)),i≤q∧n=q - i∧(k'≤k+1+20 * i)∧(StO i s)∧fr=[.adr (.b 0) 0,oo,oo,.p (.sl 1 nm),.row (.l 19),oo,oo,oo,oo,oo,oo,oo,oo,oo,oo,oo,oo,oo,oo,oo,oo,.p (int (q:Nat)),.p (int (i:Nat)),oo,oo,oo,oo,oo,oo,oo,oo,oo,oo,oo,oo,oo,oo,oo,oo,oo,oo,oo,oo,oo,oo,oo,oo,oo,oo,oo,oo,oo,oo,oo,oo,oo,oo,oo,oo,oo,oo,oo,oo,oo,oo,oo,oo,oo,oo,oo,oo,oo,oo,oo,oo,oo,oo,oo,oo,oo,oo,oo,oo,oo,oo,oo,oo,oo,oo,oo,oo,oo,oo,oo,oo,oo,oo,oo,oo,oo,oo,oo,oo,oo,oo,oo,oo,oo,oo,oo,oo,oo,oo,oo,oo,oo,oo,oo,oo,oo,oo,oo,oo,oo,oo,oo,oo]∧L=[(.b 0,.box ((stm l k').map .p) T),(.l 19,.row (stE s) tDL 1 true)]) (q) [.adr (.b 0) 0,oo,oo,.p (.sl 1 nm),.row (.l 19),oo,oo,oo,oo,oo,oo,oo,oo,oo,oo,oo,oo,oo,oo,oo,oo,.p (int (q:Nat)),.p (int (0:Nat)),oo,oo,oo,oo,oo,oo,oo,oo,oo,oo,oo,oo,oo,oo,oo,oo,oo,oo,oo,oo,oo,oo,oo,oo,oo,oo,oo,oo,oo,oo,oo,oo,oo,oo,oo,oo,oo,oo,oo,oo,oo,oo,oo,oo,oo,oo,oo,oo,oo,oo,oo,oo,oo,oo,oo,oo,oo,oo,oo,oo,oo,oo,oo,oo,oo,oo,oo,oo,oo,oo,oo,oo,oo,oo,oo,oo,oo,oo,oo,oo,oo,oo,oo,oo,oo,oo,oo,oo,oo,oo,oo,oo,oo,oo,oo,oo,oo,oo,oo,oo,oo,oo,oo,oo] [(.b 0,.box ((stm l (k+1)).map .p) T),(.l 19,.row (stE ([[],[],[]])) tDL 1 true)] (by (simp only [ZZ,WW,Ze,reduceCtorEq,zd,ze,za,zf,zb];try trivial)) (by simp only [ZZ,WW,Ze,reduceCtorEq,zd,ze,za,zf,zb];try rfl) ⟨0,k+1,[[],[],[]],by omega,by omega,by omega,(⟨rfl,fun x hx=>(show x=[] by simpa using hx) ▸ RD.nil _⟩),rfl,rfl⟩ ?_
 rintro n fr L ⟨i,k',s,hi,rfl,hk',hS,rfl,rfl⟩
 simp only [qbU,ZZ,WW,Ze,reduceCtorEq,zd,ze,za,zf,zb]
 refine br ?_ ?_
 rotate_left
 ·intro h
  have hge:q≤i:=by have:=of_decide_eq_false h;omega
  simp only [ZZ,WW,Ze,reduceCtorEq,zd,ze,za,zf,zb]
  exact qxP 19 _ (stm l k') rfl rfl rfl ⟨s,k',rfl,hS.le (by omega),rfl,by omega⟩
 intro h
 have hlt:i < q:=by have:=of_decide_eq_true h;omega
 have hs3:=hS.1
 simp only [ZZ,WW,Ze,reduceCtorEq,zd,ze,za,zf,zb]
 refine useS (qb4 l k' 3 (by omega) hl (by decide)) rfl rfl rfl zE_ ?_
 rintro x cs' ⟨y1,rfl,rfl⟩
 obtain ⟨j,hj,hy1⟩:=qdW y1 3 (by omega)
 rw [show ((3:Nat):Int)=3 from rfl] at hy1
 rw [hy1]
 obtain ⟨l0,hx0⟩:∃ l0,s[j]?=some l0:=⟨_,zr (by omega)⟩
 have hR0:=hS.2 l0 (zD hx0)
 have hg0:=qok hx0
 obtain ⟨sn,hsn,hsl⟩:=hng j hj
 simp only [ZZ,WW,Ze,reduceCtorEq,zd,ze,za,zf,zb]
 refine useS (qb4 l (k'+1) 6 (by omega) hl (by decide)) rfl rfl rfl zE_ ?_
 rintro x cs' ⟨y2,rfl,rfl⟩
 generalize qer y2 6=w
 simp only [ZZ,WW,Ze,reduceCtorEq,zd,ze,za,zf,zb]
 refine qsi (fun fr L=>∃ (k2:Nat) (s2:List (List Dd)),k2≤k'+20∧StO (i+1) s2∧fr=[.adr (.b 0) 0,oo,oo,.p (.sl 1 nm),.row (.l 19),oo,oo,oo,oo,oo,oo,oo,oo,oo,oo,oo,oo,oo,oo,oo,oo,.p (int (q:Nat)),.p (int (i:Nat)),oo,oo,oo,oo,oo,oo,oo,oo,oo,oo,oo,oo,oo,oo,oo,oo,oo,oo,oo,oo,oo,oo,oo,oo,oo,oo,oo,oo,oo,oo,oo,oo,oo,oo,oo,oo,oo,oo,oo,oo,oo,oo,oo,oo,oo,oo,oo,oo,oo,oo,oo,oo,oo,oo,oo,oo,oo,oo,oo,oo,oo,oo,oo,oo,oo,oo,oo,oo,oo,oo,oo,oo,oo,oo,oo,oo,oo,oo,oo,oo,oo,oo,oo,oo,oo,oo,oo,oo,oo,oo,oo,oo,oo,oo,oo,oo,oo,oo,oo,oo,oo,oo,oo,oo]∧L=[(.b 0,.box ((stm l k2).map .p) T),(.l 19,.row (stE s2) tDL 1 true)]) ?_ ?_ ?_
 ·intro _
  simp only [ZZ,WW,Ze,reduceCtorEq,zd,ze,za,zf,zb]
  obtain ⟨j2,hj2,hv2⟩:=qdW (nxV l (k'+1+1)) 3 (by omega)
  rw [show ((3:Nat):Int)=3 from rfl] at hv2
  obtain ⟨l1,hx1⟩:∃ l1,s[j2]?=some l1:=⟨_,zr (by omega)⟩
  have hR1:=hS.2 l1 (zD hx1)
  have hg1:=qok hx1
  have e0:=hR0.len
  have e1:=hR1.len
  refine drg1 (x1:=.tup [.sl 12 (ddE (mrgV l0 l1).1),int (mrgV l0 l1).2]) ?_
  simp only [ZZ,WW,Ze,reduceCtorEq,zd,ze,za,zf,zb,hg0,qdX]
  refine ⟨⟨by omega,by omega⟩,by omega,?_⟩
  refine useD (qpb l (k'+1+1) 3 (by omega) hl (by decide)) ⟨_,_,rfl,rfl⟩ rfl rfl rfl zE_ (fun _=>⟨0,rfl⟩) ?_
  rintro x cs' ⟨rfl,rfl⟩
  rw [hv2]
  simp only [ZZ,WW,Ze,reduceCtorEq,zd,ze,za,zf,zb,hg1,qdX]
  refine ⟨⟨by omega,by omega⟩,by omega,usep (qf6 l0 l1 (by omega) (by omega) hR0.b hR1.b) rfl (.inl rfl),?_⟩
  refine br ?_ ?_
  ·intro _
   simp only [ZZ,WW,Ze,reduceCtorEq,zd,ze,za,zf,zb,qdX]
   refine ⟨⟨by omega,by omega⟩,by omega,?_⟩
   exact qao [.adr (.b 0) 0,oo,oo,.p (.sl 1 nm),.row (.l 19),oo,oo,oo,oo,oo,oo,oo,oo,oo,oo,oo,oo,oo,oo,oo,oo,.p (int (q:Nat)),.p (int (i:Nat)),oo,oo,oo,oo,oo,oo,oo,oo,oo,oo,oo,oo,oo,oo,oo,oo,oo,oo,oo,oo,oo,oo,oo,oo,oo,oo,oo,oo,oo,oo,oo,oo,oo,oo,oo,oo,oo,oo,oo,oo,oo,oo,oo,oo,oo,oo,oo,oo,oo,oo,oo,oo,oo,oo,oo,oo,oo,oo,oo,oo,oo,oo,oo,oo,oo,oo,oo,oo,oo,oo,oo,oo,oo,oo,oo,oo,oo,oo,oo,oo,oo,oo,oo,oo,oo,oo,oo,oo,oo,oo,oo,oo,oo,oo,oo,oo,oo,oo,oo,oo,oo,oo,oo,oo] [(.b 0,.box ((stm l (k'+1+1+1)).map .p) T),(.l 19,.row (stE (s.set j (mrgV l0 l1).1)) tDL 1 true)] (by (simp only [ZZ,WW,Ze,reduceCtorEq,zd,ze,za,zf,zb];try trivial)) (by rw [hg0,List.set_cons_zero,qoj];simp only [ZZ,WW,Ze,reduceCtorEq,zd,ze,za,zf,zb]) ⟨_,_,by omega,(hS.set j (hR0.merge hR1)).le (by omega),rfl,rfl⟩
  ·intro _
   simp only [ZZ,WW,Ze,reduceCtorEq,zd,ze,za,zf,zb]
   exact qao [.adr (.b 0) 0,oo,oo,.p (.sl 1 nm),.row (.l 19),oo,oo,oo,oo,oo,oo,oo,oo,oo,oo,oo,oo,oo,oo,oo,oo,.p (int (q:Nat)),.p (int (i:Nat)),oo,oo,oo,oo,oo,oo,oo,oo,oo,oo,oo,oo,oo,oo,oo,oo,oo,oo,oo,oo,oo,oo,oo,oo,oo,oo,oo,oo,oo,oo,oo,oo,oo,oo,oo,oo,oo,oo,oo,oo,oo,oo,oo,oo,oo,oo,oo,oo,oo,oo,oo,oo,oo,oo,oo,oo,oo,oo,oo,oo,oo,oo,oo,oo,oo,oo,oo,oo,oo,oo,oo,oo,oo,oo,oo,oo,oo,oo,oo,oo,oo,oo,oo,oo,oo,oo,oo,oo,oo,oo,oo,oo,oo,oo,oo,oo,oo,oo,oo,oo,oo,oo,oo,oo] [(.b 0,.box ((stm l (k'+1+1+1)).map .p) T),(.l 19,.row (stE s) tDL 1 true)] (by (simp only [ZZ,WW,Ze,reduceCtorEq,zd,ze,za,zf,zb];try trivial)) zE_ ⟨_,_,by omega,hS.le (by omega),rfl,rfl⟩
 ·intro _
  simp only [ZZ,WW,Ze,reduceCtorEq,zd,ze,za,zf,zb]
  refine qeU (fun fr L=>fr=[.adr (.b 0) 0,oo,oo,.p (.sl 1 nm),.row (.l 19),.p (int (j:Nat)),oo,oo,oo,oo,oo,oo,oo,oo,oo,oo,oo,oo,oo,oo,oo,.p (int (q:Nat)),.p (int (i:Nat)),oo,oo,oo,oo,oo,oo,oo,oo,oo,oo,oo,oo,oo,oo,oo,oo,oo,oo,oo,oo,oo,oo,oo,oo,oo,oo,oo,oo,oo,oo,oo,oo,oo,oo,oo,oo,oo,oo,oo,oo,oo,oo,oo,oo,oo,oo,oo,oo,oo,oo,oo,oo,oo,oo,oo,oo,oo,oo,oo,.p (.bool (decide (w=1) || decide (w=2))),oo,oo,oo,oo,oo,oo,oo,oo,oo,oo,oo,oo,oo,oo,oo,oo,oo,oo,oo,oo,oo,oo,oo,oo,oo,oo,oo,oo,oo,oo,oo,oo,oo,oo,oo,oo,oo,oo,oo,oo,oo,oo,oo,oo]∧L=[(.b 0,.box ((stm l (k'+1+1)).map .p) T),(.l 19,.row (stE s) tDL 1 true)]) ?_ ?_ ?_
  ·intro h1
   simp only [ZZ,WW,Ze,reduceCtorEq,zd,ze,za,zf,zb]
   exact qao _ _ (by rw [h1];(simp only [ZZ,WW,Ze,reduceCtorEq,zd,ze,za,zf,zb];try trivial)) zE_ ⟨rfl,rfl⟩
  ·intro h1
   simp only [ZZ,WW,Ze,reduceCtorEq,zd,ze,za,zf,zb]
   exact qao _ _ (by rw [h1];(simp only [ZZ,WW,Ze,reduceCtorEq,zd,ze,za,zf,zb];try trivial)) zE_ ⟨rfl,rfl⟩
  rintro fr L ⟨rfl,rfl⟩
  simp only [ZZ,WW,Ze,reduceCtorEq,zd,ze,za,zf,zb]
  refine br ?_ ?_
  ·intro _
   simp only [ZZ,WW,Ze,reduceCtorEq,zd,ze,za,zf,zb,hg0,qdX,qac]
   refine ⟨⟨by omega,by omega⟩,by omega,?_⟩
   refine br ?_ ?_
   ·intro _
    simp only [ZZ,WW,Ze,reduceCtorEq,zd,ze,za,zf,zb]
    exact qao [.adr (.b 0) 0,oo,oo,.p (.sl 1 nm),.row (.l 19),oo,oo,oo,oo,oo,oo,oo,oo,oo,oo,oo,oo,oo,oo,oo,oo,.p (int (q:Nat)),.p (int (i:Nat)),oo,oo,oo,oo,oo,oo,oo,oo,oo,oo,oo,oo,oo,oo,oo,oo,oo,oo,oo,oo,oo,oo,oo,oo,oo,oo,oo,oo,oo,oo,oo,oo,oo,oo,oo,oo,oo,oo,oo,oo,oo,oo,oo,oo,oo,oo,oo,oo,oo,oo,oo,oo,oo,oo,oo,oo,oo,oo,oo,oo,oo,oo,oo,oo,oo,oo,oo,oo,oo,oo,oo,oo,oo,oo,oo,oo,oo,oo,oo,oo,oo,oo,oo,oo,oo,oo,oo,oo,oo,oo,oo,oo,oo,oo,oo,oo,oo,oo,oo,oo,oo,oo,oo,oo] [(.b 0,.box ((stm l (k'+1+1)).map .p) T),(.l 19,.row (stE s) tDL 1 true)] (by (simp only [ZZ,WW,Ze,reduceCtorEq,zd,ze,za,zf,zb];try trivial)) zE_ ⟨_,_,by omega,hS.le (by omega),rfl,rfl⟩
   intro h0
   have h0:0 < l0.length:=by have:=of_decide_eq_false h0;omega
   simp only [ZZ,WW,Ze,reduceCtorEq,zd,ze,za,zf,zb]
   have t1:=qdC (nxV l (k'+1+1)) 50
   have t2:=qdD (nxV l (k'+1+1)) 50 (by decide)
   obtain ⟨t,ht⟩:∃ t,qer (nxV l (k'+1+1)) 50=t:=⟨_,rfl⟩
   rw [ht] at t1 t2
   obtain ⟨j2,hj2,hv2⟩:=qdW (nxV l (k'+1+1+1)) l0.length h0
   obtain ⟨d,hd⟩:∃ d,l0[j2]?=some d:=⟨_,zr hj2⟩
   have hgd:=qbC hd
   have dB:=hR0.b.get hd
   have uB:∀ k:Int,k=3∨k=6→DdB (undD sn t k d.site d.no):=fun k hk=>qyj hsl dB.b1 ⟨t1,t2⟩ hk dB.c1
   have hU:=qss l0 sn t d.site d.no (hR0.le (by omega)) (uB 3 (.inl rfl))
   have e0:=hR0.len
   refine drg1 (x1:=.tup [.sl 12 (ddE (undV l0 sn t d.site d.no).1),int (undV l0 sn t d.site d.no).2]) ?_
   simp only [ZZ,WW,Ze,reduceCtorEq,zd,ze,za,zf,zb,hg0,hsn,qdX,hnl]
   refine ⟨⟨by omega,by omega⟩,by omega,⟨by omega,by omega⟩,by omega,?_⟩
   refine useD (qpb l (k'+1+1) 50 (by omega) hl (by decide)) ⟨_,_,rfl,rfl⟩ rfl rfl rfl zE_ (fun _=>⟨0,rfl⟩) ?_
   rintro x cs' ⟨rfl,rfl⟩
   rw [ht]
   simp only [ZZ,WW,Ze,reduceCtorEq,zd,ze,za,zf,zb,hg0,qdX,qac]
   refine ⟨⟨by omega,by omega⟩,by omega,⟨by omega,by omega⟩,by omega,?_⟩
   refine useD (qpb l (k'+1+1+1) (l0.length:Nat) (by omega) hl (by omega)) ⟨_,_,rfl,rfl⟩ rfl rfl rfl zE_ (fun _=>⟨0,rfl⟩) ?_
   rintro x cs' ⟨rfl,rfl⟩
   rw [hv2]
   simp only [ZZ,WW,Ze,reduceCtorEq,zd,ze,za,zf,zb,hgd,qac,ddC]
   refine ⟨⟨by omega,by omega⟩,by omega,usep hU rfl (.inl rfl),?_⟩
   refine br ?_ ?_
   ·intro _
    simp only [ZZ,WW,Ze,reduceCtorEq,zd,ze,za,zf,zb,qdX]
    refine ⟨⟨by omega,by omega⟩,by omega,?_⟩
    exact qao [.adr (.b 0) 0,oo,oo,.p (.sl 1 nm),.row (.l 19),oo,oo,oo,oo,oo,oo,oo,oo,oo,oo,oo,oo,oo,oo,oo,oo,.p (int (q:Nat)),.p (int (i:Nat)),oo,oo,oo,oo,oo,oo,oo,oo,oo,oo,oo,oo,oo,oo,oo,oo,oo,oo,oo,oo,oo,oo,oo,oo,oo,oo,oo,oo,oo,oo,oo,oo,oo,oo,oo,oo,oo,oo,oo,oo,oo,oo,oo,oo,oo,oo,oo,oo,oo,oo,oo,oo,oo,oo,oo,oo,oo,oo,oo,oo,oo,oo,oo,oo,oo,oo,oo,oo,oo,oo,oo,oo,oo,oo,oo,oo,oo,oo,oo,oo,oo,oo,oo,oo,oo,oo,oo,oo,oo,oo,oo,oo,oo,oo,oo,oo,oo,oo,oo,oo,oo,oo,oo,oo] [(.b 0,.box ((stm l (k'+1+1+1+1)).map .p) T),(.l 19,.row (stE (s.set j (undV l0 sn t d.site d.no).1)) tDL 1 true)] (by (simp only [ZZ,WW,Ze,reduceCtorEq,zd,ze,za,zf,zb];try trivial)) (by rw [hg0,List.set_cons_zero,qoj];simp only [ZZ,WW,Ze,reduceCtorEq,zd,ze,za,zf,zb]) ⟨_,_,by omega,(hS.le (c':=(i:Int)+1) (by omega)).set j (hR0.undVr (by omega) (by omega) uB (by omega)),rfl,rfl⟩
   ·intro _
    simp only [ZZ,WW,Ze,reduceCtorEq,zd,ze,za,zf,zb]
    exact qao [.adr (.b 0) 0,oo,oo,.p (.sl 1 nm),.row (.l 19),oo,oo,oo,oo,oo,oo,oo,oo,oo,oo,oo,oo,oo,oo,oo,oo,.p (int (q:Nat)),.p (int (i:Nat)),oo,oo,oo,oo,oo,oo,oo,oo,oo,oo,oo,oo,oo,oo,oo,oo,oo,oo,oo,oo,oo,oo,oo,oo,oo,oo,oo,oo,oo,oo,oo,oo,oo,oo,oo,oo,oo,oo,oo,oo,oo,oo,oo,oo,oo,oo,oo,oo,oo,oo,oo,oo,oo,oo,oo,oo,oo,oo,oo,oo,oo,oo,oo,oo,oo,oo,oo,oo,oo,oo,oo,oo,oo,oo,oo,oo,oo,oo,oo,oo,oo,oo,oo,oo,oo,oo,oo,oo,oo,oo,oo,oo,oo,oo,oo,oo,oo,oo,oo,oo,oo,oo,oo,oo] [(.b 0,.box ((stm l (k'+1+1+1+1)).map .p) T),(.l 19,.row (stE s) tDL 1 true)] (by (simp only [ZZ,WW,Ze,reduceCtorEq,zd,ze,za,zf,zb];try trivial)) zE_ ⟨_,_,by omega,hS.le (by omega),rfl,rfl⟩
  ·intro _
   simp only [ZZ,WW,Ze,reduceCtorEq,zd,ze,za,zf,zb]
   refine useS (quf l (k'+1+1) (by omega) hl) rfl rfl rfl zE_ ?_
   rintro x cs' ⟨t,kd,id,f,v,a,b,k3,rfl,hDo,rfl,hk3⟩
   simp only [ZZ,WW,Ze,reduceCtorEq,zd,ze,za,zf,zb]
   have hA:=quh l0 sn t kd id f v a b (by have:=hR0.len;omega) hR0.b (hR0.le (c':=100000) (by omega)).n (hDo.dd hsl) (hR0.fresh _)
   refine drg1 (x1:=.tup [.sl 12 (ddE (addV l0 sn t kd id f v a b).1),int (addV l0 sn t kd id f v a b).2]) ?_
   simp only [ZZ,WW,Ze,reduceCtorEq,zd,ze,za,zf,zb,hg0,hsn,qdX,hnl]
   refine ⟨⟨by omega,by omega⟩,by omega,⟨by omega,by omega⟩,by omega,usep hA rfl (.inl rfl),?_⟩
   refine br ?_ ?_
   ·intro h0
    have h0:(addV l0 sn t kd id f v a b).2=0:=of_decide_eq_true h0
    simp only [ZZ,WW,Ze,reduceCtorEq,zd,ze,za,zf,zb,qdX]
    refine ⟨⟨by omega,by omega⟩,by omega,?_⟩
    exact qao [.adr (.b 0) 0,oo,oo,.p (.sl 1 nm),.row (.l 19),oo,oo,oo,oo,oo,oo,oo,oo,oo,oo,oo,oo,oo,oo,oo,oo,.p (int (q:Nat)),.p (int (i:Nat)),oo,oo,oo,oo,oo,oo,oo,oo,oo,oo,oo,oo,oo,oo,oo,oo,oo,oo,oo,oo,oo,oo,oo,oo,oo,oo,oo,oo,oo,oo,oo,oo,oo,oo,oo,oo,oo,oo,oo,oo,oo,oo,oo,oo,oo,oo,oo,oo,oo,oo,oo,oo,oo,oo,oo,oo,oo,oo,oo,oo,oo,oo,oo,oo,oo,oo,oo,oo,oo,oo,oo,oo,oo,oo,oo,oo,oo,oo,oo,oo,oo,oo,oo,oo,oo,oo,oo,oo,oo,oo,oo,oo,oo,oo,oo,oo,oo,oo,oo,oo,oo,oo,oo,oo] [(.b 0,.box ((stm l k3).map .p) T),(.l 19,.row (stE (s.set j (addV l0 sn t kd id f v a b).1)) tDL 1 true)] (by (simp only [ZZ,WW,Ze,reduceCtorEq,zd,ze,za,zf,zb];try trivial)) (by rw [hg0,List.set_cons_zero,qoj];simp only [ZZ,WW,Ze,reduceCtorEq,zd,ze,za,zf,zb]) ⟨_,_,by omega,(hS.le (c':=(i:Int)+1) (by omega)).set j (hR0.addVr (by omega) (by omega) (hDo.dd hsl) h0 (by have:=hDo.c1;omega)),rfl,rfl⟩
   ·intro _
    simp only [ZZ,WW,Ze,reduceCtorEq,zd,ze,za,zf,zb]
    exact qao [.adr (.b 0) 0,oo,oo,.p (.sl 1 nm),.row (.l 19),oo,oo,oo,oo,oo,oo,oo,oo,oo,oo,oo,oo,oo,oo,oo,oo,.p (int (q:Nat)),.p (int (i:Nat)),oo,oo,oo,oo,oo,oo,oo,oo,oo,oo,oo,oo,oo,oo,oo,oo,oo,oo,oo,oo,oo,oo,oo,oo,oo,oo,oo,oo,oo,oo,oo,oo,oo,oo,oo,oo,oo,oo,oo,oo,oo,oo,oo,oo,oo,oo,oo,oo,oo,oo,oo,oo,oo,oo,oo,oo,oo,oo,oo,oo,oo,oo,oo,oo,oo,oo,oo,oo,oo,oo,oo,oo,oo,oo,oo,oo,oo,oo,oo,oo,oo,oo,oo,oo,oo,oo,oo,oo,oo,oo,oo,oo,oo,oo,oo,oo,oo,oo,oo,oo,oo,oo,oo,oo] [(.b 0,.box ((stm l k3).map .p) T),(.l 19,.row (stE s) tDL 1 true)] (by (simp only [ZZ,WW,Ze,reduceCtorEq,zd,ze,za,zf,zb];try trivial)) zE_ ⟨_,_,by omega,hS.le (by omega),rfl,rfl⟩
 rintro fr L ⟨k2,s2,hk2,hS2,rfl,rfl⟩
 simp only [ZZ,WW,Ze,reduceCtorEq,zd,ze,za,zf,zb]
 ((repeat' (with_reducible apply And.intro))<;>try ((exact sc_)))
 refine qae (q - (i+1)) _ _ (by omega) (by (simp only [ZZ,WW,Ze,reduceCtorEq,zd,ze,za,zf,zb];try trivial)) (by (simp only [ZZ,WW,Ze,reduceCtorEq,zd,ze,za,zf,zb];try trivial)) ⟨i+1,k2,s2,by omega,rfl,by omega,hS2,rfl,rfl⟩
set_option maxRecDepth 100000 in
set_option maxHeartbeats 4000000 in
theorem qqe (l:List Int) (k:Nat) (hk:k≤500000) (hl:l.length≤9223372036854775807) :
  qdl Tryz.prog ED 13 T (stm l k) [] (fun x cs'=>∃ (o:List Dd) (k':Nat),x=.sl 12 (ddE o)∧RD 100 o∧cs'=stm l k'∧k'≤k+1000):=by
 unfold qdl
 refine qgl mixed Tryz.func13 qfj ?_
 simp only [a0,l0,OS.ao,zl,List.map_nil,zk,zp,zo,zq,zu,zd,zj,zm,qct,qcj,ZZ,WW,Ze,reduceCtorEq,zd,ze,za,zf,zb]
 refine qyd (qt4 l k hk hl) rfl rfl rfl zE_ ?_
 rintro es cs' ⟨s,k1,rfl,hS,rfl,hk1⟩
 have hs3:=hS.1
 simp only [ZZ,WW,Ze,reduceCtorEq,zd,ze,za,zf,zb,qdX]
 refine qag (fun n fr L=>∃ (i:Nat) (x:PV),i≤s.length∧n=s.length - i∧(∃ o,SlD x o∧RD 100 o)∧fr=[.adr (.b 0) 0,oo,oo,.p x,oo,oo,oo,oo,oo,.row (.l 9),.p (int (s.length:Nat)),.p (int (i:Nat)),oo,oo,oo,oo,oo,oo,oo,oo,oo,oo,oo,oo,oo,oo]∧L=[(.b 0,.box ((stm l k1).map .p) T),(.l 9,.row (stE s) tDL 1 true)]) (s.length) [.adr (.b 0) 0,oo,oo,.p (PV.nl 12),oo,oo,oo,oo,oo,.row (.l 9),.p (int (s.length:Nat)),.p (int (0:Nat)),oo,oo,oo,oo,oo,oo,oo,oo,oo,oo,oo,oo,oo,oo] [(.b 0,.box ((stm l k1).map .p) T),(.l 9,.row (stE s) tDL 1 true)] (by (simp only [ZZ,WW,Ze,reduceCtorEq,zd,ze,za,zf,zb];try trivial)) (by (simp only [ZZ,WW,Ze,reduceCtorEq,zd,ze,za,zf,zb];try trivial)) ⟨0,PV.nl 12,by omega,by omega,⟨[],.inl ⟨rfl,rfl⟩,RD.nil _⟩,rfl,rfl⟩ ?_
 rintro n fr L ⟨i,x,hi,rfl,hx,rfl,rfl⟩
 simp only [qbV,ZZ,WW,Ze,reduceCtorEq,zd,ze,za,zf,zb]
 refine br ?_ ?_
 ·intro h
  have hlt:i < s.length:=by have:=of_decide_eq_true h;omega
  obtain ⟨l1,hd⟩:∃ l1,s[i]?=some l1:=⟨_,zr hlt⟩
  have hg:=qok hd
  have hR1:=hS.2 l1 (zD hd)
  obtain ⟨o,hx,hR⟩:=hx
  rcases hx with ⟨rfl,rfl⟩|rfl
  ·simp only [ZZ,WW,Ze,reduceCtorEq,zd,ze,za,zf,zb,hg,qdX]
   refine ⟨⟨by omega,by omega⟩,by omega,?_⟩
   refine use1 (qf6 [] l1 (by have:=hR.len;omega) (by have:=hR1.len;omega) hR.b hR1.b) rfl (.inl rfl) ?_
   simp only [ZZ,WW,Ze,reduceCtorEq,zd,ze,za,zf,zb]
   refine br ?_ ?_
   ·intro _
    simp only [ZZ,WW,Ze,reduceCtorEq,zd,ze,za,zf,zb]
    refine qai zE_ ?_
    simp only [ZZ,WW,Ze,reduceCtorEq,zd,ze,za,zf,zb]
    ((repeat' (with_reducible apply And.intro))<;>try ((exact sc_)))
    refine qae (s.length - (i+1)) [.adr (.b 0) 0,oo,oo,.p (.sl 12 (ddE (mrgV [] l1).1)),oo,oo,oo,oo,oo,.row (.l 9),.p (int (s.length:Nat)),.p (int ((i+1):Nat)),oo,oo,oo,oo,oo,oo,oo,oo,oo,oo,oo,oo,oo,oo] [(.b 0,.box ((stm l k1).map .p) T),(.l 9,.row (stE s) tDL 1 true)] (by omega) (by (simp only [ZZ,WW,Ze,reduceCtorEq,zd,ze,za,zf,zb];try trivial)) (by (simp only [ZZ,WW,Ze,reduceCtorEq,zd,ze,za,zf,zb];try trivial)) ⟨i+1,.sl 12 (ddE (mrgV [] l1).1),by omega,rfl,⟨_,.inr rfl,hR.merge hR1⟩,rfl,rfl⟩
   ·intro _
    simp only [ZZ,WW,Ze,reduceCtorEq,zd,ze,za,zf,zb]
    refine qai zE_ ?_
    simp only [ZZ,WW,Ze,reduceCtorEq,zd,ze,za,zf,zb]
    ((repeat' (with_reducible apply And.intro))<;>try ((exact sc_)))
    refine qae (s.length - (i+1)) [.adr (.b 0) 0,oo,oo,.p (.nl 12),oo,oo,oo,oo,oo,.row (.l 9),.p (int (s.length:Nat)),.p (int ((i+1):Nat)),oo,oo,oo,oo,oo,oo,oo,oo,oo,oo,oo,oo,oo,oo] [(.b 0,.box ((stm l k1).map .p) T),(.l 9,.row (stE s) tDL 1 true)] (by omega) (by (simp only [ZZ,WW,Ze,reduceCtorEq,zd,ze,za,zf,zb];try trivial)) (by (simp only [ZZ,WW,Ze,reduceCtorEq,zd,ze,za,zf,zb];try trivial)) ⟨i+1,.nl 12,by omega,rfl,⟨_,.inl ⟨rfl,rfl⟩,hR⟩,rfl,rfl⟩
  ·simp only [ZZ,WW,Ze,reduceCtorEq,zd,ze,za,zf,zb,hg,qdX]
   refine ⟨⟨by omega,by omega⟩,by omega,?_⟩
   refine use1 (qf6 o l1 (by have:=hR.len;omega) (by have:=hR1.len;omega) hR.b hR1.b) rfl (.inl rfl) ?_
   simp only [ZZ,WW,Ze,reduceCtorEq,zd,ze,za,zf,zb]
   refine br ?_ ?_
   ·intro _
    simp only [ZZ,WW,Ze,reduceCtorEq,zd,ze,za,zf,zb]
    refine qai zE_ ?_
    simp only [ZZ,WW,Ze,reduceCtorEq,zd,ze,za,zf,zb]
    ((repeat' (with_reducible apply And.intro))<;>try ((exact sc_)))
    refine qae (s.length - (i+1)) [.adr (.b 0) 0,oo,oo,.p (.sl 12 (ddE (mrgV o l1).1)),oo,oo,oo,oo,oo,.row (.l 9),.p (int (s.length:Nat)),.p (int ((i+1):Nat)),oo,oo,oo,oo,oo,oo,oo,oo,oo,oo,oo,oo,oo,oo] [(.b 0,.box ((stm l k1).map .p) T),(.l 9,.row (stE s) tDL 1 true)] (by omega) (by (simp only [ZZ,WW,Ze,reduceCtorEq,zd,ze,za,zf,zb];try trivial)) (by (simp only [ZZ,WW,Ze,reduceCtorEq,zd,ze,za,zf,zb];try trivial)) ⟨i+1,.sl 12 (ddE (mrgV o l1).1),by omega,rfl,⟨_,.inr rfl,hR.merge hR1⟩,rfl,rfl⟩
   ·intro _
    simp only [ZZ,WW,Ze,reduceCtorEq,zd,ze,za,zf,zb]
    refine qai zE_ ?_
    simp only [ZZ,WW,Ze,reduceCtorEq,zd,ze,za,zf,zb]
    ((repeat' (with_reducible apply And.intro))<;>try ((exact sc_)))
    refine qae (s.length - (i+1)) [.adr (.b 0) 0,oo,oo,.p (.sl 12 (ddE o)),oo,oo,oo,oo,oo,.row (.l 9),.p (int (s.length:Nat)),.p (int ((i+1):Nat)),oo,oo,oo,oo,oo,oo,oo,oo,oo,oo,oo,oo,oo,oo] [(.b 0,.box ((stm l k1).map .p) T),(.l 9,.row (stE s) tDL 1 true)] (by omega) (by (simp only [ZZ,WW,Ze,reduceCtorEq,zd,ze,za,zf,zb];try trivial)) (by (simp only [ZZ,WW,Ze,reduceCtorEq,zd,ze,za,zf,zb];try trivial)) ⟨i+1,.sl 12 (ddE o),by omega,rfl,⟨_,.inr rfl,hR⟩,rfl,rfl⟩
 ·intro h
  obtain ⟨o,hx,hR⟩:=hx
  rcases hx with ⟨rfl,rfl⟩|rfl
  ·simp only [ZZ,WW,Ze,reduceCtorEq,zd,ze,za,zf,zb]
   exact qfU (stm l k1) rfl ⟨[],k1,rfl,hR,rfl,hk1⟩
  ·simp only [ZZ,WW,Ze,reduceCtorEq,zd,ze,za,zf,zb]
   exact qfU (stm l k1) rfl ⟨o,k1,rfl,hR,rfl,hk1⟩
end Go.Proofs.YtjgdjinhkgjpeaaGreatDoor
