import Derived.Test.YtinffddgojhdfaaGreatDoorZ12
import Derived.Test.YtinffddgojhdfaaGreatDoorZ10
import Derived.Lib.Hide
import Derived.Test.YtinffddgojhdfaaGreatDoorZ11
set_option linter.unusedVariables false
set_option linter.unusedSimpArgs false
set_option linter.defProp false
namespace Go.Proofs.YtinffddgojhdfaaGreatDoor
open Nat renaming reduceAdd→zd,reduceEqDiff→zb,reduceLT→zf,reduceLeDiff→za,reduceMul→ze,reduceSub→zu
open List renaming cons_append→zp,getElem?_eq_getElem→zm,length_cons→zn,length_nil→zr,map_cons→zl,mem_cons→zH,mem_of_getElem?→zB,mem_or_eq_of_mem_set→z6,nil_append→zq,not_mem_nil→zR,replicate_succ→zk,replicate_zero→zo
open Go.RowKit
def qa6:IC:=(.seq (.reg [qO 141 (.bin .lss (.t 140) (.t 139))]) (.seq (.cond (.t 141) .skip (.exit 1)) (.seq (.block 2 (.seq (.reg [qM 142 140,qO 143 (.ixa 12 (.t 138) (.t 140)),qO 144 (.ld 12 true (.t 143)),qO 10 (.alc 45 [.str [],.int .i64 0,.int .i64 0,.int .i64 0,.str [],.str [],.str [],.int .i64 0,.int .i64 0,.str [],.int .i64 0,.str []]),qM 9 142,⟨none,.st 12 (.t 10) (.t 144),none⟩]) (.seq (.reg [qM 145 5,qM 146 9,qM 147 8,qO 148 (.fla 0 (.t 10)),qO 149 (.fla 0 (.t 148)),qO 150 (.ld 1 false (.t 149)),qO 151 (.mpl false (.str []) (.t 147) (.t 150)),qO 152 (.ld 12 true (.t 10)),qO 153 (.call 39 [.t 151,.t 152]),qO 154 (.ixa 12 (.t 145) (.t 146)),qO 155 (.fla 11 (.t 154)),⟨none,.st 1 (.t 155) (.t 153),none⟩]) (.drg [qM 156 8,qO 157 (.fla 0 (.t 10)),qO 158 (.fla 0 (.t 157)),qO 159 (.ldn 137 1 false (.t 158)),qM 160 5,qM 161 9,qO 162 (.ixa 12 (.t 160) (.t 161)),qO 163 (.fla 11 (.t 162)),qO 164 (.ldn 137 1 false (.t 163)),⟨none,.mpk 137 (.t 156) (.t 159) (.t 164),none⟩])))) (.reg [qO 165 (.bin .add (.t 140) (.c (.int .i64 1))),qM 140 165]))))
def qbt:IC:=(.seq (.reg [qO 4 (.mov (.c (.nl 12)))]) (.seq (.reg [qM 11 1,qO 12 (.call 35 [.t 11]),qM 5 12]) (.seq (.seq (.reg [qM 13 5,qO 14 (.len (.t 13)),qO 15 (.bin .eql (.t 14) (.c (.int .i64 0)))]) (.cond (.t 15) (.seq (.reg [qM 16 5,qM 17 0,qO 18 (.bsl 1 [.c (.str [97]),.c (.str [65])]),qO 19 (.call 36 [.t 17,.t 18]),qM 20 0,qO 21 (.call 16 [.t 20,.c (.int .i64 0),.c (.int .i64 2)]),⟨none,.fz (.t 19),none⟩,⟨none,.fz (.t 21),none⟩,qO 22 (.bld [.str [],.int .i64 0] [(0,1,.t 19),(1,1,.t 21)]),qO 23 (.bld [.str [],.int .i64 0,.int .i64 0,.int .i64 0,.str [],.str [],.str [],.int .i64 0,.int .i64 0,.str [],.int .i64 0,.str []] [(0,2,.t 22),(3,1,.c (.int .i64 2)),(4,1,.c (.str [105,97])),(6,1,.c (.str [104,111,116]))]),qO 24 (.bsl 12 [.t 23]),qO 25 (.app 45 12 144 (.t 16) (.t 24)),qM 4 25]) .ret) .skip)) (.seq (.reg [qM 26 0,qM 27 5,qO 28 (.len (.t 27)),qO 29 (.call 17 [.t 26,.t 28]),qM 6 29]) (.seq (.reg [qM 30 5,qM 31 6,qO 32 (.ixa 12 (.t 30) (.t 31)),qM 7 32]) (.seq (.seq (.reg [qM 33 0,qO 34 (.call 17 [.t 33,.c (.int .i64 11)])]) (.block 0 (.seq (.reg [qO 41 (.bin .eql (.t 34) (.c (.int .i64 0))),qM 40 41]) (.cond (.t 40) (.reg [qM 42 7,qM 43 0,qO 44 (.bsl 1 [.c (.str []),.c (.str [97]),.c (.str [122]),.c (.str [65])]),qO 45 (.call 36 [.t 43,.t 44]),qO 46 (.nck (.t 42)),qO 47 (.fla 0 (.t 46)),qO 48 (.fla 0 (.t 47)),⟨none,.st 1 (.t 48) (.t 45),none⟩]) (.seq (.reg [qO 50 (.bin .eql (.t 34) (.c (.int .i64 1))),qM 49 50]) (.cond (.t 49) (.drg [qM 51 7,qO 52 (.nck (.t 51)),qO 53 (.fla 0 (.t 52)),qO 54 (.fla 1 (.t 53)),qO 55 (.ldl 1 false (.t 54)),qM 56 0,qO 57 (.dcall true 16 [.t 56,.c (.int .i64 (-1)),.c (.int .i64 1)]),qO 58 (.bin .add (.t 55) (.t 57)),qO 59 (.nck (.t 51)),qO 60 (.fla 0 (.t 59)),qO 61 (.fla 1 (.t 60)),⟨none,.st 1 (.t 61) (.t 58),none⟩]) (.seq (.reg [qO 63 (.bin .eql (.t 34) (.c (.int .i64 2))),qM 62 63]) (.cond (.t 62) (.reg [qM 64 7,qM 65 0,qM 66 7,qO 67 (.nck (.t 66)),qO 68 (.fla 2 (.t 67)),qO 69 (.ld 1 false (.t 68)),qO 70 (.bin .add (.t 69) (.c (.int .i64 1))),qO 71 (.bsl 1 [.c (.int .i64 (-1)),.c (.int .i64 5761440),.t 70]),qO 72 (.call 37 [.t 65,.t 71]),qO 73 (.nck (.t 64)),qO 74 (.fla 2 (.t 73)),⟨none,.st 1 (.t 74) (.t 72),none⟩]) (.seq (.reg [qO 76 (.bin .eql (.t 34) (.c (.int .i64 3))),qM 75 76]) (.cond (.t 75) (.reg [qM 77 7,qM 78 0,qO 79 (.call 16 [.t 78,.c (.int .i64 0),.c (.int .i64 7)]),qO 80 (.nck (.t 77)),qO 81 (.fla 3 (.t 80)),⟨none,.st 1 (.t 81) (.t 79),none⟩]) (.seq (.reg [qO 83 (.bin .eql (.t 34) (.c (.int .i64 4))),qM 82 83]) (.cond (.t 82) (.reg [qM 84 7,qM 85 0,qO 86 (.bsl 1 [.c (.str []),.c (.str [105,98]),.c (.str [73])]),qO 87 (.call 36 [.t 85,.t 86]),qO 88 (.nck (.t 84)),qO 89 (.fla 4 (.t 88)),⟨none,.st 1 (.t 89) (.t 87),none⟩]) (.seq (.reg [qO 91 (.bin .eql (.t 34) (.c (.int .i64 5))),qM 90 91]) (.cond (.t 90) (.reg [qM 92 7,qM 93 0,qO 94 (.bsl 1 [.c (.str []),.c (.str [119,97,110,116]),.c (.str [70])]),qO 95 (.call 36 [.t 93,.t 94]),qO 96 (.nck (.t 92)),qO 97 (.fla 5 (.t 96)),⟨none,.st 1 (.t 97) (.t 95),none⟩]) (.seq (.reg [qO 99 (.bin .eql (.t 34) (.c (.int .i64 6))),qM 98 99]) (.cond (.t 98) (.reg [qM 100 7,qM 101 0,qO 102 (.bsl 1 [.c (.str []),.c (.str [121,101,115]),.c (.str [32,120])]),qO 103 (.call 36 [.t 101,.t 102]),qO 104 (.nck (.t 100)),qO 105 (.fla 6 (.t 104)),⟨none,.st 1 (.t 105) (.t 103),none⟩]) (.seq (.reg [qO 107 (.bin .eql (.t 34) (.c (.int .i64 7))),qM 106 107]) (.cond (.t 106) (.reg [qM 108 7,qM 109 0,qO 110 (.call 17 [.t 109,.c (.int .i64 3)]),qM 111 0,qO 112 (.call 17 [.t 111,.c (.int .i64 9)]),⟨none,.fz (.t 110),none⟩,⟨none,.fz (.t 112),none⟩,qO 113 (.bld [.int .i64 0,.int .i64 0] [(0,1,.t 110),(1,1,.t 112)]),qO 114 (.nck (.t 108)),qO 115 (.fla 7 (.t 114)),⟨none,.st 2 (.t 115) (.t 113),none⟩]) (.seq (.reg [qO 117 (.bin .eql (.t 34) (.c (.int .i64 8))),qM 116 117]) (.cond (.t 116) (.reg [qM 118 7,qM 119 0,qO 120 (.bsl 1 [.c (.str []),.c (.str [97]),.c (.str [98])]),qO 121 (.call 36 [.t 119,.t 120]),qM 122 0,qO 123 (.call 17 [.t 122,.c (.int .i64 4)]),⟨none,.fz (.t 121),none⟩,⟨none,.fz (.t 123),none⟩,qO 124 (.bld [.str [],.int .i64 0] [(0,1,.t 121),(1,1,.t 123)]),qO 125 (.nck (.t 118)),qO 126 (.fla 9 (.t 125)),⟨none,.st 2 (.t 126) (.t 124),none⟩]) (.seq (.reg [qO 128 (.bin .eql (.t 34) (.c (.int .i64 9))),qM 127 128]) (.cond (.t 127) (.reg [qM 129 7,qM 130 0,qO 131 (.bsl 1 [.c (.str []),.c (.str [48,49,50,51,52,53,54,55,56,57,97,98,99,100,101,102])]),qO 132 (.call 36 [.t 130,.t 131]),qO 133 (.nck (.t 129)),qO 134 (.fla 11 (.t 133)),⟨none,.st 1 (.t 134) (.t 132),none⟩]) (.reg [qM 35 5,qM 36 6,qM 37 6,qO 38 (.bin .add (.t 37) (.c (.int .i64 1))),qO 39 (.call 38 [.t 35,.t 36,.t 38]),qM 5 39]))))))))))))))))))))))) (.cut (.seq (.seq (.reg [qM 135 0,qO 136 (.call 7 [.t 135,.c (.int .i64 2)])]) (.cond (.t 136) (.seq (.reg [qO 137 (.mkm 9 9),qM 8 137]) (.seq (.reg [qM 138 5,qO 139 (.len (.t 138)),qO 140 (.mov (.c (.int .i64 0)))]) (.block 1 (.loop qa6)))) .skip)) (.cut (.seq (.reg [qM 166 5,qM 4 166]) .ret))))))))))
def qbq:List IRes:=[.t 4]
theorem qc6:chkF Tryz.prog Tryz.f8 qbt qbq 167=true:=by kernel_rfl
theorem qec (o:List Dd) (j:Nat) (d:Dd):(ddE o).set j (ddC d)=ddE (o.set j d):=by simp [ddE]
theorem qub (o:List Dd) (j:Nat):(ddE o).take j++(ddE o).drop (j+1)=ddE (o.take j++o.drop (j+1)):=by simp [ddE,List.map_take,List.map_drop]
theorem spB {q:List Dd} (h:DdsB q) {i:Nat} {d:Dd} (hd:DdB d):DdsB (q.set i d):=fun x hx=>by
 rcases z6 hx with hx|rfl
 ·exact h x hx
 ·exact hd
theorem spK {kv:List (List UInt8×PV)} (h:∀ s:List UInt8,∃ b:List UInt8,mpD kv s (.str [])=.str b∧b.length≤1000) {k v:List UInt8} (hv:v.length≤1000) (s:List UInt8):∃ b:List UInt8,mpD (mpS kv k (.str v)) s (.str [])=.str b∧b.length≤1000:=by
 unfold mpD
 rw [qkO]
 by_cases e:k=s
 ·rw [if_pos (by first|exact e|exact e.symm)]
  exact ⟨v,rfl,hv⟩
 ·rw [if_neg (by first|exact e|exact fun h=>e h.symm)]
  exact h s
def SpN (l:List Int) (k:Nat) (fr:List AV) (L:Objs):Prop:=∃ (q:List Dd) (k2:Nat),DdsB q∧q.length≤2001∧k2≤k+10∧fr=[.adr (.b 0) 0,oo,oo,oo,oo,.row (.l 12),oo,oo,oo,oo,oo,oo,oo,oo,oo,oo,oo,oo,oo,oo,oo,oo,oo,oo,oo,oo,oo,oo,oo,oo,oo,oo,oo,oo,oo,oo,oo,oo,oo,oo,oo,oo,oo,oo,oo,oo,oo,oo,oo,oo,oo,oo,oo,oo,oo,oo,oo,oo,oo,oo,oo,oo,oo,oo,oo,oo,oo,oo,oo,oo,oo,oo,oo,oo,oo,oo,oo,oo,oo,oo,oo,oo,oo,oo,oo,oo,oo,oo,oo,oo,oo,oo,oo,oo,oo,oo,oo,oo,oo,oo,oo,oo,oo,oo,oo,oo,oo,oo,oo,oo,oo,oo,oo,oo,oo,oo,oo,oo,oo,oo,oo,oo,oo,oo,oo,oo,oo,oo,oo,oo,oo,oo,oo,oo,oo,oo,oo,oo,oo,oo,oo,oo,oo,oo,oo,oo,oo,oo,oo,oo,oo,oo,oo,oo,oo,oo,oo,oo,oo,oo,oo,oo,oo,oo,oo,oo,oo]∧L=[(.b 0,.box ((stm l k2).map .p) T),(.l 12,.row (ddE q) tDd 12 true)]
def SpM (l:List Int) (k:Nat) (fr:List AV) (L:Objs):Prop:=∃ (q:List Dd) (k2:Nat),DdsB q∧q.length≤2001∧k2≤k+5∧fr=[.adr (.b 0) 0,oo,oo,oo,oo,.row (.l 12),oo,oo,oo,oo,oo,oo,oo,oo,oo,oo,oo,oo,oo,oo,oo,oo,oo,oo,oo,oo,oo,oo,oo,oo,oo,oo,oo,oo,oo,oo,oo,oo,oo,oo,oo,oo,oo,oo,oo,oo,oo,oo,oo,oo,oo,oo,oo,oo,oo,oo,oo,oo,oo,oo,oo,oo,oo,oo,oo,oo,oo,oo,oo,oo,oo,oo,oo,oo,oo,oo,oo,oo,oo,oo,oo,oo,oo,oo,oo,oo,oo,oo,oo,oo,oo,oo,oo,oo,oo,oo,oo,oo,oo,oo,oo,oo,oo,oo,oo,oo,oo,oo,oo,oo,oo,oo,oo,oo,oo,oo,oo,oo,oo,oo,oo,oo,oo,oo,oo,oo,oo,oo,oo,oo,oo,oo,oo,oo,oo,oo,oo,oo,oo,oo,oo,oo,oo,oo,oo,oo,oo,oo,oo,oo,oo,oo,oo,oo,oo,oo,oo,oo,oo,oo,oo,oo,oo,oo,oo,oo,oo]∧L=[(.b 0,.box ((stm l k2).map .p) T),(.l 12,.row (ddE q) tDd 12 true)]
set_option maxRecDepth 100000 in
set_option maxHeartbeats 4000000 in
theorem qgj (l:List Int) (k:Nat) (o:List Dd) (hk:k≤900000) (hl:l.length≤9223372036854775807) (hR:RD 100 o) :
  qdN Tryz.prog ED 8 T (stm l k) [.sl 12 (ddE o)] (fun x cs'=>∃ (o':List Dd) (k':Nat),x=.sl 12 (ddE o')∧DdsB o'∧o'.length≤2001∧cs'=stm l k'∧k'≤k+10):=by
 have hol:=hR.len
 unfold qdN
 refine qf6 mixed Tryz.func8 qc6 ?_
 simp only [a0,l0,OS.ao,zl,List.map_nil,zn,zr,zp,zq,zu,zd,zk,zo,qbt,qbq,ZZ,WW,Ze,reduceCtorEq,zd,ze,za,zf,zb]
 refine useF (qid (ddE o) (by rw [qab];omega)) rfl rfl ?_
 rintro es rfl
 simp only [ZZ,WW,Ze,reduceCtorEq,zd,ze,za,zf,zb,qab]
 refine br ?_ ?_
 ·intro h0
  have h0:o=[]:=by have:=of_decide_eq_true h0;exact List.eq_nil_of_length_eq_zero (by omega)
  subst h0
  simp only [ZZ,WW,Ze,reduceCtorEq,zd,ze,za,zf,zb,qh3]
  refine useS (qdF l k [[97],[65]] (by omega) hl (by simp) (by simp)) rfl rfl rfl zE_ ?_
  rintro x cs' ⟨u,rfl,hu,rfl⟩
  have hu:u.length≤1000:=by simp only [zH,zR,or_false] at hu;rcases hu with rfl|rfl<;>decide
  simp only [ZZ,WW,Ze,reduceCtorEq,zd,ze,za,zf,zb]
  refine useS (qhO l (k+1) 0 2 (by omega) hl (by decide) (by decide) (by decide)) rfl rfl rfl zE_ ?_
  rintro x cs' ⟨v,rfl,hv1,hv2,rfl⟩
  simp only [ZZ,WW,Ze,reduceCtorEq,zd,ze,za,zf,zb,qh3]
  exact qgQ (stm l (k+1+1)) rfl ⟨[⟨u,v,0,2,[105,97],[],[104,111,116],0,0,[],0,[]⟩],_,rfl,(fun x hx=>by rw [List.mem_singleton] at hx;subst hx;exact ⟨hu,by simp,by simp,by simp,by simp,by simp,⟨by dsimp only;omega,by dsimp only;omega⟩,by simp,by simp,by simp,by simp,by simp⟩),by simp,rfl,by omega⟩
 intro h0
 have h0:0 < o.length:=by have:=of_decide_eq_false h0;omega
 simp only [ZZ,WW,Ze,reduceCtorEq,zd,ze,za,zf,zb,qab]
 refine useS (qb8 l k (o.length:Nat) (by omega) hl (by omega)) rfl rfl rfl zE_ ?_
 rintro x cs' ⟨y1,rfl,rfl⟩
 obtain ⟨j,hj,hy1⟩:=qe3 y1 o.length (by omega)
 rw [hy1]
 obtain ⟨d,hd⟩:∃ d,o[j]?=some d:=⟨_,zm hj⟩
 have hg:=qaU hd
 have dB:=hR.b.get hd
 have dt:=hR.t d (zB hd)
 have dn:=hR.n d (zB hd)
 have hdel:DdsB (o.take j++o.drop (j+1)):=fun x hx=>hR.b x ((List.mem_append.1 hx).elim List.mem_of_mem_take List.mem_of_mem_drop)
 have hset:∀ d':Dd,DdB d'→DdsB (o.set j d'):=fun d' h' x hx=>by
  rcases z6 hx with hx|rfl
  ·exact hR.b x hx
  ·exact h'
 simp only [ZZ,WW,Ze,reduceCtorEq,zd,ze,za,zf,zb,hg,qab]
 refine ⟨⟨by omega,by omega⟩,?_⟩
 refine useS (qb8 l (k+1) 11 (by omega) hl (by decide)) rfl rfl rfl zE_ ?_
 rintro x cs' ⟨y2,rfl,rfl⟩
 generalize qdM y2 11=w
 simp only [ZZ,WW,Ze,reduceCtorEq,zd,ze,za,zf,zb]
 refine qhH (SpM l k) ?_ ?_ ?_
 ·intro _
  simp only [ZZ,WW,Ze,reduceCtorEq,zd,ze,za,zf,zb]
  refine useS (qdF l (k+1+1) [[],[97],[122],[65]] (by omega) hl (by simp) (by simp)) rfl rfl rfl zE_ ?_
  rintro x cs' ⟨u,rfl,hu,rfl⟩
  have hu:u.length≤1000:=by simp only [zH,zR,or_false] at hu;rcases hu with rfl|rfl|rfl|rfl<;>decide
  simp only [ZZ,WW,Ze,reduceCtorEq,zd,ze,za,zf,zb,hg,qab,ddC]
  refine ⟨hj,?_⟩
  exact qan [.adr (.b 0) 0,oo,oo,oo,oo,.row (.l 12),oo,oo,oo,oo,oo,oo,oo,oo,oo,oo,oo,oo,oo,oo,oo,oo,oo,oo,oo,oo,oo,oo,oo,oo,oo,oo,oo,oo,oo,oo,oo,oo,oo,oo,oo,oo,oo,oo,oo,oo,oo,oo,oo,oo,oo,oo,oo,oo,oo,oo,oo,oo,oo,oo,oo,oo,oo,oo,oo,oo,oo,oo,oo,oo,oo,oo,oo,oo,oo,oo,oo,oo,oo,oo,oo,oo,oo,oo,oo,oo,oo,oo,oo,oo,oo,oo,oo,oo,oo,oo,oo,oo,oo,oo,oo,oo,oo,oo,oo,oo,oo,oo,oo,oo,oo,oo,oo,oo,oo,oo,oo,oo,oo,oo,oo,oo,oo,oo,oo,oo,oo,oo,oo,oo,oo,oo,oo,oo,oo,oo,oo,oo,oo,oo,oo,oo,oo,oo,oo,oo,oo,oo,oo,oo,oo,oo,oo,oo,oo,oo,oo,oo,oo,oo,oo,oo,oo,oo,oo,oo,oo] [(.b 0,.box ((stm l (k+1+1+1)).map .p) T),(.l 12,.row (ddE (o.set j { d with site:=u })) tDd 12 true)] (by (simp only [ZZ,WW,Ze,reduceCtorEq,zd,ze,za,zf,zb];try trivial)) (by simp only [ZZ,WW,Ze,reduceCtorEq,zd,ze,za,zf,zb,hg,ddC];exact congrArg (fun z=>some (AO.row z tDd 12 true)) (qec o j { d with site:=u })) ⟨_,_,hset { d with site:=u } { dB with b1:=hu },by simp;omega,by omega,rfl,rfl⟩
 ·intro _
  simp only [ZZ,WW,Ze,reduceCtorEq,zd,ze,za,zf,zb]
  refine br ?_ ?_
  ·intro _
   simp only [ZZ,WW,Ze,reduceCtorEq,zd,ze,za,zf,zb]
   refine drg0 ?_
   simp only [ZZ,WW,Ze,reduceCtorEq,zd,ze,za,zf,zb,hg,qab,ddC]
   refine ⟨hj,?_⟩
   refine useD (qhO l (k+1+1) (-1) 1 (by omega) hl (by decide) (by decide) (by decide)) ⟨_,_,0,rfl,by decide,by decide,rfl⟩ rfl rfl rfl zE_ (fun _=>⟨0,rfl⟩) ?_
   rintro x cs' ⟨u,rfl,hu1,hu2,rfl⟩
   simp only [ZZ,WW,Ze,reduceCtorEq,zd,ze,za,zf,zb,hg,qab,ddC]
   refine ⟨qai (by omega) (by omega),hj,?_⟩
   exact qan [.adr (.b 0) 0,oo,oo,oo,oo,.row (.l 12),oo,oo,oo,oo,oo,oo,oo,oo,oo,oo,oo,oo,oo,oo,oo,oo,oo,oo,oo,oo,oo,oo,oo,oo,oo,oo,oo,oo,oo,oo,oo,oo,oo,oo,oo,oo,oo,oo,oo,oo,oo,oo,oo,oo,oo,oo,oo,oo,oo,oo,oo,oo,oo,oo,oo,oo,oo,oo,oo,oo,oo,oo,oo,oo,oo,oo,oo,oo,oo,oo,oo,oo,oo,oo,oo,oo,oo,oo,oo,oo,oo,oo,oo,oo,oo,oo,oo,oo,oo,oo,oo,oo,oo,oo,oo,oo,oo,oo,oo,oo,oo,oo,oo,oo,oo,oo,oo,oo,oo,oo,oo,oo,oo,oo,oo,oo,oo,oo,oo,oo,oo,oo,oo,oo,oo,oo,oo,oo,oo,oo,oo,oo,oo,oo,oo,oo,oo,oo,oo,oo,oo,oo,oo,oo,oo,oo,oo,oo,oo,oo,oo,oo,oo,oo,oo,oo,oo,oo,oo,oo,oo] [(.b 0,.box ((stm l (k+1+1+1)).map .p) T),(.l 12,.row (ddE (o.set j { d with no:=d.no+u })) tDd 12 true)] (by (simp only [ZZ,WW,Ze,reduceCtorEq,zd,ze,za,zf,zb];try trivial)) (by simp only [ZZ,WW,Ze,reduceCtorEq,zd,ze,za,zf,zb,hg,ddC];exact congrArg (fun z=>some (AO.row z tDd 12 true)) (qec o j { d with no:=d.no+u })) ⟨_,_,hset { d with no:=d.no+u } { dB with c1:=⟨by show _≤d.no+u;omega,by show d.no+u≤_;omega⟩ },by simp;omega,by omega,rfl,rfl⟩
  intro _
  simp only [ZZ,WW,Ze,reduceCtorEq,zd,ze,za,zf,zb]
  refine br ?_ ?_
  ·intro _
   simp only [ZZ,WW,Ze,reduceCtorEq,zd,ze,za,zf,zb]
   simp only [ZZ,WW,Ze,reduceCtorEq,zd,ze,za,zf,zb,hg,qab,ddC]
   refine ⟨hj,qai (by omega) (by omega),?_⟩
   refine useS (qg3 l (k+1+1) [-1,5761440,d.tm+1] (by omega) hl (by simp) (by simp)) rfl rfl rfl zE_ ?_
   rintro x cs' ⟨u,rfl,hu,rfl⟩
   have hu:-1000000001≤u∧u≤1000000001:=by simp only [zH,zR,or_false] at hu;omega
   simp only [ZZ,WW,Ze,reduceCtorEq,zd,ze,za,zf,zb,hg,qab,ddC]
   refine ⟨hj,?_⟩
   exact qan [.adr (.b 0) 0,oo,oo,oo,oo,.row (.l 12),oo,oo,oo,oo,oo,oo,oo,oo,oo,oo,oo,oo,oo,oo,oo,oo,oo,oo,oo,oo,oo,oo,oo,oo,oo,oo,oo,oo,oo,oo,oo,oo,oo,oo,oo,oo,oo,oo,oo,oo,oo,oo,oo,oo,oo,oo,oo,oo,oo,oo,oo,oo,oo,oo,oo,oo,oo,oo,oo,oo,oo,oo,oo,oo,oo,oo,oo,oo,oo,oo,oo,oo,oo,oo,oo,oo,oo,oo,oo,oo,oo,oo,oo,oo,oo,oo,oo,oo,oo,oo,oo,oo,oo,oo,oo,oo,oo,oo,oo,oo,oo,oo,oo,oo,oo,oo,oo,oo,oo,oo,oo,oo,oo,oo,oo,oo,oo,oo,oo,oo,oo,oo,oo,oo,oo,oo,oo,oo,oo,oo,oo,oo,oo,oo,oo,oo,oo,oo,oo,oo,oo,oo,oo,oo,oo,oo,oo,oo,oo,oo,oo,oo,oo,oo,oo,oo,oo,oo,oo,oo,oo] [(.b 0,.box ((stm l (k+1+1+1)).map .p) T),(.l 12,.row (ddE (o.set j { d with tm:=u })) tDd 12 true)] (by (simp only [ZZ,WW,Ze,reduceCtorEq,zd,ze,za,zf,zb];try trivial)) (by simp only [ZZ,WW,Ze,reduceCtorEq,zd,ze,za,zf,zb,hg,ddC];exact congrArg (fun z=>some (AO.row z tDd 12 true)) (qec o j { d with tm:=u })) ⟨_,_,hset { d with tm:=u } { dB with c2:=⟨by dsimp only;omega,by dsimp only;omega⟩ },by simp;omega,by omega,rfl,rfl⟩
  intro _
  simp only [ZZ,WW,Ze,reduceCtorEq,zd,ze,za,zf,zb]
  refine br ?_ ?_
  ·intro _
   simp only [ZZ,WW,Ze,reduceCtorEq,zd,ze,za,zf,zb]
   refine useS (qhO l (k+1+1) 0 7 (by omega) hl (by decide) (by decide) (by decide)) rfl rfl rfl zE_ ?_
   rintro x cs' ⟨u,rfl,hu1,hu2,rfl⟩
   simp only [ZZ,WW,Ze,reduceCtorEq,zd,ze,za,zf,zb,hg,qab,ddC]
   refine ⟨hj,?_⟩
   exact qan [.adr (.b 0) 0,oo,oo,oo,oo,.row (.l 12),oo,oo,oo,oo,oo,oo,oo,oo,oo,oo,oo,oo,oo,oo,oo,oo,oo,oo,oo,oo,oo,oo,oo,oo,oo,oo,oo,oo,oo,oo,oo,oo,oo,oo,oo,oo,oo,oo,oo,oo,oo,oo,oo,oo,oo,oo,oo,oo,oo,oo,oo,oo,oo,oo,oo,oo,oo,oo,oo,oo,oo,oo,oo,oo,oo,oo,oo,oo,oo,oo,oo,oo,oo,oo,oo,oo,oo,oo,oo,oo,oo,oo,oo,oo,oo,oo,oo,oo,oo,oo,oo,oo,oo,oo,oo,oo,oo,oo,oo,oo,oo,oo,oo,oo,oo,oo,oo,oo,oo,oo,oo,oo,oo,oo,oo,oo,oo,oo,oo,oo,oo,oo,oo,oo,oo,oo,oo,oo,oo,oo,oo,oo,oo,oo,oo,oo,oo,oo,oo,oo,oo,oo,oo,oo,oo,oo,oo,oo,oo,oo,oo,oo,oo,oo,oo,oo,oo,oo,oo,oo,oo] [(.b 0,.box ((stm l (k+1+1+1)).map .p) T),(.l 12,.row (ddE (o.set j { d with kind:=u })) tDd 12 true)] (by (simp only [ZZ,WW,Ze,reduceCtorEq,zd,ze,za,zf,zb];try trivial)) (by simp only [ZZ,WW,Ze,reduceCtorEq,zd,ze,za,zf,zb,hg,ddC];exact congrArg (fun z=>some (AO.row z tDd 12 true)) (qec o j { d with kind:=u })) ⟨_,_,hset { d with kind:=u } { dB with c3:=⟨by dsimp only;omega,by dsimp only;omega⟩ },by simp;omega,by omega,rfl,rfl⟩
  intro _
  simp only [ZZ,WW,Ze,reduceCtorEq,zd,ze,za,zf,zb]
  refine br ?_ ?_
  ·intro _
   simp only [ZZ,WW,Ze,reduceCtorEq,zd,ze,za,zf,zb]
   refine useS (qdF l (k+1+1) [[],[105,98],[73]] (by omega) hl (by simp) (by simp)) rfl rfl rfl zE_ ?_
   rintro x cs' ⟨u,rfl,hu,rfl⟩
   have hu:u.length≤1000:=by simp only [zH,zR,or_false] at hu;rcases hu with rfl|rfl|rfl<;>decide
   simp only [ZZ,WW,Ze,reduceCtorEq,zd,ze,za,zf,zb,hg,qab,ddC]
   refine ⟨hj,?_⟩
   exact qan [.adr (.b 0) 0,oo,oo,oo,oo,.row (.l 12),oo,oo,oo,oo,oo,oo,oo,oo,oo,oo,oo,oo,oo,oo,oo,oo,oo,oo,oo,oo,oo,oo,oo,oo,oo,oo,oo,oo,oo,oo,oo,oo,oo,oo,oo,oo,oo,oo,oo,oo,oo,oo,oo,oo,oo,oo,oo,oo,oo,oo,oo,oo,oo,oo,oo,oo,oo,oo,oo,oo,oo,oo,oo,oo,oo,oo,oo,oo,oo,oo,oo,oo,oo,oo,oo,oo,oo,oo,oo,oo,oo,oo,oo,oo,oo,oo,oo,oo,oo,oo,oo,oo,oo,oo,oo,oo,oo,oo,oo,oo,oo,oo,oo,oo,oo,oo,oo,oo,oo,oo,oo,oo,oo,oo,oo,oo,oo,oo,oo,oo,oo,oo,oo,oo,oo,oo,oo,oo,oo,oo,oo,oo,oo,oo,oo,oo,oo,oo,oo,oo,oo,oo,oo,oo,oo,oo,oo,oo,oo,oo,oo,oo,oo,oo,oo,oo,oo,oo,oo,oo,oo] [(.b 0,.box ((stm l (k+1+1+1)).map .p) T),(.l 12,.row (ddE (o.set j { d with id:=u })) tDd 12 true)] (by (simp only [ZZ,WW,Ze,reduceCtorEq,zd,ze,za,zf,zb];try trivial)) (by simp only [ZZ,WW,Ze,reduceCtorEq,zd,ze,za,zf,zb,hg,ddC];exact congrArg (fun z=>some (AO.row z tDd 12 true)) (qec o j { d with id:=u })) ⟨_,_,hset { d with id:=u } { dB with b2:=hu },by simp;omega,by omega,rfl,rfl⟩
  intro _
  simp only [ZZ,WW,Ze,reduceCtorEq,zd,ze,za,zf,zb]
  refine br ?_ ?_
  ·intro _
   simp only [ZZ,WW,Ze,reduceCtorEq,zd,ze,za,zf,zb]
   refine useS (qdF l (k+1+1) [[],[119,97,110,116],[70]] (by omega) hl (by simp) (by simp)) rfl rfl rfl zE_ ?_
   rintro x cs' ⟨u,rfl,hu,rfl⟩
   have hu:u.length≤1000:=by simp only [zH,zR,or_false] at hu;rcases hu with rfl|rfl|rfl<;>decide
   simp only [ZZ,WW,Ze,reduceCtorEq,zd,ze,za,zf,zb,hg,qab,ddC]
   refine ⟨hj,?_⟩
   exact qan [.adr (.b 0) 0,oo,oo,oo,oo,.row (.l 12),oo,oo,oo,oo,oo,oo,oo,oo,oo,oo,oo,oo,oo,oo,oo,oo,oo,oo,oo,oo,oo,oo,oo,oo,oo,oo,oo,oo,oo,oo,oo,oo,oo,oo,oo,oo,oo,oo,oo,oo,oo,oo,oo,oo,oo,oo,oo,oo,oo,oo,oo,oo,oo,oo,oo,oo,oo,oo,oo,oo,oo,oo,oo,oo,oo,oo,oo,oo,oo,oo,oo,oo,oo,oo,oo,oo,oo,oo,oo,oo,oo,oo,oo,oo,oo,oo,oo,oo,oo,oo,oo,oo,oo,oo,oo,oo,oo,oo,oo,oo,oo,oo,oo,oo,oo,oo,oo,oo,oo,oo,oo,oo,oo,oo,oo,oo,oo,oo,oo,oo,oo,oo,oo,oo,oo,oo,oo,oo,oo,oo,oo,oo,oo,oo,oo,oo,oo,oo,oo,oo,oo,oo,oo,oo,oo,oo,oo,oo,oo,oo,oo,oo,oo,oo,oo,oo,oo,oo,oo,oo,oo] [(.b 0,.box ((stm l (k+1+1+1)).map .p) T),(.l 12,.row (ddE (o.set j { d with field:=u })) tDd 12 true)] (by (simp only [ZZ,WW,Ze,reduceCtorEq,zd,ze,za,zf,zb];try trivial)) (by simp only [ZZ,WW,Ze,reduceCtorEq,zd,ze,za,zf,zb,hg,ddC];exact congrArg (fun z=>some (AO.row z tDd 12 true)) (qec o j { d with field:=u })) ⟨_,_,hset { d with field:=u } { dB with b3:=hu },by simp;omega,by omega,rfl,rfl⟩
  intro _
  simp only [ZZ,WW,Ze,reduceCtorEq,zd,ze,za,zf,zb]
  refine br ?_ ?_
  ·intro _
   simp only [ZZ,WW,Ze,reduceCtorEq,zd,ze,za,zf,zb]
   refine useS (qdF l (k+1+1) [[],[121,101,115],[32,120]] (by omega) hl (by simp) (by simp)) rfl rfl rfl zE_ ?_
   rintro x cs' ⟨u,rfl,hu,rfl⟩
   have hu:u.length≤1000:=by simp only [zH,zR,or_false] at hu;rcases hu with rfl|rfl|rfl<;>decide
   simp only [ZZ,WW,Ze,reduceCtorEq,zd,ze,za,zf,zb,hg,qab,ddC]
   refine ⟨hj,?_⟩
   exact qan [.adr (.b 0) 0,oo,oo,oo,oo,.row (.l 12),oo,oo,oo,oo,oo,oo,oo,oo,oo,oo,oo,oo,oo,oo,oo,oo,oo,oo,oo,oo,oo,oo,oo,oo,oo,oo,oo,oo,oo,oo,oo,oo,oo,oo,oo,oo,oo,oo,oo,oo,oo,oo,oo,oo,oo,oo,oo,oo,oo,oo,oo,oo,oo,oo,oo,oo,oo,oo,oo,oo,oo,oo,oo,oo,oo,oo,oo,oo,oo,oo,oo,oo,oo,oo,oo,oo,oo,oo,oo,oo,oo,oo,oo,oo,oo,oo,oo,oo,oo,oo,oo,oo,oo,oo,oo,oo,oo,oo,oo,oo,oo,oo,oo,oo,oo,oo,oo,oo,oo,oo,oo,oo,oo,oo,oo,oo,oo,oo,oo,oo,oo,oo,oo,oo,oo,oo,oo,oo,oo,oo,oo,oo,oo,oo,oo,oo,oo,oo,oo,oo,oo,oo,oo,oo,oo,oo,oo,oo,oo,oo,oo,oo,oo,oo,oo,oo,oo,oo,oo,oo,oo] [(.b 0,.box ((stm l (k+1+1+1)).map .p) T),(.l 12,.row (ddE (o.set j { d with value:=u })) tDd 12 true)] (by (simp only [ZZ,WW,Ze,reduceCtorEq,zd,ze,za,zf,zb];try trivial)) (by simp only [ZZ,WW,Ze,reduceCtorEq,zd,ze,za,zf,zb,hg,ddC];exact congrArg (fun z=>some (AO.row z tDd 12 true)) (qec o j { d with value:=u })) ⟨_,_,hset { d with value:=u } { dB with b4:=hu },by simp;omega,by omega,rfl,rfl⟩
  intro _
  simp only [ZZ,WW,Ze,reduceCtorEq,zd,ze,za,zf,zb]
  refine br ?_ ?_
  ·intro _
   simp only [ZZ,WW,Ze,reduceCtorEq,zd,ze,za,zf,zb]
   refine useS (qb8 l (k+1+1) 3 (by omega) hl (by decide)) rfl rfl rfl zE_ ?_
   rintro x cs' ⟨yu,rfl,rfl⟩
   have hu1:=qc1 yu 3
   have hu2:=qc2 yu 3 (by decide)
   generalize qdM yu 3=u at *
   simp only [ZZ,WW,Ze,reduceCtorEq,zd,ze,za,zf,zb]
   refine useS (qb8 l (k+1+1+1) 9 (by omega) hl (by decide)) rfl rfl rfl zE_ ?_
   rintro x cs' ⟨yv,rfl,rfl⟩
   have hv1:=qc1 yv 9
   have hv2:=qc2 yv 9 (by decide)
   generalize qdM yv 9=v at *
   simp only [ZZ,WW,Ze,reduceCtorEq,zd,ze,za,zf,zb,hg,qab,ddC]
   refine ⟨hj,?_⟩
   exact qan [.adr (.b 0) 0,oo,oo,oo,oo,.row (.l 12),oo,oo,oo,oo,oo,oo,oo,oo,oo,oo,oo,oo,oo,oo,oo,oo,oo,oo,oo,oo,oo,oo,oo,oo,oo,oo,oo,oo,oo,oo,oo,oo,oo,oo,oo,oo,oo,oo,oo,oo,oo,oo,oo,oo,oo,oo,oo,oo,oo,oo,oo,oo,oo,oo,oo,oo,oo,oo,oo,oo,oo,oo,oo,oo,oo,oo,oo,oo,oo,oo,oo,oo,oo,oo,oo,oo,oo,oo,oo,oo,oo,oo,oo,oo,oo,oo,oo,oo,oo,oo,oo,oo,oo,oo,oo,oo,oo,oo,oo,oo,oo,oo,oo,oo,oo,oo,oo,oo,oo,oo,oo,oo,oo,oo,oo,oo,oo,oo,oo,oo,oo,oo,oo,oo,oo,oo,oo,oo,oo,oo,oo,oo,oo,oo,oo,oo,oo,oo,oo,oo,oo,oo,oo,oo,oo,oo,oo,oo,oo,oo,oo,oo,oo,oo,oo,oo,oo,oo,oo,oo,oo] [(.b 0,.box ((stm l (k+1+1+1+1)).map .p) T),(.l 12,.row (ddE (o.set j { d with frm:=u,upto:=v })) tDd 12 true)] (by (simp only [ZZ,WW,Ze,reduceCtorEq,zd,ze,za,zf,zb];try trivial)) (by simp only [ZZ,WW,Ze,reduceCtorEq,zd,ze,za,zf,zb,hg,ddC];exact congrArg (fun z=>some (AO.row z tDd 12 true)) (qec o j { d with frm:=u,upto:=v })) ⟨_,_,hset { d with frm:=u,upto:=v } { dB with c4:=⟨by dsimp only;omega,by dsimp only;omega⟩,c5:=⟨by dsimp only;omega,by dsimp only;omega⟩ },by simp;omega,by omega,rfl,rfl⟩
  intro _
  simp only [ZZ,WW,Ze,reduceCtorEq,zd,ze,za,zf,zb]
  refine br ?_ ?_
  ·intro _
   simp only [ZZ,WW,Ze,reduceCtorEq,zd,ze,za,zf,zb]
   refine useS (qdF l (k+1+1) [[],[97],[98]] (by omega) hl (by simp) (by simp)) rfl rfl rfl zE_ ?_
   rintro x cs' ⟨u,rfl,hu,rfl⟩
   have hu:u.length≤1000:=by simp only [zH,zR,or_false] at hu;rcases hu with rfl|rfl|rfl<;>decide
   simp only [ZZ,WW,Ze,reduceCtorEq,zd,ze,za,zf,zb]
   refine useS (qb8 l (k+1+1+1) 4 (by omega) hl (by decide)) rfl rfl rfl zE_ ?_
   rintro x cs' ⟨yv,rfl,rfl⟩
   have hv1:=qc1 yv 4
   have hv2:=qc2 yv 4 (by decide)
   generalize qdM yv 4=v at *
   simp only [ZZ,WW,Ze,reduceCtorEq,zd,ze,za,zf,zb,hg,qab,ddC]
   refine ⟨hj,?_⟩
   exact qan [.adr (.b 0) 0,oo,oo,oo,oo,.row (.l 12),oo,oo,oo,oo,oo,oo,oo,oo,oo,oo,oo,oo,oo,oo,oo,oo,oo,oo,oo,oo,oo,oo,oo,oo,oo,oo,oo,oo,oo,oo,oo,oo,oo,oo,oo,oo,oo,oo,oo,oo,oo,oo,oo,oo,oo,oo,oo,oo,oo,oo,oo,oo,oo,oo,oo,oo,oo,oo,oo,oo,oo,oo,oo,oo,oo,oo,oo,oo,oo,oo,oo,oo,oo,oo,oo,oo,oo,oo,oo,oo,oo,oo,oo,oo,oo,oo,oo,oo,oo,oo,oo,oo,oo,oo,oo,oo,oo,oo,oo,oo,oo,oo,oo,oo,oo,oo,oo,oo,oo,oo,oo,oo,oo,oo,oo,oo,oo,oo,oo,oo,oo,oo,oo,oo,oo,oo,oo,oo,oo,oo,oo,oo,oo,oo,oo,oo,oo,oo,oo,oo,oo,oo,oo,oo,oo,oo,oo,oo,oo,oo,oo,oo,oo,oo,oo,oo,oo,oo,oo,oo,oo] [(.b 0,.box ((stm l (k+1+1+1+1)).map .p) T),(.l 12,.row (ddE (o.set j { d with osite:=u,ono:=v })) tDd 12 true)] (by (simp only [ZZ,WW,Ze,reduceCtorEq,zd,ze,za,zf,zb];try trivial)) (by simp only [ZZ,WW,Ze,reduceCtorEq,zd,ze,za,zf,zb,hg,ddC];exact congrArg (fun z=>some (AO.row z tDd 12 true)) (qec o j { d with osite:=u,ono:=v })) ⟨_,_,hset { d with osite:=u,ono:=v } { dB with b5:=hu,c6:=⟨by dsimp only;omega,by dsimp only;omega⟩ },by simp;omega,by omega,rfl,rfl⟩
  intro _
  simp only [ZZ,WW,Ze,reduceCtorEq,zd,ze,za,zf,zb]
  refine br ?_ ?_
  ·intro _
   simp only [ZZ,WW,Ze,reduceCtorEq,zd,ze,za,zf,zb]
   refine useS (qdF l (k+1+1) [[],[48,49,50,51,52,53,54,55,56,57,97,98,99,100,101,102]] (by omega) hl (by simp) (by simp)) rfl rfl rfl zE_ ?_
   rintro x cs' ⟨u,rfl,hu,rfl⟩
   have hu:u.length≤1000:=by simp only [zH,zR,or_false] at hu;rcases hu with rfl|rfl<;>decide
   simp only [ZZ,WW,Ze,reduceCtorEq,zd,ze,za,zf,zb,hg,qab,ddC]
   refine ⟨hj,?_⟩
   exact qan [.adr (.b 0) 0,oo,oo,oo,oo,.row (.l 12),oo,oo,oo,oo,oo,oo,oo,oo,oo,oo,oo,oo,oo,oo,oo,oo,oo,oo,oo,oo,oo,oo,oo,oo,oo,oo,oo,oo,oo,oo,oo,oo,oo,oo,oo,oo,oo,oo,oo,oo,oo,oo,oo,oo,oo,oo,oo,oo,oo,oo,oo,oo,oo,oo,oo,oo,oo,oo,oo,oo,oo,oo,oo,oo,oo,oo,oo,oo,oo,oo,oo,oo,oo,oo,oo,oo,oo,oo,oo,oo,oo,oo,oo,oo,oo,oo,oo,oo,oo,oo,oo,oo,oo,oo,oo,oo,oo,oo,oo,oo,oo,oo,oo,oo,oo,oo,oo,oo,oo,oo,oo,oo,oo,oo,oo,oo,oo,oo,oo,oo,oo,oo,oo,oo,oo,oo,oo,oo,oo,oo,oo,oo,oo,oo,oo,oo,oo,oo,oo,oo,oo,oo,oo,oo,oo,oo,oo,oo,oo,oo,oo,oo,oo,oo,oo,oo,oo,oo,oo,oo,oo] [(.b 0,.box ((stm l (k+1+1+1)).map .p) T),(.l 12,.row (ddE (o.set j { d with sum:=u })) tDd 12 true)] (by (simp only [ZZ,WW,Ze,reduceCtorEq,zd,ze,za,zf,zb];try trivial)) (by simp only [ZZ,WW,Ze,reduceCtorEq,zd,ze,za,zf,zb,hg,ddC];exact congrArg (fun z=>some (AO.row z tDd 12 true)) (qec o j { d with sum:=u })) ⟨_,_,hset { d with sum:=u } { dB with b6:=hu },by simp;omega,by omega,rfl,rfl⟩
  intro _
  simp only [ZZ,WW,Ze,reduceCtorEq,zd,ze,za,zf,zb]
  refine ⟨qai (by omega) (by omega),?_⟩
  refine quE 12 (ddE o) j (j+1) (by rw [qab];omega) rfl (by rw [qab];omega) rfl ?_
  simp only [ZZ,WW,Ze,reduceCtorEq,zd,ze,za,zf,zb]
  exact qan [.adr (.b 0) 0,oo,oo,oo,oo,.row (.l 12),oo,oo,oo,oo,oo,oo,oo,oo,oo,oo,oo,oo,oo,oo,oo,oo,oo,oo,oo,oo,oo,oo,oo,oo,oo,oo,oo,oo,oo,oo,oo,oo,oo,oo,oo,oo,oo,oo,oo,oo,oo,oo,oo,oo,oo,oo,oo,oo,oo,oo,oo,oo,oo,oo,oo,oo,oo,oo,oo,oo,oo,oo,oo,oo,oo,oo,oo,oo,oo,oo,oo,oo,oo,oo,oo,oo,oo,oo,oo,oo,oo,oo,oo,oo,oo,oo,oo,oo,oo,oo,oo,oo,oo,oo,oo,oo,oo,oo,oo,oo,oo,oo,oo,oo,oo,oo,oo,oo,oo,oo,oo,oo,oo,oo,oo,oo,oo,oo,oo,oo,oo,oo,oo,oo,oo,oo,oo,oo,oo,oo,oo,oo,oo,oo,oo,oo,oo,oo,oo,oo,oo,oo,oo,oo,oo,oo,oo,oo,oo,oo,oo,oo,oo,oo,oo,oo,oo,oo,oo,oo,oo] [(.b 0,.box ((stm l (k+1+1)).map .p) T),(.l 12,.row (ddE (o.take j++o.drop (j+1))) tDd 12 true)] (by (simp only [ZZ,WW,Ze,reduceCtorEq,zd,ze,za,zf,zb];try trivial)) (by simp only [ZZ,WW,Ze,reduceCtorEq,zd,ze,za,zf,zb];exact congrArg (fun z=>some (AO.row z tDd 12 true)) (qub o j)) ⟨_,_,hdel,by simp;omega,by omega,rfl,rfl⟩
 rintro fr L ⟨q,k2,hqB,hql,hk2,rfl,rfl⟩
 simp only [ZZ,WW,Ze,reduceCtorEq,zd,ze,za,zf,zb]
 refine useS (qlr l k2 2 (by omega) hl (by decide)) rfl rfl rfl zE_ ?_
 rintro x cs' ⟨z,rfl,rfl⟩
 simp only [ZZ,WW,Ze,reduceCtorEq,zd,ze,za,zf,zb]
 refine qeG (SpN l k) ?_ ?_ ?_
 ·intro _
  simp only [ZZ,WW,Ze,reduceCtorEq,zd,ze,za,zf,zb,qab]
  refine qaf (fun n fr L=>∃ (i:Nat) (q':List Dd) (kv:List (List UInt8×PV)),i≤q.length∧n=q.length - i∧(DdsB q')∧(q'.length=q.length)∧(∀ s:List UInt8,∃ b:List UInt8,mpD kv s (.str [])=.str b∧b.length≤1000)∧fr=[.adr (.b 0) 0,oo,oo,oo,oo,.row (.l 12),oo,oo,.mp (.l 137),oo,oo,oo,oo,oo,oo,oo,oo,oo,oo,oo,oo,oo,oo,oo,oo,oo,oo,oo,oo,oo,oo,oo,oo,oo,oo,oo,oo,oo,oo,oo,oo,oo,oo,oo,oo,oo,oo,oo,oo,oo,oo,oo,oo,oo,oo,oo,oo,oo,oo,oo,oo,oo,oo,oo,oo,oo,oo,oo,oo,oo,oo,oo,oo,oo,oo,oo,oo,oo,oo,oo,oo,oo,oo,oo,oo,oo,oo,oo,oo,oo,oo,oo,oo,oo,oo,oo,oo,oo,oo,oo,oo,oo,oo,oo,oo,oo,oo,oo,oo,oo,oo,oo,oo,oo,oo,oo,oo,oo,oo,oo,oo,oo,oo,oo,oo,oo,oo,oo,oo,oo,oo,oo,oo,oo,oo,oo,oo,oo,.row (.l 12),.p (int (q.length:Nat)),.p (int (i:Nat)),oo,oo,oo,oo,oo,oo,oo,oo,oo,oo,oo,oo,oo,oo,oo,oo,oo,oo,oo,oo,oo,oo,oo,oo,oo,oo]∧L=[(.b 0,.box ((stm l (k2+1)).map .p) T),(.l 12,.row (ddE q') tDd 12 true),(.l 137,.map kv 9 9)]) (q.length) [.adr (.b 0) 0,oo,oo,oo,oo,.row (.l 12),oo,oo,.mp (.l 137),oo,oo,oo,oo,oo,oo,oo,oo,oo,oo,oo,oo,oo,oo,oo,oo,oo,oo,oo,oo,oo,oo,oo,oo,oo,oo,oo,oo,oo,oo,oo,oo,oo,oo,oo,oo,oo,oo,oo,oo,oo,oo,oo,oo,oo,oo,oo,oo,oo,oo,oo,oo,oo,oo,oo,oo,oo,oo,oo,oo,oo,oo,oo,oo,oo,oo,oo,oo,oo,oo,oo,oo,oo,oo,oo,oo,oo,oo,oo,oo,oo,oo,oo,oo,oo,oo,oo,oo,oo,oo,oo,oo,oo,oo,oo,oo,oo,oo,oo,oo,oo,oo,oo,oo,oo,oo,oo,oo,oo,oo,oo,oo,oo,oo,oo,oo,oo,oo,oo,oo,oo,oo,oo,oo,oo,oo,oo,oo,oo,.row (.l 12),.p (int (q.length:Nat)),.p (int (0:Nat)),oo,oo,oo,oo,oo,oo,oo,oo,oo,oo,oo,oo,oo,oo,oo,oo,oo,oo,oo,oo,oo,oo,oo,oo,oo,oo] [(.b 0,.box ((stm l (k2+1)).map .p) T),(.l 12,.row (ddE q) tDd 12 true),(.l 137,.map ((List.nil:List (List UInt8×PV))) 9 9)] (by (simp only [ZZ,WW,Ze,reduceCtorEq,zd,ze,za,zf,zb];try trivial)) (by (simp only [ZZ,WW,Ze,reduceCtorEq,zd,ze,za,zf,zb];try trivial)) ⟨0,q,(List.nil:List (List UInt8×PV)),by omega,by omega,hqB,rfl,(fun s=>⟨[],rfl,by simp⟩),rfl,rfl⟩ ?_
  rintro n fr L ⟨i,q',kv,hi,rfl,hqB',hql',hkv,rfl,rfl⟩
  simp only [qa6,ZZ,WW,Ze,reduceCtorEq,zd,ze,za,zf,zb]
  refine br ?_ ?_
  ·intro h
   have hlt:i < q.length:=by have:=of_decide_eq_true h;omega
   obtain ⟨d,hd⟩:∃ d,q'[i]?=some d:=⟨_,zm (by omega)⟩
   have hg:=qaU hd
   have dB:=hqB'.get hd
   obtain ⟨b,hb,hbl⟩:=hkv d.site
   have hi2:i < q'.length:=by omega
   have hSum:=qg2 d dB b hbl
   have hS16:(sumF b d).length≤1000:=by show (digF _).length≤1000;rw [qoc];decide
   generalize sumF b d=S at *
   have hgs:(ddE (q'.set i { d with sum:=S })).getD i []=ddC { d with sum:=S }:=qaU (by rw [List.getElem?_set_self hi2])
   simp only [ZZ,WW,Ze,reduceCtorEq,zd,ze,za,zf,zb,hg,qab,ddC,hb]
   refine ⟨⟨by omega,by omega⟩,hi2,?_⟩
   refine use1 hSum rfl (.inl rfl) ?_
   simp only [ZZ,WW,Ze,reduceCtorEq,zd,ze,za,zf,zb,hg,qab,ddC]
   refine ⟨⟨by omega,by omega⟩,hi2,?_⟩
   have hse:(ddE q').set i [.str d.site,int d.no,int d.tm,int d.kind,.str d.id,.str d.field,.str d.value,int d.frm,int d.upto,.str d.osite,int d.ono,.str (S)]=ddE (q'.set i { d with sum:=S }):=qec q' i { d with sum:=S }
   rw [hse]
   refine drg0 ?_
   simp only [ZZ,WW,Ze,reduceCtorEq,zd,ze,za,zf,zb,hgs,qab,ddC]
   have hsl:(q'.set i { d with sum:=S }).length=q'.length:=by simp
   refine ⟨⟨by omega,by rw [hsl];omega⟩,by rw [hsl];omega,qai (by omega) (by omega),?_⟩
   have hq3B:DdsB (q'.set i { d with sum:=S }):=spB hqB' { dB with b6:=hS16 }
   have hq3l:(q'.set i { d with sum:=S }).length=q.length:=by rw [hsl];exact hql'
   have hk3:=spK (k:=d.site) hkv hS16
   clear hgs hse hsl hSum hg hb hd
   generalize q'.set i { d with sum:=S }=q3 at *
   generalize mpS kv d.site (.str (S))=kv3 at *
   refine qae (q.length - (i+1)) [.adr (.b 0) 0,oo,oo,oo,oo,.row (.l 12),oo,oo,.mp (.l 137),oo,oo,oo,oo,oo,oo,oo,oo,oo,oo,oo,oo,oo,oo,oo,oo,oo,oo,oo,oo,oo,oo,oo,oo,oo,oo,oo,oo,oo,oo,oo,oo,oo,oo,oo,oo,oo,oo,oo,oo,oo,oo,oo,oo,oo,oo,oo,oo,oo,oo,oo,oo,oo,oo,oo,oo,oo,oo,oo,oo,oo,oo,oo,oo,oo,oo,oo,oo,oo,oo,oo,oo,oo,oo,oo,oo,oo,oo,oo,oo,oo,oo,oo,oo,oo,oo,oo,oo,oo,oo,oo,oo,oo,oo,oo,oo,oo,oo,oo,oo,oo,oo,oo,oo,oo,oo,oo,oo,oo,oo,oo,oo,oo,oo,oo,oo,oo,oo,oo,oo,oo,oo,oo,oo,oo,oo,oo,oo,oo,.row (.l 12),.p (int (q.length:Nat)),.p (int ((i+1):Nat)),oo,oo,oo,oo,oo,oo,oo,oo,oo,oo,oo,oo,oo,oo,oo,oo,oo,oo,oo,oo,oo,oo,oo,oo,oo,oo] [(.b 0,.box ((stm l (k2+1)).map .p) T),(.l 12,.row (ddE (q3)) tDd 12 true),(.l 137,.map (kv3) 9 9)] (by omega) (by (simp only [ZZ,WW,Ze,reduceCtorEq,zd,ze,za,zf,zb];try trivial)) (by (simp only [ZZ,WW,Ze,reduceCtorEq,zd,ze,za,zf,zb];try trivial)) ⟨i+1,q3,kv3,by omega,rfl,hq3B,hq3l,hk3,rfl,rfl⟩
  ·intro h
   simp only [ZZ,WW,Ze,reduceCtorEq,zd,ze,za,zf,zb]
   exact qan [.adr (.b 0) 0,oo,oo,oo,oo,.row (.l 12),oo,oo,oo,oo,oo,oo,oo,oo,oo,oo,oo,oo,oo,oo,oo,oo,oo,oo,oo,oo,oo,oo,oo,oo,oo,oo,oo,oo,oo,oo,oo,oo,oo,oo,oo,oo,oo,oo,oo,oo,oo,oo,oo,oo,oo,oo,oo,oo,oo,oo,oo,oo,oo,oo,oo,oo,oo,oo,oo,oo,oo,oo,oo,oo,oo,oo,oo,oo,oo,oo,oo,oo,oo,oo,oo,oo,oo,oo,oo,oo,oo,oo,oo,oo,oo,oo,oo,oo,oo,oo,oo,oo,oo,oo,oo,oo,oo,oo,oo,oo,oo,oo,oo,oo,oo,oo,oo,oo,oo,oo,oo,oo,oo,oo,oo,oo,oo,oo,oo,oo,oo,oo,oo,oo,oo,oo,oo,oo,oo,oo,oo,oo,oo,oo,oo,oo,oo,oo,oo,oo,oo,oo,oo,oo,oo,oo,oo,oo,oo,oo,oo,oo,oo,oo,oo,oo,oo,oo,oo,oo,oo] [(.b 0,.box ((stm l (k2+1)).map .p) T),(.l 12,.row (ddE q') tDd 12 true)] (by (simp only [ZZ,WW,Ze,reduceCtorEq,zd,ze,za,zf,zb];try trivial)) zE_ ⟨q',_,hqB',by omega,by omega,rfl,rfl⟩
 ·intro _
  simp only [ZZ,WW,Ze,reduceCtorEq,zd,ze,za,zf,zb]
  exact qan [.adr (.b 0) 0,oo,oo,oo,oo,.row (.l 12),oo,oo,oo,oo,oo,oo,oo,oo,oo,oo,oo,oo,oo,oo,oo,oo,oo,oo,oo,oo,oo,oo,oo,oo,oo,oo,oo,oo,oo,oo,oo,oo,oo,oo,oo,oo,oo,oo,oo,oo,oo,oo,oo,oo,oo,oo,oo,oo,oo,oo,oo,oo,oo,oo,oo,oo,oo,oo,oo,oo,oo,oo,oo,oo,oo,oo,oo,oo,oo,oo,oo,oo,oo,oo,oo,oo,oo,oo,oo,oo,oo,oo,oo,oo,oo,oo,oo,oo,oo,oo,oo,oo,oo,oo,oo,oo,oo,oo,oo,oo,oo,oo,oo,oo,oo,oo,oo,oo,oo,oo,oo,oo,oo,oo,oo,oo,oo,oo,oo,oo,oo,oo,oo,oo,oo,oo,oo,oo,oo,oo,oo,oo,oo,oo,oo,oo,oo,oo,oo,oo,oo,oo,oo,oo,oo,oo,oo,oo,oo,oo,oo,oo,oo,oo,oo,oo,oo,oo,oo,oo,oo] [(.b 0,.box ((stm l (k2+1)).map .p) T),(.l 12,.row (ddE q) tDd 12 true)] (by (simp only [ZZ,WW,Ze,reduceCtorEq,zd,ze,za,zf,zb];try trivial)) zE_ ⟨q,_,hqB,hql,by omega,rfl,rfl⟩
 rintro fr L ⟨q2,k3,hq2B,hq2l,hk3,rfl,rfl⟩
 simp only [ZZ,WW,Ze,reduceCtorEq,zd,ze,za,zf,zb]
 exact qgQ (stm l k3) rfl ⟨q2,k3,rfl,hq2B,hq2l,rfl,hk3⟩
def qa2:IC:=(.seq (.reg [qO 14 (.bin .lss (.t 13) (.t 12))]) (.seq (.cond (.t 14) .skip (.exit 0)) (.seq (.block 1 (.seq (.reg [qM 15 13,qM 5 15]) (.seq (.drg [qM 16 0,qM 17 5,qO 18 (.ixa 12 (.t 16) (.t 17)),qO 19 (.ld 12 true (.t 18)),qM 20 1,qM 21 5,qO 22 (.ixa 12 (.t 20) (.t 21)),qO 23 (.ld 12 true (.t 22)),qO 24 (.eqa true [.s,.i,.i,.i,.s,.s,.s,.i,.i,.s,.i,.s] (.t 19) (.t 23))]) (.cond (.t 24) (.seq (.reg [qO 4 (.mov (.c (.bool false)))]) .ret) .skip)))) (.reg [qO 25 (.bin .add (.t 13) (.c (.int .i64 1))),qM 13 25]))))
def qbh:IC:=(.seq (.reg [qO 4 (.mov (.c (.bool false)))]) (.seq (.seq (.reg [qM 6 0,qO 7 (.len (.t 6)),qM 8 1,qO 9 (.len (.t 8)),qO 10 (.bin .neq (.t 7) (.t 9))]) (.cond (.t 10) (.seq (.reg [qO 4 (.mov (.c (.bool false)))]) .ret) .skip)) (.seq (.seq (.reg [qM 11 0,qO 12 (.len (.t 11)),qO 13 (.mov (.c (.int .i64 0)))]) (.block 0 (.loop qa2))) (.seq (.reg [qO 4 (.mov (.c (.bool true)))]) .ret))))
def qbe:List IRes:=[.t 4]
theorem qcY:chkF Tryz.prog Tryz.f25 qbh qbe 26=true:=by kernel_rfl
section
variable {E:Envt}
theorem qjt (l:List Dd) (hl:l.length≤1000000000):PCall Tryz.prog E 25 [.sl 12 (ddE l),.sl 12 (ddE l)] (·=.bool true):=by
 refine qah mixed Tryz.func25 qcY ?_
 simp only [a0,l0,OS.ao,zl,List.map_nil,zn,zr,zp,zq,zu,zd,zk,zo,qbh,qbe,ZZ,WW,Ze,reduceCtorEq,zd,ze,za,zf,zb]
 simp only [ZZ,WW,Ze,reduceCtorEq,zd,ze,za,zf,zb,qab,decide_true,Bool.not_true]
 refine qaf (fun n fr L=>∃ (k:Nat),k≤l.length∧n=l.length - k∧fr=[.p (.sl 12 (ddE l)),.p (.sl 12 (ddE l)),oo,oo,oo,oo,oo,oo,oo,oo,oo,oo,.p (int (l.length:Nat)),.p (int (k:Nat)),oo,oo,oo,oo,oo,oo,oo,oo,oo,oo,oo,oo]∧L=[]) (l.length) [.p (.sl 12 (ddE l)),.p (.sl 12 (ddE l)),oo,oo,oo,oo,oo,oo,oo,oo,oo,oo,.p (int (l.length:Nat)),.p (int (0:Nat)),oo,oo,oo,oo,oo,oo,oo,oo,oo,oo,oo,oo] [] (by simp only [qab,ZZ,WW,Ze,reduceCtorEq,zd,ze,za,zf,zb];try trivial) (by (simp only [ZZ,WW,Ze,reduceCtorEq,zd,ze,za,zf,zb];try trivial)) ⟨0,by omega,by omega,rfl,rfl⟩ ?_
 rintro n fr L ⟨k,hk,rfl,rfl,rfl⟩
 simp only [qa2,ZZ,WW,Ze,reduceCtorEq,zd,ze,za,zf,zb]
 refine br ?_ ?_
 ·intro h
  have hlt:k < l.length:=by have:=of_decide_eq_true h;omega
  obtain ⟨d,hd⟩:∃ d,l[k]?=some d:=⟨_,zm hlt⟩
  have hg:=qaU hd
  simp only [ZZ,WW,Ze,reduceCtorEq,zd,ze,za,zf,zb]
  refine drg0 ?_
  simp only [ZZ,WW,Ze,reduceCtorEq,zd,ze,za,zf,zb,hg,qab,ddC,decide_true,Bool.and_self,Bool.not_true]
  refine ⟨⟨by omega,by omega⟩,hlt,⟨by omega,by omega⟩,hlt,qai (by omega) (by omega),?_⟩
  refine qae (l.length - (k+1)) [.p (.sl 12 (ddE l)),.p (.sl 12 (ddE l)),oo,oo,oo,oo,oo,oo,oo,oo,oo,oo,.p (int (l.length:Nat)),.p (int ((k+1):Nat)),oo,oo,oo,oo,oo,oo,oo,oo,oo,oo,oo,oo] [] (by omega) (by (simp only [ZZ,WW,Ze,reduceCtorEq,zd,ze,za,zf,zb];try trivial)) (by (simp only [ZZ,WW,Ze,reduceCtorEq,zd,ze,za,zf,zb];try trivial)) ⟨k+1,by omega,rfl,rfl,rfl⟩
 ·intro h
  simp only [ZZ,WW,Ze,reduceCtorEq,zd,ze,za,zf,zb]
end
end Go.Proofs.YtinffddgojhdfaaGreatDoor
namespace Go.Proofs.YtinffddgojhdfaaGreatDoor
open Go.RowKit Go.Sort
set_option maxRecDepth 100000 in
set_option maxHeartbeats 2000000 in
theorem qnq (s t:List UInt8) (x0 y0:Int) (w:World):Calls Tryz.prog 43 #[.agg #[.string ⟨s.toArray⟩,.int .i64 x0],.agg #[.string ⟨t.toArray⟩,.int .i64 y0]] w fun e w'=>e=.returned (.int .i64 (stC s x0 t y0))∧∃ q os',w'=grow (w.drewN q) os':=by
 go_enter Tryz.func43,Tryz.ntmps43
 go_wp2_with fail
 generalize hW:World.alloc (World.alloc w _) _=W
 have c0:W.cell? ⟨w.heap.size,0,none⟩=some (.string ⟨s.toArray⟩):=by rw [← hW,qia];rfl
 have c1:W.cell? ⟨w.heap.size,1,none⟩=some (.int .i64 x0):=by rw [← hW,qia];rfl
 have c2:W.cell? ⟨w.heap.size+1,0,none⟩=some (.string ⟨t.toArray⟩):=by rw [← hW,qh9];rfl
 have c3:W.cell? ⟨w.heap.size+1,1,none⟩=some (.int .i64 y0):=by rw [← hW,qh9];rfl
 have hG:∃ q os',W=grow (w.drewN q) os':=hW ▸ qpU w _ _
 clear hW
 generalize w.heap.size=n at *
 refine wp_region_still_tail 10 (by kernel_rfl) (by kernel_rfl) ?_
 simp only [List.take_succ_cons,List.take_zero,List.drop_succ_cons,List.drop_zero]
 have hG2:∃ q os',({ W with drawn:=W.drawn+1 }:World)=grow (w.drewN q) os':=by
  obtain ⟨q,os',rfl⟩:=hG
  exact ⟨q+1,os',rfl⟩
 replace c0:({ W with drawn:=W.drawn+1 }:World).cell? ⟨n,0,none⟩=some (.string ⟨s.toArray⟩):=c0
 replace c1:({ W with drawn:=W.drawn+1 }:World).cell? ⟨n,1,none⟩=some (.int .i64 x0):=c1
 replace c2:({ W with drawn:=W.drawn+1 }:World).cell? ⟨n+1,0,none⟩=some (.string ⟨t.toArray⟩):=c2
 replace c3:({ W with drawn:=W.drawn+1 }:World).cell? ⟨n+1,1,none⟩=some (.int .i64 y0):=c3
 clear hG
 generalize ({ W with drawn:=W.drawn+1 }:World)=V at *
 refine wpStill_step (fun K hK=>?_)
 go_simp
 refine hK _ ?_
 clear hK K
 refine wpStill_step (fun K hK=>?_)
 go_simp
 refine hK _ ?_
 clear hK K
 refine wpStill_step (fun K hK=>?_)
 go_simp
 refine hK _ ?_
 clear hK K
 refine wpStill_step (fun K hK=>?_)
 go_simp
 refine hK _ ?_
 clear hK K
 refine wpStill_step (fun K hK=>?_)
 go_simp
 refine ⟨_,Any.strings_Compare Tryz.layCompare _ _ _,hK _ ?_⟩
 clear hK K
 refine wpStill_step (fun K hK=>?_)
 go_simp
 refine hK _ ?_
 clear hK K
 refine wpStill_step (fun K hK=>?_)
 go_simp
 refine hK _ ?_
 clear hK K
 refine wpStill_step (fun K hK=>?_)
 go_simp
 refine hK _ ?_
 clear hK K
 refine wpStill_step (fun K hK=>?_)
 go_simp
 refine hK _ ?_
 clear hK K
 refine wpStill_step (fun K hK=>?_)
 go_simp
 refine ⟨_,Any.cmp_Compare_int Tryz.layCmpInt _ _ _,hK _ ?_⟩
 clear hK K
 refine wpStill_nil ?_
 clear c0 c1 c2 c3
 have hv:qaI [Lib.compareBytes s t,Lib.compareInt x0 y0]=stC s x0 t y0:=by
  have e:Lib.compareInt x0 y0=sgnC x0 y0:=by
   unfold Lib.compareInt sgnC
   split
   ·rfl
   ·split<;>rfl
  rw [e]
  rfl
 generalize Lib.compareBytes s t=x at *
 generalize Lib.compareInt x0 y0=y at *
 go_wp2_with (refine (qpu x y V.heap.size (V.alloc (.cells #[.int .i64 x,.int .i64 y] 3)) (qla V _ _ 0) (qla V _ _ 1)).mono ?_;rintro e w' ⟨rfl,rfl⟩)
 go_ret
 refine ⟨rfl,?_⟩
 obtain ⟨q,os',rfl⟩:=hG2
 exact ⟨q,os'.push _,ql6 _ _ _⟩
theorem qpT (w:World) (q q2:Nat) (os os2:Array Obj):grow ((grow (w.drewN q) os).drewN q2) os2=grow (w.drewN (q+q2)) (os++os2):=by
 cases w
 simp only [grow,World.drewN,World.mk.injEq,and_true,true_and,Nat.add_assoc]
 apply Array.ext'
 simp
set_option maxRecDepth 100000 in
set_option maxHeartbeats 2000000 in
theorem qoC (a b:Dd) (w:World):Calls Tryz.prog 67 #[.agg (ddV a),.agg (ddV b)] w fun e w'=>e=.returned (.int .i64 (cmpD a b))∧∃ q os',w'=grow (w.drewN q) os':=by
 have ea:ddV a=#[.string ⟨a.site.toArray⟩,.int .i64 a.no,.int .i64 a.tm,.int .i64 a.kind,.string ⟨a.id.toArray⟩,.string ⟨a.field.toArray⟩,.string ⟨a.value.toArray⟩,.int .i64 a.frm,.int .i64 a.upto,.string ⟨a.osite.toArray⟩,.int .i64 a.ono,.string ⟨a.sum.toArray⟩]:=rfl
 have eb:ddV b=#[.string ⟨b.site.toArray⟩,.int .i64 b.no,.int .i64 b.tm,.int .i64 b.kind,.string ⟨b.id.toArray⟩,.string ⟨b.field.toArray⟩,.string ⟨b.value.toArray⟩,.int .i64 b.frm,.int .i64 b.upto,.string ⟨b.osite.toArray⟩,.int .i64 b.ono,.string ⟨b.sum.toArray⟩]:=rfl
 have hv:stC a.site a.no b.site b.no=cmpD a b:=rfl
 rw [ea,eb]
 have hg:=Lib.hid (qpU w (.cells #[.string ⟨a.site.toArray⟩,.int .i64 a.no,.int .i64 a.tm,.int .i64 a.kind,.string ⟨a.id.toArray⟩,.string ⟨a.field.toArray⟩,.string ⟨a.value.toArray⟩,.int .i64 a.frm,.int .i64 a.upto,.string ⟨a.osite.toArray⟩,.int .i64 a.ono,.string ⟨a.sum.toArray⟩] tDd) (.cells #[.string ⟨b.site.toArray⟩,.int .i64 b.no,.int .i64 b.tm,.int .i64 b.kind,.string ⟨b.id.toArray⟩,.string ⟨b.field.toArray⟩,.string ⟨b.value.toArray⟩,.int .i64 b.frm,.int .i64 b.upto,.string ⟨b.osite.toArray⟩,.int .i64 b.ono,.string ⟨b.sum.toArray⟩] tDd))
 have c0:((w.alloc (.cells #[.string ⟨a.site.toArray⟩,.int .i64 a.no,.int .i64 a.tm,.int .i64 a.kind,.string ⟨a.id.toArray⟩,.string ⟨a.field.toArray⟩,.string ⟨a.value.toArray⟩,.int .i64 a.frm,.int .i64 a.upto,.string ⟨a.osite.toArray⟩,.int .i64 a.ono,.string ⟨a.sum.toArray⟩] tDd)).alloc (.cells #[.string ⟨b.site.toArray⟩,.int .i64 b.no,.int .i64 b.tm,.int .i64 b.kind,.string ⟨b.id.toArray⟩,.string ⟨b.field.toArray⟩,.string ⟨b.value.toArray⟩,.int .i64 b.frm,.int .i64 b.upto,.string ⟨b.osite.toArray⟩,.int .i64 b.ono,.string ⟨b.sum.toArray⟩] tDd)).cell? ⟨w.heap.size,0,none⟩=some (.string ⟨a.site.toArray⟩):=by rw [qia];rfl
 have c1:((w.alloc (.cells #[.string ⟨a.site.toArray⟩,.int .i64 a.no,.int .i64 a.tm,.int .i64 a.kind,.string ⟨a.id.toArray⟩,.string ⟨a.field.toArray⟩,.string ⟨a.value.toArray⟩,.int .i64 a.frm,.int .i64 a.upto,.string ⟨a.osite.toArray⟩,.int .i64 a.ono,.string ⟨a.sum.toArray⟩] tDd)).alloc (.cells #[.string ⟨b.site.toArray⟩,.int .i64 b.no,.int .i64 b.tm,.int .i64 b.kind,.string ⟨b.id.toArray⟩,.string ⟨b.field.toArray⟩,.string ⟨b.value.toArray⟩,.int .i64 b.frm,.int .i64 b.upto,.string ⟨b.osite.toArray⟩,.int .i64 b.ono,.string ⟨b.sum.toArray⟩] tDd)).cell? ⟨w.heap.size,1,none⟩=some (.int .i64 a.no):=by rw [qia];rfl
 have c2:((w.alloc (.cells #[.string ⟨a.site.toArray⟩,.int .i64 a.no,.int .i64 a.tm,.int .i64 a.kind,.string ⟨a.id.toArray⟩,.string ⟨a.field.toArray⟩,.string ⟨a.value.toArray⟩,.int .i64 a.frm,.int .i64 a.upto,.string ⟨a.osite.toArray⟩,.int .i64 a.ono,.string ⟨a.sum.toArray⟩] tDd)).alloc (.cells #[.string ⟨b.site.toArray⟩,.int .i64 b.no,.int .i64 b.tm,.int .i64 b.kind,.string ⟨b.id.toArray⟩,.string ⟨b.field.toArray⟩,.string ⟨b.value.toArray⟩,.int .i64 b.frm,.int .i64 b.upto,.string ⟨b.osite.toArray⟩,.int .i64 b.ono,.string ⟨b.sum.toArray⟩] tDd)).cell? ⟨w.heap.size+1,0,none⟩=some (.string ⟨b.site.toArray⟩):=by rw [qh9];rfl
 have c3:((w.alloc (.cells #[.string ⟨a.site.toArray⟩,.int .i64 a.no,.int .i64 a.tm,.int .i64 a.kind,.string ⟨a.id.toArray⟩,.string ⟨a.field.toArray⟩,.string ⟨a.value.toArray⟩,.int .i64 a.frm,.int .i64 a.upto,.string ⟨a.osite.toArray⟩,.int .i64 a.ono,.string ⟨a.sum.toArray⟩] tDd)).alloc (.cells #[.string ⟨b.site.toArray⟩,.int .i64 b.no,.int .i64 b.tm,.int .i64 b.kind,.string ⟨b.id.toArray⟩,.string ⟨b.field.toArray⟩,.string ⟨b.value.toArray⟩,.int .i64 b.frm,.int .i64 b.upto,.string ⟨b.osite.toArray⟩,.int .i64 b.ono,.string ⟨b.sum.toArray⟩] tDd)).cell? ⟨w.heap.size+1,1,none⟩=some (.int .i64 b.no):=by rw [qh9];rfl
 go_enter Tryz.func67,Tryz.ntmps67
 go_wp2_with (refine (qnq a.site b.site a.no b.no _).mono ?_;rintro e w' ⟨rfl,q,os',rfl⟩)
 go_ret
 obtain ⟨q1,os1,hg⟩:=hg.out
 exact ⟨by rw [← hv];rfl,q1+q,os1++os',by rw [hg];exact qpT _ _ _ _ _⟩
theorem qoB (E:Envt) (l:List Dd) (hl:l.length≤1000000000000):qqm E 67 l:=by
 have tr:=cmpD_p.tr
 have an:=cmpD_p.anti
 have h:=qie (E:=E) Tryz.layDeedSort 12 (fun w=>Tryz.isAgg45 w) (fun w=>Tryz.sizeOf45 w) tDd ddC (fun x=>rfl) (fun x=>rfl) cmpD
  ⟨fun x=>by have:=an x x;simp [ltOf];omega,fun x y z h1 h2=>by simp only [ltOf,decide_eq_true_eq] at *;have a1:=an x y;have a2:=an y z;have a3:=an x z;have a4:=an z x;have t1:=tr x y z;have t2:=tr z x y;omega,fun x y z h1 h2=>by simp only [ltOf,decide_eq_false_iff_not] at *;have a1:=an x y;have a2:=an y z;have a3:=an x z;have t1:=tr z y x;have a4:=an z y;have a5:=an y x;omega⟩ 67 (fun args w=>qfI (by kernel_rfl) args w)
  (fun w x y=>qoC _ _ w) l hl
 refine RCall.mono h ?_
 rintro x es ⟨rfl,l',rfl,hp,hs⟩
 refine ⟨rfl,l',rfl,hp,hs.imp ?_⟩
 intro u v h
 have:=an v u
 simp only [ltOf,decide_eq_false_iff_not] at h
 omega
theorem qpE (E:Envt) (l:List Dd) (hl:l.length≤1000000000000) (hq:UnqD l):RCall Tryz.prog E 66 tDd 12 (ddE l) [.clo 67 []] (fun x es'=>x=.tup []∧es'=ddE (srtD l)):=by
 refine RCall.mono (qoB E l hl) ?_
 rintro x es ⟨rfl,l',rfl,hp,hs⟩
 exact ⟨rfl,by rw [qpa hq hp hs]⟩
end Go.Proofs.YtinffddgojhdfaaGreatDoor
namespace Go.Proofs.YtinffddgojhdfaaGreatDoor
open Nat renaming reduceAdd→zd,reduceEqDiff→zb,reduceLT→zf,reduceLeDiff→za,reduceMul→ze
open List renaming mem_of_find?_eq_some→yp
open Go.RowKit
def qer:IC:=(.seq (.reg [qO 32 (.bin .lss (.t 31) (.t 30))]) (.seq (.cond (.t 32) .skip (.exit 0)) (.seq (.block 1 (.seq (.reg [qO 33 (.ixa 12 (.t 29) (.t 31)),qO 34 (.ld 12 true (.t 33)),qO 10 (.alc 45 [.str [],.int .i64 0,.int .i64 0,.int .i64 0,.str [],.str [],.str [],.int .i64 0,.int .i64 0,.str [],.int .i64 0,.str []]),⟨none,.st 12 (.t 10) (.t 34),none⟩]) (.seq (.reg [qM 36 7,qO 37 (.fla 0 (.t 10)),qO 38 (.ld 2 true (.t 37)),qO 39 (.mplk true [.s,.i] (.agg [.str [],.int .i64 0,.int .i64 0,.int .i64 0,.str [],.str [],.str [],.int .i64 0,.int .i64 0,.str [],.int .i64 0,.str []]) (.t 36) (.t 38)),qM 35 39,qO 40 (.ext 0 (.t 35)),qO 41 (.ext 1 (.t 35)),qO 11 (.alc 45 [.str [],.int .i64 0,.int .i64 0,.int .i64 0,.str [],.str [],.str [],.int .i64 0,.int .i64 0,.str [],.int .i64 0,.str []]),⟨none,.st 12 (.t 11) (.t 40),none⟩,qM 12 41]) (.seq (.seq (.reg [qM 42 12,qM 43 42,⟨some 44,.ld 12 true (.t 11),(some (43,true))⟩,⟨some 45,.ld 12 true (.t 10),(some (43,true))⟩,⟨some 46,.eqa true [.s,.i,.i,.i,.s,.s,.s,.i,.i,.s,.i,.s] (.t 44) (.t 45),(some (43,true))⟩,qO 47 (.pick (.t 43) (.t 46) (.c (.bool false)))]) (.cond (.t 47) (.seq (.reg [qO 4 (.mov (.c (.nl 12))),qO 5 (.mov (.c (.int .i64 13)))]) .ret) .skip)) (.seq (.reg [qM 48 12,qO 49 (.not (.t 48))]) (.cond (.t 49) (.seq (.reg [qM 50 7,qO 51 (.fla 0 (.t 10)),qO 52 (.ld 2 true (.t 51)),qO 53 (.ld 12 true (.t 10)),⟨none,.mpuk [.s,.i] (.t 50) (.t 52) (.t 53),none⟩]) (.reg [qM 54 8,qO 55 (.ld 12 true (.t 10)),qO 56 (.bsl 12 [.t 55]),qO 57 (.app 45 12 144 (.t 54) (.t 56)),qM 8 57])) .skip)))))) (.cut (.reg [qO 58 (.bin .add (.t 31) (.c (.int .i64 1))),qM 31 58])))))
def qf2:IC:=(.seq (.reg [qO 4 (.mov (.c (.nl 12))),qO 5 (.mov (.c (.int .i64 0)))]) (.seq (.seq (.reg [qM 14 0,qO 15 (.call 59 [.t 14]),qM 16 1,qO 17 (.len (.t 16)),qO 18 (.bin .gtr (.t 17) (.c (.int .i64 2000))),qO 19 (.call 41 [.t 18,.c (.int .i64 2)]),qO 20 (.bsl 1 [.t 15,.t 19]),qO 21 (.call 40 [.t 20]),qM 6 21]) (.seq (.reg [qM 22 6,qO 23 (.bin .neq (.t 22) (.c (.int .i64 0)))]) (.cond (.t 23) (.seq (.reg [qM 24 6,qO 4 (.mov (.c (.nl 12))),qM 5 24]) .ret) .skip))) (.seq (.reg [qO 25 (.mkk [.s,.i] 43 45),qM 7 25]) (.seq (.reg [qO 8 (.nilr 45 12)]) (.seq (.seq (.reg [qM 26 0,qM 27 1,qO 28 (.bsl 1 [.t 26,.t 27]),qO 29 (.call 65 [.t 28]),qO 30 (.len (.t 29)),qO 31 (.mov (.c (.int .i64 0)))]) (.block 0 (.loop qer))) (.seq (.reg [qM 59 8,qO 60 (.call 66 [.t 59,.f 67])]) (.seq (.seq (.reg [qM 61 8,qO 62 (.call 59 [.t 61]),qM 13 62]) (.seq (.reg [qM 63 13,qO 64 (.bin .neq (.t 63) (.c (.int .i64 0)))]) (.cond (.t 64) (.seq (.reg [qM 65 13,qO 4 (.mov (.c (.nl 12))),qM 5 65]) .ret) .skip))) (.seq (.reg [qM 66 8,qM 4 66,qO 5 (.mov (.c (.int .i64 0)))]) .ret))))))))
def qfN:List IRes:=[.t 4,.t 5]
theorem qjh:chkF Tryz.prog Tryz.f30 qf2 qfN 67=true:=by kernel_rfl
def mgW (a b:List Dd):List Dd×Int:=if ¬ (ckdF a).2=0 then ([],(ckdF a).2) else mrgV a b
theorem qoI {l:List Dd} {s:List UInt8} {n:Int} (h:qbF l s n=none):qfB l s n=none:=by
 unfold qbF at h
 unfold qfB
 rw [List.find?_eq_none] at h ⊢
 intro x hx
 exact h x (List.mem_reverse.1 hx)
theorem qri {l:List Dd} (h:UnqD l) (s:List UInt8) (n:Int):qfB l s n=qbF l s n:=by
 cases hf:qbF l s n with
 |none=>exact qoI hf
 |some x=>
  obtain ⟨hx1,hx2⟩:x∈l∧(decide (x.site=s) && decide (x.no=n))=true:=⟨yp hf,List.find?_some (p:=fun d:Dd=>decide (d.site=s) && decide (d.no=n)) hf⟩
  cases hl:qfB l s n with
  |none=>
   unfold qfB at hl
   rw [List.find?_eq_none] at hl
   exact absurd hx2 (hl x (List.mem_reverse.2 hx1))
  |some y=>
   unfold qfB at hl
   obtain ⟨hy1,hy2⟩:y∈l∧(decide (y.site=s) && decide (y.no=n))=true:=⟨List.mem_reverse.1 (yp hl),List.find?_some (p:=fun d:Dd=>decide (d.site=s) && decide (d.no=n)) hl⟩
   simp only [Bool.and_eq_true,decide_eq_true_eq] at hx2 hy2
   rw [qsg h hy1 hx1 (qf9 (hy2.1.trans hx2.1.symm) (hy2.2.trans hx2.2.symm))]
set_option maxRecDepth 100000 in
set_option maxHeartbeats 4000000 in
theorem qqv (a b:List Dd) (ha:a.length≤100000) (hb:b.length≤100000) (hA:DdsB a) (hB:DdsB b) :
  PCall Tryz.prog ED 30 [.sl 12 (ddE a),.sl 12 (ddE b)] (·=.tup [.sl 12 (ddE (mgW a b).1),int (mgW a b).2]):=by
 unfold mgW
 refine qah mixed Tryz.func30 qjh ?_
 simp only [a0,l0,OS.ao,List.map_cons,List.map_nil,List.length_cons,List.length_nil,List.cons_append,List.nil_append,Nat.reduceSub,zd,List.replicate_succ,List.replicate_zero,qf2,qfN,ZZ,WW,Ze,reduceCtorEq,zd,ze,za,zf,zb]
 refine use1 (qdp a hA (by omega)) rfl (.inl rfl) ?_
 simp only [ZZ,WW,Ze,reduceCtorEq,zd,ze,za,zf,zb,qab]
 refine use1 (qbT (decide ((2000:Int) < b.length)) 2) rfl (.inl rfl) ?_
 simp only [ZZ,WW,Ze,reduceCtorEq,zd,ze,za,zf,zb]
 have hC:=qjv (E:=ED) [a,b] (by simp) (by simp [qgP];omega)
 have hq:[a,b].flatten=a++b:=by simp
 rw [hq] at hC
 have hql:(a++b).length≤200000:=by simp;omega
 have hQB:DdsB (a++b):=hA.app hB
 refine use1 (qgw [(ckdF a).2,qaK (decide ((2000:Int) < b.length)) 2] (by simp)) rfl (.inl rfl) ?_
 unfold mrgV
 generalize a++b=q at *
 generalize (ckdF a).2=e0 at *
 simp only [ZZ,WW,Ze,reduceCtorEq,zd,ze,za,zf,zb]
 refine br ?_ ?_
 ·intro h
  have h:¬ qaI [e0,qaK (decide ((2000:Int) < b.length)) 2]=0:=by simpa using h
  by_cases h0:e0=0
  ·subst h0
   by_cases h2:2000 < b.length
   ·have:qaI [0,qaK (decide ((2000:Int) < b.length)) 2]=2:=by
     rw [show decide ((2000:Int) < b.length)=true by simp;omega]
     rfl
    rw [this,if_neg (fun e=>e rfl),if_pos h2]
    simp only [ZZ,WW,Ze,reduceCtorEq,zd,ze,za,zf,zb]
    rfl
   ·exfalso
    apply h
    rw [show decide ((2000:Int) < b.length)=false by simp;omega]
    rfl
  ·have:qaI [e0,qaK (decide ((2000:Int) < b.length)) 2]=e0:=by unfold qaI;rw [if_neg h0]
   rw [this,if_pos h0]
   simp only [ZZ,WW,Ze,reduceCtorEq,zd,ze,za,zf,zb]
   rfl
 intro h
 have h:qaI [e0,qaK (decide ((2000:Int) < b.length)) 2]=0:=by simpa using h
 have h0:e0=0:=qf7 h
 subst h0
 have h2:¬ 2000 < b.length:=fun h2=>by
  rw [show decide ((2000:Int) < b.length)=true by simp;omega] at h
  exact absurd h (by decide)
 rw [if_neg (fun e=>e rfl),if_neg h2]
 clear h
 simp only [ZZ,WW,Ze,reduceCtorEq,zd,ze,za,zf,zb]
 refine useF hC rfl rfl ?_
 rintro es rfl
 have hqe:q.map ddC=ddE q:=rfl
 rw [hqe]
 simp only [ZZ,WW,Ze,reduceCtorEq,zd,ze,za,zf,zb,qab]
 refine qaf (fun n fr L=>∃ (k:Nat),k≤q.length∧n=q.length - k∧(∀ j,j < k→cnfI q j=false)∧fr=[oo,oo,oo,oo,oo,oo,oo,.mp (.l 25),.row (.l 8),oo,oo,oo,oo,oo,oo,oo,oo,oo,oo,oo,oo,oo,oo,oo,oo,oo,oo,oo,oo,.row (.l 29),.p (int (q.length:Nat)),.p (int (k:Nat)),oo,oo,oo,oo,oo,oo,oo,oo,oo,oo,oo,oo,oo,oo,oo,oo,oo,oo,oo,oo,oo,oo,oo,oo,oo,oo,oo,oo,oo,oo,oo,oo,oo,oo,oo]∧L=[(.l 25,.mapg (.fl [.s,.i]) (stM (mrgF (q.take k))) tSt tDd),(.l 8,.row (ddE (mrgF (q.take k))) tDd 12 true),(.l 29,.row (ddE q) tDd 12 true)]) (q.length) [oo,oo,oo,oo,oo,oo,oo,.mp (.l 25),.row (.l 8),oo,oo,oo,oo,oo,oo,oo,oo,oo,oo,oo,oo,oo,oo,oo,oo,oo,oo,oo,oo,.row (.l 29),.p (int (q.length:Nat)),.p (int (0:Nat)),oo,oo,oo,oo,oo,oo,oo,oo,oo,oo,oo,oo,oo,oo,oo,oo,oo,oo,oo,oo,oo,oo,oo,oo,oo,oo,oo,oo,oo,oo,oo,oo,oo,oo,oo] [(.l 25,.mapg (.fl [.s,.i]) (stM (mrgF (q.take 0))) tSt tDd),(.l 8,.row (ddE (mrgF (q.take 0))) tDd 12 true),(.l 29,.row (ddE q) tDd 12 true)] (by simp only [qab,List.take_zero,mrgF,List.foldl_nil,ZZ,WW,Ze,reduceCtorEq,zd,ze,za,zf,zb];try trivial) (by simp only [List.take_zero,mrgF,List.foldl_nil,qh3,stM,ZZ,WW,Ze,reduceCtorEq,zd,ze,za,zf,zb];try trivial) ⟨0,by omega,by omega,by omega,rfl,rfl⟩ ?_
 rintro n fr L ⟨k,hk,rfl,hno,rfl,rfl⟩
 simp only [qer,ZZ,WW,Ze,reduceCtorEq,zd,ze,za,zf,zb]
 have hml:(mrgF (q.take k)).length≤200000:=Nat.le_trans (qm1 _) (Nat.le_trans (List.length_take_le _ _) (by omega))
 refine br ?_ ?_
 ·intro h
  have hlt:k < q.length:=by have:=of_decide_eq_true h;omega
  obtain ⟨d,hd⟩:∃ d,q[k]?=some d:=⟨_,List.getElem?_eq_getElem hlt⟩
  have hg:=qaU hd
  have hn:=qnX hd
  have hci:cnfI q k=cnfX d (qbF (mrgF (q.take k)) d.site d.no):=by unfold cnfI;rw [hd]
  have hF:=qkq (mrgF (q.take k)) d.site d.no
  rw [qri (qmZ _)] at hF
  have hK:qby [.str d.site,int d.no]=stK d.site d.no:=rfl
  generalize mrgF (q.take k)=out at *
  cases hx:qbF out d.site d.no with
  |none=>
   rw [hx] at hF
   have hF:mpF (stM out) (stK d.site d.no)=none:=hF
   have hn:mrgF (q.take (k+1))=out++[d]:=by rw [hn,mrgS,hx];rfl
   have hci:cnfI q k=false:=by rw [hci,hx];rfl
   have hn2:ddE (mrgF (q.take (k+1)))=ddE out++[ddC d]:=by rw [hn,← qjb];rfl
   have hn3:stM (mrgF (q.take (k+1)))=mpS (stM out) (stK d.site d.no) (.agg (ddC d)):=by rw [hn,qkp]
   simp only [ZZ,WW,Ze,reduceCtorEq,zd,ze,za,zf,zb,hg,qab,ddC,hK,mpD,hF,Option.getD_none,Option.isSome_none,dd0,Bool.false_and]
   refine ⟨⟨by omega,by omega⟩,hlt,by omega,?_⟩
   refine qag zE_ ?_
   simp only [ZZ,WW,Ze,reduceCtorEq,zd,ze,za,zf,zb]
   refine ⟨qai (by omega) (by omega),?_⟩
   refine qae (q.length - (k+1)) [oo,oo,oo,oo,oo,oo,oo,.mp (.l 25),.row (.l 8),oo,oo,oo,oo,oo,oo,oo,oo,oo,oo,oo,oo,oo,oo,oo,oo,oo,oo,oo,oo,.row (.l 29),.p (int (q.length:Nat)),.p (int ((k+1):Nat)),oo,oo,oo,oo,oo,oo,oo,oo,oo,oo,oo,oo,oo,oo,oo,oo,oo,oo,oo,oo,oo,oo,oo,oo,oo,oo,oo,oo,oo,oo,oo,oo,oo,oo,oo] [(.l 25,.mapg (.fl [.s,.i]) (stM (mrgF (q.take (k+1)))) tSt tDd),(.l 8,.row (ddE (mrgF (q.take (k+1)))) tDd 12 true),(.l 29,.row (ddE q) tDd 12 true)] (by omega) (by (simp only [ZZ,WW,Ze,reduceCtorEq,zd,ze,za,zf,zb];try trivial)) (by rw [hn2,hn3];simp only [ZZ,WW,Ze,reduceCtorEq,zd,ze,za,zf,zb,ddC]) ⟨k+1,by omega,rfl,by intro j hj;rcases Nat.lt_or_ge j k with h'|h';exact hno j h';rw [show j=k by omega,hci],rfl,rfl⟩
  |some x=>
   rw [hx] at hF
   have hF:mpF (stM out) (stK d.site d.no)=some (.agg (ddC x)):=hF
   have hn:mrgF (q.take (k+1))=out:=by rw [hn,mrgS,hx];rfl
   simp only [ZZ,WW,Ze,reduceCtorEq,zd,ze,za,zf,zb,hg,qab,ddC,hK,mpD,hF,Option.getD_some,Option.isSome_some,Bool.true_and]
   rw [qst]
   refine ⟨⟨by omega,by omega⟩,hlt,?_⟩
   refine br ?_ ?_
   ·intro h2
    have hci:cnfI q k=true:=by rw [hci,hx];exact h2
    rw [if_pos (qp6 hlt hci)]
    simp only [ZZ,WW,Ze,reduceCtorEq,zd,ze,za,zf,zb]
    rfl
   intro h2
   have hci:cnfI q k=false:=by rw [hci,hx];exact h2
   simp only [ZZ,WW,Ze,reduceCtorEq,zd,ze,za,zf,zb]
   refine qag zE_ ?_
   simp only [ZZ,WW,Ze,reduceCtorEq,zd,ze,za,zf,zb]
   refine ⟨qai (by omega) (by omega),?_⟩
   refine qae (q.length - (k+1)) [oo,oo,oo,oo,oo,oo,oo,.mp (.l 25),.row (.l 8),oo,oo,oo,oo,oo,oo,oo,oo,oo,oo,oo,oo,oo,oo,oo,oo,oo,oo,oo,oo,.row (.l 29),.p (int (q.length:Nat)),.p (int ((k+1):Nat)),oo,oo,oo,oo,oo,oo,oo,oo,oo,oo,oo,oo,oo,oo,oo,oo,oo,oo,oo,oo,oo,oo,oo,oo,oo,oo,oo,oo,oo,oo,oo,oo,oo,oo,oo] [(.l 25,.mapg (.fl [.s,.i]) (stM (mrgF (q.take (k+1)))) tSt tDd),(.l 8,.row (ddE (mrgF (q.take (k+1)))) tDd 12 true),(.l 29,.row (ddE q) tDd 12 true)] (by omega) (by (simp only [ZZ,WW,Ze,reduceCtorEq,zd,ze,za,zf,zb];try trivial)) (by rw [hn];simp only [ZZ,WW,Ze,reduceCtorEq,zd,ze,za,zf,zb]) ⟨k+1,by omega,rfl,by intro j hj;rcases Nat.lt_or_ge j k with h'|h';exact hno j h';rw [show j=k by omega,hci],rfl,rfl⟩
 ·intro h
  have hge:q.length≤k:=by have:=of_decide_eq_false h;omega
  rw [List.take_of_length_le hge] at *
  have hmb:DdsB (mrgF q):=fun x hx=>hQB x (qm0 hx)
  simp only [ZZ,WW,Ze,reduceCtorEq,zd,ze,za,zf,zb]
  have hcn:cnfF q=false:=qsu fun j hj=>hno j (by omega)
  rw [if_neg (by rw [hcn];simp)]
  refine useR (qpE ED (mrgF q) (by omega) (qmZ q)) rfl rfl rfl zE_ ?_
  rintro z es' ⟨rfl,rfl⟩
  have hp:=qef (mrgF q)
  generalize srtD (mrgF q)=l' at *
  have hlb:DdsB l':=fun x hx=>hmb x (hp.mem_iff.1 hx)
  have hll:l'.length≤200000:=by rw [hp.length_eq];exact hml
  simp only [ZZ,WW,Ze,reduceCtorEq,zd,ze,za,zf,zb]
  refine use1 (qdp l' hlb (by omega)) rfl (.inr rfl) ?_
  simp only [ZZ,WW,Ze,reduceCtorEq,zd,ze,za,zf,zb]
  refine br ?_ ?_
  ·intro h
   have h:¬ (ckdF l').2=0:=by simpa using h
   rw [if_pos h]
   simp only [ZZ,WW,Ze,reduceCtorEq,zd,ze,za,zf,zb]
   rfl
  ·intro h
   have h:(ckdF l').2=0:=by simpa using h
   rw [if_neg (fun e=>e h)]
   simp only [ZZ,WW,Ze,reduceCtorEq,zd,ze,za,zf,zb]
end Go.Proofs.YtinffddgojhdfaaGreatDoor
namespace Go.Proofs.YtinffddgojhdfaaGreatDoor
open Nat renaming reduceAdd→zd,reduceEqDiff→zb,reduceLT→zf,reduceLeDiff→za,reduceMul→ze,reduceSub→zu
open List renaming cons_append→zp,getElem?_eq_getElem→zm,getElem?_eq_none→zZ,length_cons→zn,length_nil→zr,map_cons→zl,map_nil→zt,nil_append→zq,replicate_succ→zk,replicate_zero→zo
open Go.RowKit Go.Sort
def qd5:IC:=(.seq (.reg [qO 16 (.bin .lss (.t 15) (.t 14))]) (.seq (.cond (.t 16) .skip (.exit 0)) (.seq (.block 1 (.seq (.reg [qM 17 15,qO 18 (.ixa 12 (.t 13) (.t 15)),qO 19 (.ld 12 true (.t 18)),qO 7 (.alc 45 [.str [],.int .i64 0,.int .i64 0,.int .i64 0,.str [],.str [],.str [],.int .i64 0,.int .i64 0,.str [],.int .i64 0,.str []]),qM 6 17,⟨none,.st 12 (.t 7) (.t 19),none⟩]) (.seq (.drg [qM 20 6,qO 21 (.bin .add (.t 20) (.c (.int .i64 1))),qM 22 0,qO 23 (.len (.t 22)),qO 24 (.bin .eql (.t 21) (.t 23)),qM 25 24,⟨some 26,.mov (.t 0),(some (25,false))⟩,⟨some 27,.mov (.t 6),(some (25,false))⟩,⟨some 28,.bin .add (.t 27) (.c (.int .i64 1)),(some (25,false))⟩,⟨some 29,.ixa 12 (.t 26) (.t 28),(some (25,false))⟩,⟨some 30,.fla 0 (.t 29),(some (25,false))⟩,⟨some 31,.fla 0 (.t 30),(some (25,false))⟩,⟨some 32,.ld 1 false (.t 31),(some (25,false))⟩,⟨some 33,.fla 0 (.t 7),(some (25,false))⟩,⟨some 34,.fla 0 (.t 33),(some (25,false))⟩,⟨some 35,.ld 1 false (.t 34),(some (25,false))⟩,⟨some 36,.bin .neq (.t 32) (.t 35),(some (25,false))⟩,qO 37 (.pick (.t 25) (.c (.bool true)) (.t 36))]) (.cond (.t 37) (.reg [qM 38 5,qO 39 (.fla 0 (.t 7)),qO 40 (.ld 2 true (.t 39)),qO 41 (.bsl 2 [.t 40]),qO 42 (.app 43 2 24 (.t 38) (.t 41)),qM 5 42]) .skip)))) (.cut (.reg [qO 43 (.bin .add (.t 15) (.c (.int .i64 1))),qM 15 43])))))
def qft:IC:=(.seq (.reg [qO 2 (.mov (.c (.nl 2))),qO 3 (.mov (.c (.int .i64 0)))]) (.seq (.seq (.reg [qM 8 0,qO 9 (.call 59 [.t 8]),qM 4 9]) (.seq (.reg [qM 10 4,qO 11 (.bin .neq (.t 10) (.c (.int .i64 0)))]) (.cond (.t 11) (.seq (.reg [qM 12 4,qO 2 (.mov (.c (.nl 2))),qM 3 12]) .ret) .skip))) (.seq (.reg [qO 5 (.nilr 43 2)]) (.seq (.seq (.reg [qM 13 0,qO 14 (.len (.t 13)),qO 15 (.mov (.c (.int .i64 0)))]) (.block 0 (.loop qd5))) (.seq (.reg [qM 44 5,qM 2 44,qO 3 (.mov (.c (.int .i64 0)))]) .ret)))))
def qfm:List IRes:=[.t 2,.t 3]
theorem qiz:chkF Tryz.prog Tryz.f28 qft qfm 45=true:=by kernel_rfl
def qcw:IC:=(.seq (.reg [qO 9 (.bin .lss (.t 8) (.t 7))]) (.seq (.cond (.t 9) .skip (.exit 0)) (.seq (.block 1 (.seq (.reg [qM 10 8,qO 11 (.ixa 12 (.t 6) (.t 8)),qO 12 (.ld 12 true (.t 11)),qO 5 (.alc 45 [.str [],.int .i64 0,.int .i64 0,.int .i64 0,.str [],.str [],.str [],.int .i64 0,.int .i64 0,.str [],.int .i64 0,.str []]),qM 4 10,⟨none,.st 12 (.t 5) (.t 12),none⟩]) (.seq (.drg [qM 13 4,qO 14 (.bin .add (.t 13) (.c (.int .i64 1))),qM 15 0,qO 16 (.len (.t 15)),qO 17 (.bin .eql (.t 14) (.t 16)),qM 18 17,⟨some 19,.mov (.t 0),(some (18,false))⟩,⟨some 20,.mov (.t 4),(some (18,false))⟩,⟨some 21,.bin .add (.t 20) (.c (.int .i64 1)),(some (18,false))⟩,⟨some 22,.ixa 12 (.t 19) (.t 21),(some (18,false))⟩,⟨some 23,.fla 0 (.t 22),(some (18,false))⟩,⟨some 24,.fla 0 (.t 23),(some (18,false))⟩,⟨some 25,.ld 1 false (.t 24),(some (18,false))⟩,⟨some 26,.fla 0 (.t 5),(some (18,false))⟩,⟨some 27,.fla 0 (.t 26),(some (18,false))⟩,⟨some 28,.ld 1 false (.t 27),(some (18,false))⟩,⟨some 29,.bin .neq (.t 25) (.t 28),(some (18,false))⟩,qO 30 (.pick (.t 18) (.c (.bool true)) (.t 29))]) (.cond (.t 30) (.reg [qM 31 3,qO 32 (.fla 0 (.t 5)),qO 33 (.ld 2 true (.t 32)),qO 34 (.bsl 2 [.t 33]),qO 35 (.app 43 2 24 (.t 31) (.t 34)),qM 3 35]) .skip)))) (.cut (.reg [qO 36 (.bin .add (.t 8) (.c (.int .i64 1))),qM 8 36])))))
def qdu:IC:=(.seq (.reg [qO 2 (.mov (.c (.nl 2)))]) (.seq (.reg [qO 3 (.nilr 43 2)]) (.seq (.seq (.reg [qM 6 0,qO 7 (.len (.t 6)),qO 8 (.mov (.c (.int .i64 0)))]) (.block 0 (.loop qcw))) (.seq (.reg [qM 37 3,qM 2 37]) .ret))))
def qdm:List IRes:=[.t 2]
theorem qgd:chkF Tryz.prog Tryz.f34 qdu qdm 38=true:=by kernel_rfl
abbrev Stp:=List UInt8×Int
def spC (p:Stp):List PV:=[.str p.1,int p.2]
def spE (l:List Stp):List (List PV):=l.map spC
theorem qa3 (l:List Stp):(spE l).length=l.length:=by simp [spE]
theorem qgL {l:List Stp} {k:Nat} {d:Stp} (h:l[k]?=some d):(spE l).getD k []=spC d:=qbX h
theorem qkr (l m:List Stp):spE l++spE m=spE (l++m):=by simp [spE]
def vecB (l:List Dd) (k:Nat) (d:Dd):Bool:=decide ((k:Int)+1=l.length) || !decide (((l[k+1]?).getD dd0).site=d.site)
def vecK (l:List Dd):Nat→List Stp
 |0=>[]
 |k+1=>match l[k]? with
  |some d=>if vecB l k d=true then vecK l k++[(d.site,d.no)] else vecK l k
  |none=>vecK l k
def vecF (l:List Dd):List Stp:=vecK l l.length
theorem qlu {l:List Dd} {k:Nat} {d:Dd} (h:l[k]?=some d):vecK l (k+1)=if vecB l k d=true then vecK l k++[(d.site,d.no)] else vecK l k:=by
 conv=>lhs;unfold vecK
 rw [h]
theorem qg5 (l:List Dd):∀ k,(vecK l k).length≤k
 |0=>by simp [vecK]
 |k+1=>by
  have ih:=qg5 l k
  unfold vecK
  split
  ·split
   ·simp only [List.length_append,List.length_singleton];omega
   ·omega
  ·omega
section
variable {E:Envt}
set_option maxHeartbeats 4000000 in
theorem qjs (l:List Dd) (hl:l.length≤1000000000):PCall Tryz.prog E 34 [.sl 12 (ddE l)] (·=.sl 2 (spE (vecF l))):=by
 refine qah mixed Tryz.func34 qgd ?_
 simp only [a0,l0,OS.ao,zl,zt,zn,zr,zp,zq,zu,zd,zk,zo,qdu,qdm,ZZ,WW,Ze,reduceCtorEq,zd,ze,za,zf,zb]
 simp only [ZZ,WW,Ze,reduceCtorEq,zd,ze,za,zf,zb,qab]
 refine qaf (fun n fr L=>∃ (k:Nat),k≤l.length∧n=l.length - k∧fr=[.p (.sl 12 (ddE l)),oo,oo,.row (.l 3),oo,oo,.p (.sl 12 (ddE l)),.p (int (l.length:Nat)),.p (int (k:Nat)),oo,oo,oo,oo,oo,oo,oo,oo,oo,oo,oo,oo,oo,oo,oo,oo,oo,oo,oo,oo,oo,oo,oo,oo,oo,oo,oo,oo,oo]∧L=[(.l 3,.row (spE (vecK l k)) tSt 2 true)]) (l.length) [.p (.sl 12 (ddE l)),oo,oo,.row (.l 3),oo,oo,.p (.sl 12 (ddE l)),.p (int (l.length:Nat)),.p (int (0:Nat)),oo,oo,oo,oo,oo,oo,oo,oo,oo,oo,oo,oo,oo,oo,oo,oo,oo,oo,oo,oo,oo,oo,oo,oo,oo,oo,oo,oo,oo] [(.l 3,.row (spE (vecK l 0)) tSt 2 true)] (by simp only [qab,ZZ,WW,Ze,reduceCtorEq,zd,ze,za,zf,zb];try trivial) (by simp only [vecK,spE,zt,ZZ,WW,Ze,reduceCtorEq,zd,ze,za,zf,zb];try trivial) ⟨0,by omega,by omega,rfl,rfl⟩ ?_
 rintro n fr L ⟨k,hk,rfl,rfl,rfl⟩
 simp only [qcw,ZZ,WW,Ze,reduceCtorEq,zd,ze,za,zf,zb]
 refine br ?_ ?_
 ·intro h
  have hlt:k < l.length:=by have:=of_decide_eq_true h;omega
  obtain ⟨d,hd⟩:∃ d,l[k]?=some d:=⟨_,zm hlt⟩
  have hg:=qaU hd
  have hn:=qlu hd
  have hkl:=qg5 l k
  simp only [ZZ,WW,Ze,reduceCtorEq,zd,ze,za,zf,zb,hg,qab,ddC]
  refine ⟨⟨by omega,by omega⟩,hlt,?_⟩
  have hk1:((k:Int)+1).toNat=k+1:=by omega
  have hn1:spE (vecK l k)++[[.str d.site,int d.no]]=spE (vecK l k++[(d.site,d.no)]):=by rw [← qkr];rfl
  refine drg0 ?_
  by_cases he:k+1=l.length
  ·have hc:decide ((k:Int)+1=l.length)=true:=by simp;omega
   have hgd:(ddE l).getD (k+1) []=[]:=by simp [List.getD,ddE];rw [zZ (by omega)];rfl
   have hv:vecB l k d=true:=by unfold vecB;rw [hc,Bool.true_or]
   rw [if_pos hv] at hn
   simp only [ZZ,WW,Ze,reduceCtorEq,zd,ze,za,zf,zb,qab,hc,hk1,hgd,Bool.true_or,false_implies,true_and]
   refine ⟨qai (by omega) (by omega),by rw [qa3];omega,?_⟩
   refine qag zE_ ?_
   simp only [ZZ,WW,Ze,reduceCtorEq,zd,ze,za,zf,zb]
   refine ⟨qai (by omega) (by omega),?_⟩
   refine qae (l.length - (k+1)) [.p (.sl 12 (ddE l)),oo,oo,.row (.l 3),oo,oo,.p (.sl 12 (ddE l)),.p (int (l.length:Nat)),.p (int ((k+1):Nat)),oo,oo,oo,oo,oo,oo,oo,oo,oo,oo,oo,oo,oo,oo,oo,oo,oo,oo,oo,oo,oo,oo,oo,oo,oo,oo,oo,oo,oo] [(.l 3,.row (spE (vecK l (k+1))) tSt 2 true)] (by omega) (by (simp only [ZZ,WW,Ze,reduceCtorEq,zd,ze,za,zf,zb];try trivial)) (by rw [hn,← hn1];(simp only [ZZ,WW,Ze,reduceCtorEq,zd,ze,za,zf,zb];try trivial)) ⟨k+1,by omega,rfl,rfl,rfl⟩
  ·have hc:decide ((k:Int)+1=l.length)=false:=by simp;omega
   obtain ⟨d2,hd2⟩:∃ d,l[k+1]?=some d:=⟨_,zm (by omega)⟩
   have hg2:=qaU hd2
   have hv:vecB l k d=!decide (d2.site=d.site):=by unfold vecB;rw [hc,hd2];rfl
   rw [hv] at hn
   simp only [ZZ,WW,Ze,reduceCtorEq,zd,ze,za,zf,zb,qab,hc,hk1,hg2,ddC,Bool.false_or]
   refine ⟨qai (by omega) (by omega),qai (by omega) (by omega),⟨by omega,by omega⟩,by omega,?_⟩
   refine br ?_ ?_
   ·intro h2
    rw [if_pos h2] at hn
    simp only [ZZ,WW,Ze,reduceCtorEq,zd,ze,za,zf,zb]
    refine ⟨by rw [qa3];omega,?_⟩
    refine qag zE_ ?_
    simp only [ZZ,WW,Ze,reduceCtorEq,zd,ze,za,zf,zb]
    refine ⟨qai (by omega) (by omega),?_⟩
    refine qae (l.length - (k+1)) [.p (.sl 12 (ddE l)),oo,oo,.row (.l 3),oo,oo,.p (.sl 12 (ddE l)),.p (int (l.length:Nat)),.p (int ((k+1):Nat)),oo,oo,oo,oo,oo,oo,oo,oo,oo,oo,oo,oo,oo,oo,oo,oo,oo,oo,oo,oo,oo,oo,oo,oo,oo,oo,oo,oo,oo] [(.l 3,.row (spE (vecK l (k+1))) tSt 2 true)] (by omega) (by (simp only [ZZ,WW,Ze,reduceCtorEq,zd,ze,za,zf,zb];try trivial)) (by rw [hn,← hn1];(simp only [ZZ,WW,Ze,reduceCtorEq,zd,ze,za,zf,zb];try trivial)) ⟨k+1,by omega,rfl,rfl,rfl⟩
   ·intro h2
    rw [if_neg (by rw [h2];simp)] at hn
    simp only [ZZ,WW,Ze,reduceCtorEq,zd,ze,za,zf,zb]
    refine qag zE_ ?_
    simp only [ZZ,WW,Ze,reduceCtorEq,zd,ze,za,zf,zb]
    refine ⟨qai (by omega) (by omega),?_⟩
    refine qae (l.length - (k+1)) [.p (.sl 12 (ddE l)),oo,oo,.row (.l 3),oo,oo,.p (.sl 12 (ddE l)),.p (int (l.length:Nat)),.p (int ((k+1):Nat)),oo,oo,oo,oo,oo,oo,oo,oo,oo,oo,oo,oo,oo,oo,oo,oo,oo,oo,oo,oo,oo,oo,oo,oo,oo,oo,oo,oo,oo] [(.l 3,.row (spE (vecK l (k+1))) tSt 2 true)] (by omega) (by (simp only [ZZ,WW,Ze,reduceCtorEq,zd,ze,za,zf,zb];try trivial)) (by rw [hn];(simp only [ZZ,WW,Ze,reduceCtorEq,zd,ze,za,zf,zb];try trivial)) ⟨k+1,by omega,rfl,rfl,rfl⟩
 ·intro h
  have hge:l.length≤k:=by have:=of_decide_eq_false h;omega
  have hkk:k=l.length:=by omega
  subst hkk
  simp only [ZZ,WW,Ze,reduceCtorEq,zd,ze,za,zf,zb]
  rfl
end
def vecW (l:List Dd):List Stp×Int:=if ¬ (ckdF l).2=0 then ([],(ckdF l).2) else (vecF l,0)
set_option maxHeartbeats 4000000 in
theorem qoT (l:List Dd) (hB:DdsB l) (hl:l.length≤1000000000):PCall Tryz.prog ED 28 [.sl 12 (ddE l)] (·=.tup [.sl 2 (spE (vecW l).1),int (vecW l).2]):=by
 unfold vecW
 refine qah mixed Tryz.func28 qiz ?_
 simp only [a0,l0,OS.ao,zl,zt,zn,zr,zp,zq,zu,zd,zk,zo,qft,qfm,ZZ,WW,Ze,reduceCtorEq,zd,ze,za,zf,zb]
 refine use1 (qdp l hB hl) rfl (.inl rfl) ?_
 simp only [ZZ,WW,Ze,reduceCtorEq,zd,ze,za,zf,zb]
 refine br ?_ ?_
 ·intro h
  have h:¬ (ckdF l).2=0:=by simpa using h
  rw [if_pos h]
  simp only [ZZ,WW,Ze,reduceCtorEq,zd,ze,za,zf,zb]
  rfl
 intro h
 have h:(ckdF l).2=0:=by simpa using h
 rw [if_neg (fun e=>e h)]
 clear h
 simp only [ZZ,WW,Ze,reduceCtorEq,zd,ze,za,zf,zb,qab]
 refine qaf (fun n fr L=>∃ (k:Nat),k≤l.length∧n=l.length - k∧fr=[.p (.sl 12 (ddE l)),oo,oo,oo,oo,.row (.l 5),oo,oo,oo,oo,oo,oo,oo,.p (.sl 12 (ddE l)),.p (int (l.length:Nat)),.p (int (k:Nat)),oo,oo,oo,oo,oo,oo,oo,oo,oo,oo,oo,oo,oo,oo,oo,oo,oo,oo,oo,oo,oo,oo,oo,oo,oo,oo,oo,oo,oo]∧L=[(.l 5,.row (spE (vecK l k)) tSt 2 true)]) (l.length) [.p (.sl 12 (ddE l)),oo,oo,oo,oo,.row (.l 5),oo,oo,oo,oo,oo,oo,oo,.p (.sl 12 (ddE l)),.p (int (l.length:Nat)),.p (int (0:Nat)),oo,oo,oo,oo,oo,oo,oo,oo,oo,oo,oo,oo,oo,oo,oo,oo,oo,oo,oo,oo,oo,oo,oo,oo,oo,oo,oo,oo,oo] [(.l 5,.row (spE (vecK l 0)) tSt 2 true)] (by simp only [qab,ZZ,WW,Ze,reduceCtorEq,zd,ze,za,zf,zb];try trivial) (by simp only [vecK,spE,zt,ZZ,WW,Ze,reduceCtorEq,zd,ze,za,zf,zb];try trivial) ⟨0,by omega,by omega,rfl,rfl⟩ ?_
 rintro n fr L ⟨k,hk,rfl,rfl,rfl⟩
 simp only [qd5,ZZ,WW,Ze,reduceCtorEq,zd,ze,za,zf,zb]
 refine br ?_ ?_
 ·intro h
  have hlt:k < l.length:=by have:=of_decide_eq_true h;omega
  obtain ⟨d,hd⟩:∃ d,l[k]?=some d:=⟨_,zm hlt⟩
  have hg:=qaU hd
  have hn:=qlu hd
  have hkl:=qg5 l k
  simp only [ZZ,WW,Ze,reduceCtorEq,zd,ze,za,zf,zb,hg,qab,ddC]
  refine ⟨⟨by omega,by omega⟩,hlt,?_⟩
  have hk1:((k:Int)+1).toNat=k+1:=by omega
  have hn1:spE (vecK l k)++[[.str d.site,int d.no]]=spE (vecK l k++[(d.site,d.no)]):=by rw [← qkr];rfl
  refine drg0 ?_
  by_cases he:k+1=l.length
  ·have hc:decide ((k:Int)+1=l.length)=true:=by simp;omega
   have hgd:(ddE l).getD (k+1) []=[]:=by simp [List.getD,ddE];rw [zZ (by omega)];rfl
   have hv:vecB l k d=true:=by unfold vecB;rw [hc,Bool.true_or]
   rw [if_pos hv] at hn
   simp only [ZZ,WW,Ze,reduceCtorEq,zd,ze,za,zf,zb,qab,hc,hk1,hgd,Bool.true_or,false_implies,true_and]
   refine ⟨qai (by omega) (by omega),by rw [qa3];omega,?_⟩
   refine qag zE_ ?_
   simp only [ZZ,WW,Ze,reduceCtorEq,zd,ze,za,zf,zb]
   refine ⟨qai (by omega) (by omega),?_⟩
   refine qae (l.length - (k+1)) [.p (.sl 12 (ddE l)),oo,oo,oo,oo,.row (.l 5),oo,oo,oo,oo,oo,oo,oo,.p (.sl 12 (ddE l)),.p (int (l.length:Nat)),.p (int ((k+1):Nat)),oo,oo,oo,oo,oo,oo,oo,oo,oo,oo,oo,oo,oo,oo,oo,oo,oo,oo,oo,oo,oo,oo,oo,oo,oo,oo,oo,oo,oo] [(.l 5,.row (spE (vecK l (k+1))) tSt 2 true)] (by omega) (by (simp only [ZZ,WW,Ze,reduceCtorEq,zd,ze,za,zf,zb];try trivial)) (by rw [hn,← hn1];(simp only [ZZ,WW,Ze,reduceCtorEq,zd,ze,za,zf,zb];try trivial)) ⟨k+1,by omega,rfl,rfl,rfl⟩
  ·have hc:decide ((k:Int)+1=l.length)=false:=by simp;omega
   obtain ⟨d2,hd2⟩:∃ d,l[k+1]?=some d:=⟨_,zm (by omega)⟩
   have hg2:=qaU hd2
   have hv:vecB l k d=!decide (d2.site=d.site):=by unfold vecB;rw [hc,hd2];rfl
   rw [hv] at hn
   simp only [ZZ,WW,Ze,reduceCtorEq,zd,ze,za,zf,zb,qab,hc,hk1,hg2,ddC,Bool.false_or]
   refine ⟨qai (by omega) (by omega),qai (by omega) (by omega),⟨by omega,by omega⟩,by omega,?_⟩
   refine br ?_ ?_
   ·intro h2
    rw [if_pos h2] at hn
    simp only [ZZ,WW,Ze,reduceCtorEq,zd,ze,za,zf,zb]
    refine ⟨by rw [qa3];omega,?_⟩
    refine qag zE_ ?_
    simp only [ZZ,WW,Ze,reduceCtorEq,zd,ze,za,zf,zb]
    refine ⟨qai (by omega) (by omega),?_⟩
    refine qae (l.length - (k+1)) [.p (.sl 12 (ddE l)),oo,oo,oo,oo,.row (.l 5),oo,oo,oo,oo,oo,oo,oo,.p (.sl 12 (ddE l)),.p (int (l.length:Nat)),.p (int ((k+1):Nat)),oo,oo,oo,oo,oo,oo,oo,oo,oo,oo,oo,oo,oo,oo,oo,oo,oo,oo,oo,oo,oo,oo,oo,oo,oo,oo,oo,oo,oo] [(.l 5,.row (spE (vecK l (k+1))) tSt 2 true)] (by omega) (by (simp only [ZZ,WW,Ze,reduceCtorEq,zd,ze,za,zf,zb];try trivial)) (by rw [hn,← hn1];(simp only [ZZ,WW,Ze,reduceCtorEq,zd,ze,za,zf,zb];try trivial)) ⟨k+1,by omega,rfl,rfl,rfl⟩
   ·intro h2
    rw [if_neg (by rw [h2];simp)] at hn
    simp only [ZZ,WW,Ze,reduceCtorEq,zd,ze,za,zf,zb]
    refine qag zE_ ?_
    simp only [ZZ,WW,Ze,reduceCtorEq,zd,ze,za,zf,zb]
    refine ⟨qai (by omega) (by omega),?_⟩
    refine qae (l.length - (k+1)) [.p (.sl 12 (ddE l)),oo,oo,oo,oo,.row (.l 5),oo,oo,oo,oo,oo,oo,oo,.p (.sl 12 (ddE l)),.p (int (l.length:Nat)),.p (int ((k+1):Nat)),oo,oo,oo,oo,oo,oo,oo,oo,oo,oo,oo,oo,oo,oo,oo,oo,oo,oo,oo,oo,oo,oo,oo,oo,oo,oo,oo,oo,oo] [(.l 5,.row (spE (vecK l (k+1))) tSt 2 true)] (by omega) (by (simp only [ZZ,WW,Ze,reduceCtorEq,zd,ze,za,zf,zb];try trivial)) (by rw [hn];(simp only [ZZ,WW,Ze,reduceCtorEq,zd,ze,za,zf,zb];try trivial)) ⟨k+1,by omega,rfl,rfl,rfl⟩
 ·intro h
  have hge:l.length≤k:=by have:=of_decide_eq_false h;omega
  have hkk:k=l.length:=by omega
  subst hkk
  simp only [ZZ,WW,Ze,reduceCtorEq,zd,ze,za,zf,zb]
  rfl
end Go.Proofs.YtinffddgojhdfaaGreatDoor
