import Derived.Test.YtjgdjinhkgjpeaaGreatDoorZ12
import Derived.Test.YtjgdjinhkgjpeaaGreatDoorZ6
import Derived.Test.YtjgdjinhkgjpeaaGreatDoorZ5
import Derived.Test.YtjgdjinhkgjpeaaGreatDoorZ8
import Derived.Test.YtjgdjinhkgjpeaaGreatDoorLayItoa
import Derived.Test.YtjgdjinhkgjpeaaGreatDoorLayAtoi
import Derived.Test.YtjgdjinhkgjpeaaGreatDoorZ7
import Derived.Lib.AtoiErrMem
import Derived.Shelf.Strconv.Atoi
import Derived.Test.YtjgdjinhkgjpeaaGreatDoorLayFields
import Derived.Shelf.Strconv.AtoiAll
import Derived.Shelf.Strconv.ErrVarAll
import Derived.Shelf.Strings.SplitShaped
import Derived.Lib.AtoiAllCases
import Derived.Lib.AtoiTie
import Derived.Lib.ItoaLen
set_option linter.unusedVariables false
set_option linter.unusedSimpArgs false
set_option linter.defProp false
namespace Go.Proofs.YtjgdjinhkgjpeaaGreatDoor
open Nat renaming reduceAdd→zd,reduceEqDiff→zb,reduceLT→zf,reduceLeDiff→za,reduceMul→ze,reduceSub→zu
open List renaming cons_append→zo,drop_eq_nil_of_le→yz,getElem?_eq_getElem→zr,length_cons→zk,length_nil→zp,map_cons→zl,map_nil→zt,mem_cons→zI,mem_of_getElem?→zD,mem_or_eq_of_mem_set→yc,nil_append→zq,not_mem_nil→zU,replicate_succ→zj,replicate_zero→zm
open Bool renaming and_eq_true→zh
open Go.RowKit
def qaY:IC:=(.seq (.reg [qO 141 (.bin .lss (.t 140) (.t 139))]) (.seq (.cond (.t 141) .skip (.exit 1)) (.seq (.block 2 (.seq (.reg [qM 142 140,qO 143 (.ixa 12 (.t 138) (.t 140)),qO 144 (.ld 12 true (.t 143)),qO 10 (.alc 44 [.str [],.int .i64 0,.int .i64 0,.int .i64 0,.str [],.str [],.str [],.int .i64 0,.int .i64 0,.str [],.int .i64 0,.str []]),qM 9 142,⟨none,.st 12 (.t 10) (.t 144),none⟩]) (.seq (.reg [qM 145 5,qM 146 9,qM 147 8,qO 148 (.fla 0 (.t 10)),qO 149 (.fla 0 (.t 148)),qO 150 (.ld 1 false (.t 149)),qO 151 (.mpl false (.str []) (.t 147) (.t 150)),qO 152 (.ld 12 true (.t 10)),qO 153 (.call 27 [.t 151,.t 152]),qO 154 (.ixa 12 (.t 145) (.t 146)),qO 155 (.fla 11 (.t 154)),⟨none,.st 1 (.t 155) (.t 153),none⟩]) (.drg [qM 156 8,qO 157 (.fla 0 (.t 10)),qO 158 (.fla 0 (.t 157)),qO 159 (.ldn 137 1 false (.t 158)),qM 160 5,qM 161 9,qO 162 (.ixa 12 (.t 160) (.t 161)),qO 163 (.fla 11 (.t 162)),qO 164 (.ldn 137 1 false (.t 163)),⟨none,.mpk 137 (.t 156) (.t 159) (.t 164),none⟩])))) (.reg [qO 165 (.bin .add (.t 140) (.c (.int .i64 1))),qM 140 165]))))
def qbv:IC:=(.seq (.reg [qO 4 (.mov (.c (.nl 12)))]) (.seq (.reg [qM 11 1,qO 12 (.call 47 [.t 11]),qM 5 12]) (.seq (.seq (.reg [qM 13 5,qO 14 (.len (.t 13)),qO 15 (.bin .eql (.t 14) (.c (.int .i64 0)))]) (.cond (.t 15) (.seq (.reg [qM 16 5,qM 17 0,qO 18 (.bsl 1 [.c (.str [97]),.c (.str [65])]),qO 19 (.call 34 [.t 17,.t 18]),qM 20 0,qO 21 (.call 48 [.t 20,.c (.int .i64 0),.c (.int .i64 2)]),⟨none,.fz (.t 19),none⟩,⟨none,.fz (.t 21),none⟩,qO 22 (.bld [.str [],.int .i64 0] [(0,1,.t 19),(1,1,.t 21)]),qO 23 (.bld [.str [],.int .i64 0,.int .i64 0,.int .i64 0,.str [],.str [],.str [],.int .i64 0,.int .i64 0,.str [],.int .i64 0,.str []] [(0,2,.t 22),(3,1,.c (.int .i64 2)),(4,1,.c (.str [105,97])),(6,1,.c (.str [104,111,116]))]),qO 24 (.bsl 12 [.t 23]),qO 25 (.app 44 12 144 (.t 16) (.t 24)),qM 4 25]) .ret) .skip)) (.seq (.reg [qM 26 0,qM 27 5,qO 28 (.len (.t 27)),qO 29 (.call 46 [.t 26,.t 28]),qM 6 29]) (.seq (.reg [qM 30 5,qM 31 6,qO 32 (.ixa 12 (.t 30) (.t 31)),qM 7 32]) (.seq (.seq (.reg [qM 33 0,qO 34 (.call 46 [.t 33,.c (.int .i64 11)])]) (.block 0 (.seq (.reg [qO 41 (.bin .eql (.t 34) (.c (.int .i64 0))),qM 40 41]) (.cond (.t 40) (.reg [qM 42 7,qM 43 0,qO 44 (.bsl 1 [.c (.str []),.c (.str [97]),.c (.str [122]),.c (.str [65])]),qO 45 (.call 34 [.t 43,.t 44]),qO 46 (.nck (.t 42)),qO 47 (.fla 0 (.t 46)),qO 48 (.fla 0 (.t 47)),⟨none,.st 1 (.t 48) (.t 45),none⟩]) (.seq (.reg [qO 50 (.bin .eql (.t 34) (.c (.int .i64 1))),qM 49 50]) (.cond (.t 49) (.drg [qM 51 7,qO 52 (.nck (.t 51)),qO 53 (.fla 0 (.t 52)),qO 54 (.fla 1 (.t 53)),qO 55 (.ldl 1 false (.t 54)),qM 56 0,qO 57 (.dcall true 48 [.t 56,.c (.int .i64 (-1)),.c (.int .i64 1)]),qO 58 (.bin .add (.t 55) (.t 57)),qO 59 (.nck (.t 51)),qO 60 (.fla 0 (.t 59)),qO 61 (.fla 1 (.t 60)),⟨none,.st 1 (.t 61) (.t 58),none⟩]) (.seq (.reg [qO 63 (.bin .eql (.t 34) (.c (.int .i64 2))),qM 62 63]) (.cond (.t 62) (.reg [qM 64 7,qM 65 0,qM 66 7,qO 67 (.nck (.t 66)),qO 68 (.fla 2 (.t 67)),qO 69 (.ld 1 false (.t 68)),qO 70 (.bin .add (.t 69) (.c (.int .i64 1))),qO 71 (.bsl 1 [.c (.int .i64 (-1)),.c (.int .i64 5761440),.t 70]),qO 72 (.call 49 [.t 65,.t 71]),qO 73 (.nck (.t 64)),qO 74 (.fla 2 (.t 73)),⟨none,.st 1 (.t 74) (.t 72),none⟩]) (.seq (.reg [qO 76 (.bin .eql (.t 34) (.c (.int .i64 3))),qM 75 76]) (.cond (.t 75) (.reg [qM 77 7,qM 78 0,qO 79 (.call 48 [.t 78,.c (.int .i64 0),.c (.int .i64 7)]),qO 80 (.nck (.t 77)),qO 81 (.fla 3 (.t 80)),⟨none,.st 1 (.t 81) (.t 79),none⟩]) (.seq (.reg [qO 83 (.bin .eql (.t 34) (.c (.int .i64 4))),qM 82 83]) (.cond (.t 82) (.reg [qM 84 7,qM 85 0,qO 86 (.bsl 1 [.c (.str []),.c (.str [105,98]),.c (.str [73])]),qO 87 (.call 34 [.t 85,.t 86]),qO 88 (.nck (.t 84)),qO 89 (.fla 4 (.t 88)),⟨none,.st 1 (.t 89) (.t 87),none⟩]) (.seq (.reg [qO 91 (.bin .eql (.t 34) (.c (.int .i64 5))),qM 90 91]) (.cond (.t 90) (.reg [qM 92 7,qM 93 0,qO 94 (.bsl 1 [.c (.str []),.c (.str [119,97,110,116]),.c (.str [70])]),qO 95 (.call 34 [.t 93,.t 94]),qO 96 (.nck (.t 92)),qO 97 (.fla 5 (.t 96)),⟨none,.st 1 (.t 97) (.t 95),none⟩]) (.seq (.reg [qO 99 (.bin .eql (.t 34) (.c (.int .i64 6))),qM 98 99]) (.cond (.t 98) (.reg [qM 100 7,qM 101 0,qO 102 (.bsl 1 [.c (.str []),.c (.str [121,101,115]),.c (.str [32,120])]),qO 103 (.call 34 [.t 101,.t 102]),qO 104 (.nck (.t 100)),qO 105 (.fla 6 (.t 104)),⟨none,.st 1 (.t 105) (.t 103),none⟩]) (.seq (.reg [qO 107 (.bin .eql (.t 34) (.c (.int .i64 7))),qM 106 107]) (.cond (.t 106) (.reg [qM 108 7,qM 109 0,qO 110 (.call 46 [.t 109,.c (.int .i64 3)]),qM 111 0,qO 112 (.call 46 [.t 111,.c (.int .i64 9)]),⟨none,.fz (.t 110),none⟩,⟨none,.fz (.t 112),none⟩,qO 113 (.bld [.int .i64 0,.int .i64 0] [(0,1,.t 110),(1,1,.t 112)]),qO 114 (.nck (.t 108)),qO 115 (.fla 7 (.t 114)),⟨none,.st 2 (.t 115) (.t 113),none⟩]) (.seq (.reg [qO 117 (.bin .eql (.t 34) (.c (.int .i64 8))),qM 116 117]) (.cond (.t 116) (.reg [qM 118 7,qM 119 0,qO 120 (.bsl 1 [.c (.str []),.c (.str [97]),.c (.str [98])]),qO 121 (.call 34 [.t 119,.t 120]),qM 122 0,qO 123 (.call 46 [.t 122,.c (.int .i64 4)]),⟨none,.fz (.t 121),none⟩,⟨none,.fz (.t 123),none⟩,qO 124 (.bld [.str [],.int .i64 0] [(0,1,.t 121),(1,1,.t 123)]),qO 125 (.nck (.t 118)),qO 126 (.fla 9 (.t 125)),⟨none,.st 2 (.t 126) (.t 124),none⟩]) (.seq (.reg [qO 128 (.bin .eql (.t 34) (.c (.int .i64 9))),qM 127 128]) (.cond (.t 127) (.reg [qM 129 7,qM 130 0,qO 131 (.bsl 1 [.c (.str []),.c (.str [48,49,50,51,52,53,54,55,56,57,97,98,99,100,101,102])]),qO 132 (.call 34 [.t 130,.t 131]),qO 133 (.nck (.t 129)),qO 134 (.fla 11 (.t 133)),⟨none,.st 1 (.t 134) (.t 132),none⟩]) (.reg [qM 35 5,qM 36 6,qM 37 6,qO 38 (.bin .add (.t 37) (.c (.int .i64 1))),qO 39 (.call 50 [.t 35,.t 36,.t 38]),qM 5 39]))))))))))))))))))))))) (.cut (.seq (.seq (.reg [qM 135 0,qO 136 (.call 14 [.t 135,.c (.int .i64 2)])]) (.cond (.t 136) (.seq (.reg [qO 137 (.mkm 9 9),qM 8 137]) (.seq (.reg [qM 138 5,qO 139 (.len (.t 138)),qO 140 (.mov (.c (.int .i64 0)))]) (.block 1 (.loop qaY)))) .skip)) (.cut (.seq (.reg [qM 166 5,qM 4 166]) .ret))))))))))
def qbp:List IRes:=[.t 4]
theorem qdj:chkF Tryz.prog Tryz.f15 qbv qbp 167=true:=by kernel_rfl
theorem qeQ (o:List Dd) (j:Nat) (d:Dd):(ddE o).set j (ddC d)=ddE (o.set j d):=by simp [ddE]
theorem qwq (o:List Dd) (j:Nat):(ddE o).take j++(ddE o).drop (j+1)=ddE (o.take j++o.drop (j+1)):=by simp [ddE,List.map_take,List.map_drop]
theorem spB {q:List Dd} (h:DdsB q) {i:Nat} {d:Dd} (hd:DdB d):DdsB (q.set i d):=fun x hx=>by
 rcases yc hx with hx|rfl
 ·exact h x hx
 ·exact hd
theorem spK {kv:List (List UInt8×PV)} (h:∀ s:List UInt8,∃ b:List UInt8,mpD kv s (.str [])=.str b∧b.length≤200000) {k v:List UInt8} (hv:v.length≤200000) (s:List UInt8):∃ b:List UInt8,mpD (mpS kv k (.str v)) s (.str [])=.str b∧b.length≤200000:=by
 unfold mpD
 rw [qoF]
 by_cases e:k=s
 ·rw [if_pos (by first|exact e|exact e.symm)]
  exact ⟨v,rfl,hv⟩
 ·rw [if_neg (by first|exact e|exact fun h=>e h.symm)]
  exact h s
def SpN (l:List Int) (k:Nat) (fr:List AV) (L:Objs):Prop:=∃ (q:List Dd) (k2:Nat),DdsB q∧q.length≤2001∧k2≤k+10∧fr=[.adr (.b 0) 0,oo,oo,oo,oo,.row (.l 12),oo,oo,oo,oo,oo,oo,oo,oo,oo,oo,oo,oo,oo,oo,oo,oo,oo,oo,oo,oo,oo,oo,oo,oo,oo,oo,oo,oo,oo,oo,oo,oo,oo,oo,oo,oo,oo,oo,oo,oo,oo,oo,oo,oo,oo,oo,oo,oo,oo,oo,oo,oo,oo,oo,oo,oo,oo,oo,oo,oo,oo,oo,oo,oo,oo,oo,oo,oo,oo,oo,oo,oo,oo,oo,oo,oo,oo,oo,oo,oo,oo,oo,oo,oo,oo,oo,oo,oo,oo,oo,oo,oo,oo,oo,oo,oo,oo,oo,oo,oo,oo,oo,oo,oo,oo,oo,oo,oo,oo,oo,oo,oo,oo,oo,oo,oo,oo,oo,oo,oo,oo,oo,oo,oo,oo,oo,oo,oo,oo,oo,oo,oo,oo,oo,oo,oo,oo,oo,oo,oo,oo,oo,oo,oo,oo,oo,oo,oo,oo,oo,oo,oo,oo,oo,oo,oo,oo,oo,oo,oo,oo]∧L=[(.b 0,.box ((stm l k2).map .p) T),(.l 12,.row (ddE q) tDd 12 true)]
def SpM (l:List Int) (k:Nat) (fr:List AV) (L:Objs):Prop:=∃ (q:List Dd) (k2:Nat),DdsB q∧q.length≤2001∧k2≤k+5∧fr=[.adr (.b 0) 0,oo,oo,oo,oo,.row (.l 12),oo,oo,oo,oo,oo,oo,oo,oo,oo,oo,oo,oo,oo,oo,oo,oo,oo,oo,oo,oo,oo,oo,oo,oo,oo,oo,oo,oo,oo,oo,oo,oo,oo,oo,oo,oo,oo,oo,oo,oo,oo,oo,oo,oo,oo,oo,oo,oo,oo,oo,oo,oo,oo,oo,oo,oo,oo,oo,oo,oo,oo,oo,oo,oo,oo,oo,oo,oo,oo,oo,oo,oo,oo,oo,oo,oo,oo,oo,oo,oo,oo,oo,oo,oo,oo,oo,oo,oo,oo,oo,oo,oo,oo,oo,oo,oo,oo,oo,oo,oo,oo,oo,oo,oo,oo,oo,oo,oo,oo,oo,oo,oo,oo,oo,oo,oo,oo,oo,oo,oo,oo,oo,oo,oo,oo,oo,oo,oo,oo,oo,oo,oo,oo,oo,oo,oo,oo,oo,oo,oo,oo,oo,oo,oo,oo,oo,oo,oo,oo,oo,oo,oo,oo,oo,oo,oo,oo,oo,oo,oo,oo]∧L=[(.b 0,.box ((stm l k2).map .p) T),(.l 12,.row (ddE q) tDd 12 true)]
set_option maxRecDepth 100000 in
set_option maxHeartbeats 4000000 in
theorem qkK (l:List Int) (k:Nat) (o:List Dd) (hk:k≤900000) (hl:l.length≤9223372036854775807) (hR:RD 100 o) :
  qdl Tryz.prog ED 15 T (stm l k) [.sl 12 (ddE o)] (fun x cs'=>∃ (o':List Dd) (k':Nat),x=.sl 12 (ddE o')∧DdsB o'∧o'.length≤2001∧cs'=stm l k'∧k'≤k+10):=by
 have hol:=hR.len
 unfold qdl
 refine qgl mixed Tryz.func15 qdj ?_
 simp only [a0,l0,OS.ao,zl,zt,zk,zp,zo,zq,zu,zd,zj,zm,qbv,qbp,ZZ,WW,Ze,reduceCtorEq,zd,ze,za,zf,zb]
 refine useF (qjj (ddE o) (by rw [qac];omega)) rfl rfl ?_
 rintro es rfl
 simp only [ZZ,WW,Ze,reduceCtorEq,zd,ze,za,zf,zb,qac]
 refine br ?_ ?_
 ·intro h0
  have h0:o=[]:=by have:=of_decide_eq_true h0;exact List.eq_nil_of_length_eq_zero (by omega)
  subst h0
  simp only [ZZ,WW,Ze,reduceCtorEq,zd,ze,za,zf,zb,qoV]
  refine useS (qee l k [[97],[65]] (by omega) hl (by simp) (by simp)) rfl rfl rfl zE_ ?_
  rintro x cs' ⟨u,rfl,hu,rfl⟩
  have hu:u.length≤200000:=by simp only [zI,zU,or_false] at hu;rcases hu with rfl|rfl<;>decide
  simp only [ZZ,WW,Ze,reduceCtorEq,zd,ze,za,zf,zb]
  refine useS (qj1 l (k+1) 0 2 (by omega) hl (by decide) (by decide) (by decide)) rfl rfl rfl zE_ ?_
  rintro x cs' ⟨v,rfl,hv1,hv2,rfl⟩
  simp only [ZZ,WW,Ze,reduceCtorEq,zd,ze,za,zf,zb,qoV]
  exact qfU (stm l (k+1+1)) rfl ⟨[⟨u,v,0,2,[105,97],[],[104,111,116],0,0,[],0,[]⟩],_,rfl,(fun x hx=>by rw [List.mem_singleton] at hx;subst hx;exact ⟨hu,by simp,by simp,by simp,by simp,by simp,⟨by dsimp only;omega,by dsimp only;omega⟩,by simp,by simp,by simp,by simp,by simp⟩),by simp,rfl,by omega⟩
 intro h0
 have h0:0 < o.length:=by have:=of_decide_eq_false h0;omega
 simp only [ZZ,WW,Ze,reduceCtorEq,zd,ze,za,zf,zb,qac]
 refine useS (qb4 l k (o.length:Nat) (by omega) hl (by omega)) rfl rfl rfl zE_ ?_
 rintro x cs' ⟨y1,rfl,rfl⟩
 obtain ⟨j,hj,hy1⟩:=qdW y1 o.length (by omega)
 rw [hy1]
 obtain ⟨d,hd⟩:∃ d,o[j]?=some d:=⟨_,zr hj⟩
 have hg:=qbC hd
 have dB:=hR.b.get hd
 have dt:=hR.t d (zD hd)
 have dn:=hR.n d (zD hd)
 have hdel:DdsB (o.take j++o.drop (j+1)):=fun x hx=>hR.b x ((List.mem_append.1 hx).elim List.mem_of_mem_take List.mem_of_mem_drop)
 have hset:∀ d':Dd,DdB d'→DdsB (o.set j d'):=fun d' h' x hx=>by
  rcases yc hx with hx|rfl
  ·exact hR.b x hx
  ·exact h'
 simp only [ZZ,WW,Ze,reduceCtorEq,zd,ze,za,zf,zb,hg,qac]
 refine ⟨⟨by omega,by omega⟩,?_⟩
 refine useS (qb4 l (k+1) 11 (by omega) hl (by decide)) rfl rfl rfl zE_ ?_
 rintro x cs' ⟨y2,rfl,rfl⟩
 generalize qer y2 11=w
 simp only [ZZ,WW,Ze,reduceCtorEq,zd,ze,za,zf,zb]
 refine qjY (SpM l k) ?_ ?_ ?_
 ·intro _
  simp only [ZZ,WW,Ze,reduceCtorEq,zd,ze,za,zf,zb]
  refine useS (qee l (k+1+1) [[],[97],[122],[65]] (by omega) hl (by simp) (by simp)) rfl rfl rfl zE_ ?_
  rintro x cs' ⟨u,rfl,hu,rfl⟩
  have hu:u.length≤200000:=by simp only [zI,zU,or_false] at hu;rcases hu with rfl|rfl|rfl|rfl<;>decide
  simp only [ZZ,WW,Ze,reduceCtorEq,zd,ze,za,zf,zb,hg,qac,ddC]
  refine ⟨hj,?_⟩
  exact qao [.adr (.b 0) 0,oo,oo,oo,oo,.row (.l 12),oo,oo,oo,oo,oo,oo,oo,oo,oo,oo,oo,oo,oo,oo,oo,oo,oo,oo,oo,oo,oo,oo,oo,oo,oo,oo,oo,oo,oo,oo,oo,oo,oo,oo,oo,oo,oo,oo,oo,oo,oo,oo,oo,oo,oo,oo,oo,oo,oo,oo,oo,oo,oo,oo,oo,oo,oo,oo,oo,oo,oo,oo,oo,oo,oo,oo,oo,oo,oo,oo,oo,oo,oo,oo,oo,oo,oo,oo,oo,oo,oo,oo,oo,oo,oo,oo,oo,oo,oo,oo,oo,oo,oo,oo,oo,oo,oo,oo,oo,oo,oo,oo,oo,oo,oo,oo,oo,oo,oo,oo,oo,oo,oo,oo,oo,oo,oo,oo,oo,oo,oo,oo,oo,oo,oo,oo,oo,oo,oo,oo,oo,oo,oo,oo,oo,oo,oo,oo,oo,oo,oo,oo,oo,oo,oo,oo,oo,oo,oo,oo,oo,oo,oo,oo,oo,oo,oo,oo,oo,oo,oo] [(.b 0,.box ((stm l (k+1+1+1)).map .p) T),(.l 12,.row (ddE (o.set j { d with site:=u })) tDd 12 true)] (by (simp only [ZZ,WW,Ze,reduceCtorEq,zd,ze,za,zf,zb];try trivial)) (by simp only [ZZ,WW,Ze,reduceCtorEq,zd,ze,za,zf,zb,hg,ddC];exact congrArg (fun z=>some (AO.row z tDd 12 true)) (qeQ o j { d with site:=u })) ⟨_,_,hset { d with site:=u } { dB with b1:=hu },by simp;omega,by omega,rfl,rfl⟩
 ·intro _
  simp only [ZZ,WW,Ze,reduceCtorEq,zd,ze,za,zf,zb]
  refine br ?_ ?_
  ·intro _
   simp only [ZZ,WW,Ze,reduceCtorEq,zd,ze,za,zf,zb]
   refine drg0 ?_
   simp only [ZZ,WW,Ze,reduceCtorEq,zd,ze,za,zf,zb,hg,qac,ddC]
   refine ⟨hj,?_⟩
   refine useD (qj1 l (k+1+1) (-1) 1 (by omega) hl (by decide) (by decide) (by decide)) ⟨_,_,0,rfl,by decide,by decide,rfl⟩ rfl rfl rfl zE_ (fun _=>⟨0,rfl⟩) ?_
   rintro x cs' ⟨u,rfl,hu1,hu2,rfl⟩
   simp only [ZZ,WW,Ze,reduceCtorEq,zd,ze,za,zf,zb,hg,qac,ddC]
   refine ⟨qaj (by omega) (by omega),hj,?_⟩
   exact qao [.adr (.b 0) 0,oo,oo,oo,oo,.row (.l 12),oo,oo,oo,oo,oo,oo,oo,oo,oo,oo,oo,oo,oo,oo,oo,oo,oo,oo,oo,oo,oo,oo,oo,oo,oo,oo,oo,oo,oo,oo,oo,oo,oo,oo,oo,oo,oo,oo,oo,oo,oo,oo,oo,oo,oo,oo,oo,oo,oo,oo,oo,oo,oo,oo,oo,oo,oo,oo,oo,oo,oo,oo,oo,oo,oo,oo,oo,oo,oo,oo,oo,oo,oo,oo,oo,oo,oo,oo,oo,oo,oo,oo,oo,oo,oo,oo,oo,oo,oo,oo,oo,oo,oo,oo,oo,oo,oo,oo,oo,oo,oo,oo,oo,oo,oo,oo,oo,oo,oo,oo,oo,oo,oo,oo,oo,oo,oo,oo,oo,oo,oo,oo,oo,oo,oo,oo,oo,oo,oo,oo,oo,oo,oo,oo,oo,oo,oo,oo,oo,oo,oo,oo,oo,oo,oo,oo,oo,oo,oo,oo,oo,oo,oo,oo,oo,oo,oo,oo,oo,oo,oo] [(.b 0,.box ((stm l (k+1+1+1)).map .p) T),(.l 12,.row (ddE (o.set j { d with no:=d.no+u })) tDd 12 true)] (by (simp only [ZZ,WW,Ze,reduceCtorEq,zd,ze,za,zf,zb];try trivial)) (by simp only [ZZ,WW,Ze,reduceCtorEq,zd,ze,za,zf,zb,hg,ddC];exact congrArg (fun z=>some (AO.row z tDd 12 true)) (qeQ o j { d with no:=d.no+u })) ⟨_,_,hset { d with no:=d.no+u } { dB with c1:=⟨by show _≤d.no+u;omega,by show d.no+u≤_;omega⟩ },by simp;omega,by omega,rfl,rfl⟩
  intro _
  simp only [ZZ,WW,Ze,reduceCtorEq,zd,ze,za,zf,zb]
  refine br ?_ ?_
  ·intro _
   simp only [ZZ,WW,Ze,reduceCtorEq,zd,ze,za,zf,zb]
   simp only [ZZ,WW,Ze,reduceCtorEq,zd,ze,za,zf,zb,hg,qac,ddC]
   refine ⟨hj,qaj (by omega) (by omega),?_⟩
   refine useS (qhZ l (k+1+1) [-1,5761440,d.tm+1] (by omega) hl (by simp) (by simp)) rfl rfl rfl zE_ ?_
   rintro x cs' ⟨u,rfl,hu,rfl⟩
   have hu:-1000000001≤u∧u≤1000000001:=by simp only [zI,zU,or_false] at hu;omega
   simp only [ZZ,WW,Ze,reduceCtorEq,zd,ze,za,zf,zb,hg,qac,ddC]
   refine ⟨hj,?_⟩
   exact qao [.adr (.b 0) 0,oo,oo,oo,oo,.row (.l 12),oo,oo,oo,oo,oo,oo,oo,oo,oo,oo,oo,oo,oo,oo,oo,oo,oo,oo,oo,oo,oo,oo,oo,oo,oo,oo,oo,oo,oo,oo,oo,oo,oo,oo,oo,oo,oo,oo,oo,oo,oo,oo,oo,oo,oo,oo,oo,oo,oo,oo,oo,oo,oo,oo,oo,oo,oo,oo,oo,oo,oo,oo,oo,oo,oo,oo,oo,oo,oo,oo,oo,oo,oo,oo,oo,oo,oo,oo,oo,oo,oo,oo,oo,oo,oo,oo,oo,oo,oo,oo,oo,oo,oo,oo,oo,oo,oo,oo,oo,oo,oo,oo,oo,oo,oo,oo,oo,oo,oo,oo,oo,oo,oo,oo,oo,oo,oo,oo,oo,oo,oo,oo,oo,oo,oo,oo,oo,oo,oo,oo,oo,oo,oo,oo,oo,oo,oo,oo,oo,oo,oo,oo,oo,oo,oo,oo,oo,oo,oo,oo,oo,oo,oo,oo,oo,oo,oo,oo,oo,oo,oo] [(.b 0,.box ((stm l (k+1+1+1)).map .p) T),(.l 12,.row (ddE (o.set j { d with tm:=u })) tDd 12 true)] (by (simp only [ZZ,WW,Ze,reduceCtorEq,zd,ze,za,zf,zb];try trivial)) (by simp only [ZZ,WW,Ze,reduceCtorEq,zd,ze,za,zf,zb,hg,ddC];exact congrArg (fun z=>some (AO.row z tDd 12 true)) (qeQ o j { d with tm:=u })) ⟨_,_,hset { d with tm:=u } { dB with c2:=⟨by dsimp only;omega,by dsimp only;omega⟩ },by simp;omega,by omega,rfl,rfl⟩
  intro _
  simp only [ZZ,WW,Ze,reduceCtorEq,zd,ze,za,zf,zb]
  refine br ?_ ?_
  ·intro _
   simp only [ZZ,WW,Ze,reduceCtorEq,zd,ze,za,zf,zb]
   refine useS (qj1 l (k+1+1) 0 7 (by omega) hl (by decide) (by decide) (by decide)) rfl rfl rfl zE_ ?_
   rintro x cs' ⟨u,rfl,hu1,hu2,rfl⟩
   simp only [ZZ,WW,Ze,reduceCtorEq,zd,ze,za,zf,zb,hg,qac,ddC]
   refine ⟨hj,?_⟩
   exact qao [.adr (.b 0) 0,oo,oo,oo,oo,.row (.l 12),oo,oo,oo,oo,oo,oo,oo,oo,oo,oo,oo,oo,oo,oo,oo,oo,oo,oo,oo,oo,oo,oo,oo,oo,oo,oo,oo,oo,oo,oo,oo,oo,oo,oo,oo,oo,oo,oo,oo,oo,oo,oo,oo,oo,oo,oo,oo,oo,oo,oo,oo,oo,oo,oo,oo,oo,oo,oo,oo,oo,oo,oo,oo,oo,oo,oo,oo,oo,oo,oo,oo,oo,oo,oo,oo,oo,oo,oo,oo,oo,oo,oo,oo,oo,oo,oo,oo,oo,oo,oo,oo,oo,oo,oo,oo,oo,oo,oo,oo,oo,oo,oo,oo,oo,oo,oo,oo,oo,oo,oo,oo,oo,oo,oo,oo,oo,oo,oo,oo,oo,oo,oo,oo,oo,oo,oo,oo,oo,oo,oo,oo,oo,oo,oo,oo,oo,oo,oo,oo,oo,oo,oo,oo,oo,oo,oo,oo,oo,oo,oo,oo,oo,oo,oo,oo,oo,oo,oo,oo,oo,oo] [(.b 0,.box ((stm l (k+1+1+1)).map .p) T),(.l 12,.row (ddE (o.set j { d with kind:=u })) tDd 12 true)] (by (simp only [ZZ,WW,Ze,reduceCtorEq,zd,ze,za,zf,zb];try trivial)) (by simp only [ZZ,WW,Ze,reduceCtorEq,zd,ze,za,zf,zb,hg,ddC];exact congrArg (fun z=>some (AO.row z tDd 12 true)) (qeQ o j { d with kind:=u })) ⟨_,_,hset { d with kind:=u } { dB with c3:=⟨by dsimp only;omega,by dsimp only;omega⟩ },by simp;omega,by omega,rfl,rfl⟩
  intro _
  simp only [ZZ,WW,Ze,reduceCtorEq,zd,ze,za,zf,zb]
  refine br ?_ ?_
  ·intro _
   simp only [ZZ,WW,Ze,reduceCtorEq,zd,ze,za,zf,zb]
   refine useS (qee l (k+1+1) [[],[105,98],[73]] (by omega) hl (by simp) (by simp)) rfl rfl rfl zE_ ?_
   rintro x cs' ⟨u,rfl,hu,rfl⟩
   have hu:u.length≤200000:=by simp only [zI,zU,or_false] at hu;rcases hu with rfl|rfl|rfl<;>decide
   simp only [ZZ,WW,Ze,reduceCtorEq,zd,ze,za,zf,zb,hg,qac,ddC]
   refine ⟨hj,?_⟩
   exact qao [.adr (.b 0) 0,oo,oo,oo,oo,.row (.l 12),oo,oo,oo,oo,oo,oo,oo,oo,oo,oo,oo,oo,oo,oo,oo,oo,oo,oo,oo,oo,oo,oo,oo,oo,oo,oo,oo,oo,oo,oo,oo,oo,oo,oo,oo,oo,oo,oo,oo,oo,oo,oo,oo,oo,oo,oo,oo,oo,oo,oo,oo,oo,oo,oo,oo,oo,oo,oo,oo,oo,oo,oo,oo,oo,oo,oo,oo,oo,oo,oo,oo,oo,oo,oo,oo,oo,oo,oo,oo,oo,oo,oo,oo,oo,oo,oo,oo,oo,oo,oo,oo,oo,oo,oo,oo,oo,oo,oo,oo,oo,oo,oo,oo,oo,oo,oo,oo,oo,oo,oo,oo,oo,oo,oo,oo,oo,oo,oo,oo,oo,oo,oo,oo,oo,oo,oo,oo,oo,oo,oo,oo,oo,oo,oo,oo,oo,oo,oo,oo,oo,oo,oo,oo,oo,oo,oo,oo,oo,oo,oo,oo,oo,oo,oo,oo,oo,oo,oo,oo,oo,oo] [(.b 0,.box ((stm l (k+1+1+1)).map .p) T),(.l 12,.row (ddE (o.set j { d with id:=u })) tDd 12 true)] (by (simp only [ZZ,WW,Ze,reduceCtorEq,zd,ze,za,zf,zb];try trivial)) (by simp only [ZZ,WW,Ze,reduceCtorEq,zd,ze,za,zf,zb,hg,ddC];exact congrArg (fun z=>some (AO.row z tDd 12 true)) (qeQ o j { d with id:=u })) ⟨_,_,hset { d with id:=u } { dB with b2:=hu },by simp;omega,by omega,rfl,rfl⟩
  intro _
  simp only [ZZ,WW,Ze,reduceCtorEq,zd,ze,za,zf,zb]
  refine br ?_ ?_
  ·intro _
   simp only [ZZ,WW,Ze,reduceCtorEq,zd,ze,za,zf,zb]
   refine useS (qee l (k+1+1) [[],[119,97,110,116],[70]] (by omega) hl (by simp) (by simp)) rfl rfl rfl zE_ ?_
   rintro x cs' ⟨u,rfl,hu,rfl⟩
   have hu:u.length≤200000:=by simp only [zI,zU,or_false] at hu;rcases hu with rfl|rfl|rfl<;>decide
   simp only [ZZ,WW,Ze,reduceCtorEq,zd,ze,za,zf,zb,hg,qac,ddC]
   refine ⟨hj,?_⟩
   exact qao [.adr (.b 0) 0,oo,oo,oo,oo,.row (.l 12),oo,oo,oo,oo,oo,oo,oo,oo,oo,oo,oo,oo,oo,oo,oo,oo,oo,oo,oo,oo,oo,oo,oo,oo,oo,oo,oo,oo,oo,oo,oo,oo,oo,oo,oo,oo,oo,oo,oo,oo,oo,oo,oo,oo,oo,oo,oo,oo,oo,oo,oo,oo,oo,oo,oo,oo,oo,oo,oo,oo,oo,oo,oo,oo,oo,oo,oo,oo,oo,oo,oo,oo,oo,oo,oo,oo,oo,oo,oo,oo,oo,oo,oo,oo,oo,oo,oo,oo,oo,oo,oo,oo,oo,oo,oo,oo,oo,oo,oo,oo,oo,oo,oo,oo,oo,oo,oo,oo,oo,oo,oo,oo,oo,oo,oo,oo,oo,oo,oo,oo,oo,oo,oo,oo,oo,oo,oo,oo,oo,oo,oo,oo,oo,oo,oo,oo,oo,oo,oo,oo,oo,oo,oo,oo,oo,oo,oo,oo,oo,oo,oo,oo,oo,oo,oo,oo,oo,oo,oo,oo,oo] [(.b 0,.box ((stm l (k+1+1+1)).map .p) T),(.l 12,.row (ddE (o.set j { d with field:=u })) tDd 12 true)] (by (simp only [ZZ,WW,Ze,reduceCtorEq,zd,ze,za,zf,zb];try trivial)) (by simp only [ZZ,WW,Ze,reduceCtorEq,zd,ze,za,zf,zb,hg,ddC];exact congrArg (fun z=>some (AO.row z tDd 12 true)) (qeQ o j { d with field:=u })) ⟨_,_,hset { d with field:=u } { dB with b3:=hu },by simp;omega,by omega,rfl,rfl⟩
  intro _
  simp only [ZZ,WW,Ze,reduceCtorEq,zd,ze,za,zf,zb]
  refine br ?_ ?_
  ·intro _
   simp only [ZZ,WW,Ze,reduceCtorEq,zd,ze,za,zf,zb]
   refine useS (qee l (k+1+1) [[],[121,101,115],[32,120]] (by omega) hl (by simp) (by simp)) rfl rfl rfl zE_ ?_
   rintro x cs' ⟨u,rfl,hu,rfl⟩
   have hu:u.length≤200000:=by simp only [zI,zU,or_false] at hu;rcases hu with rfl|rfl|rfl<;>decide
   simp only [ZZ,WW,Ze,reduceCtorEq,zd,ze,za,zf,zb,hg,qac,ddC]
   refine ⟨hj,?_⟩
   exact qao [.adr (.b 0) 0,oo,oo,oo,oo,.row (.l 12),oo,oo,oo,oo,oo,oo,oo,oo,oo,oo,oo,oo,oo,oo,oo,oo,oo,oo,oo,oo,oo,oo,oo,oo,oo,oo,oo,oo,oo,oo,oo,oo,oo,oo,oo,oo,oo,oo,oo,oo,oo,oo,oo,oo,oo,oo,oo,oo,oo,oo,oo,oo,oo,oo,oo,oo,oo,oo,oo,oo,oo,oo,oo,oo,oo,oo,oo,oo,oo,oo,oo,oo,oo,oo,oo,oo,oo,oo,oo,oo,oo,oo,oo,oo,oo,oo,oo,oo,oo,oo,oo,oo,oo,oo,oo,oo,oo,oo,oo,oo,oo,oo,oo,oo,oo,oo,oo,oo,oo,oo,oo,oo,oo,oo,oo,oo,oo,oo,oo,oo,oo,oo,oo,oo,oo,oo,oo,oo,oo,oo,oo,oo,oo,oo,oo,oo,oo,oo,oo,oo,oo,oo,oo,oo,oo,oo,oo,oo,oo,oo,oo,oo,oo,oo,oo,oo,oo,oo,oo,oo,oo] [(.b 0,.box ((stm l (k+1+1+1)).map .p) T),(.l 12,.row (ddE (o.set j { d with value:=u })) tDd 12 true)] (by (simp only [ZZ,WW,Ze,reduceCtorEq,zd,ze,za,zf,zb];try trivial)) (by simp only [ZZ,WW,Ze,reduceCtorEq,zd,ze,za,zf,zb,hg,ddC];exact congrArg (fun z=>some (AO.row z tDd 12 true)) (qeQ o j { d with value:=u })) ⟨_,_,hset { d with value:=u } { dB with b4:=hu },by simp;omega,by omega,rfl,rfl⟩
  intro _
  simp only [ZZ,WW,Ze,reduceCtorEq,zd,ze,za,zf,zb]
  refine br ?_ ?_
  ·intro _
   simp only [ZZ,WW,Ze,reduceCtorEq,zd,ze,za,zf,zb]
   refine useS (qb4 l (k+1+1) 3 (by omega) hl (by decide)) rfl rfl rfl zE_ ?_
   rintro x cs' ⟨yu,rfl,rfl⟩
   have hu1:=qdC yu 3
   have hu2:=qdD yu 3 (by decide)
   generalize qer yu 3=u at *
   simp only [ZZ,WW,Ze,reduceCtorEq,zd,ze,za,zf,zb]
   refine useS (qb4 l (k+1+1+1) 9 (by omega) hl (by decide)) rfl rfl rfl zE_ ?_
   rintro x cs' ⟨yv,rfl,rfl⟩
   have hv1:=qdC yv 9
   have hv2:=qdD yv 9 (by decide)
   generalize qer yv 9=v at *
   simp only [ZZ,WW,Ze,reduceCtorEq,zd,ze,za,zf,zb,hg,qac,ddC]
   refine ⟨hj,?_⟩
   exact qao [.adr (.b 0) 0,oo,oo,oo,oo,.row (.l 12),oo,oo,oo,oo,oo,oo,oo,oo,oo,oo,oo,oo,oo,oo,oo,oo,oo,oo,oo,oo,oo,oo,oo,oo,oo,oo,oo,oo,oo,oo,oo,oo,oo,oo,oo,oo,oo,oo,oo,oo,oo,oo,oo,oo,oo,oo,oo,oo,oo,oo,oo,oo,oo,oo,oo,oo,oo,oo,oo,oo,oo,oo,oo,oo,oo,oo,oo,oo,oo,oo,oo,oo,oo,oo,oo,oo,oo,oo,oo,oo,oo,oo,oo,oo,oo,oo,oo,oo,oo,oo,oo,oo,oo,oo,oo,oo,oo,oo,oo,oo,oo,oo,oo,oo,oo,oo,oo,oo,oo,oo,oo,oo,oo,oo,oo,oo,oo,oo,oo,oo,oo,oo,oo,oo,oo,oo,oo,oo,oo,oo,oo,oo,oo,oo,oo,oo,oo,oo,oo,oo,oo,oo,oo,oo,oo,oo,oo,oo,oo,oo,oo,oo,oo,oo,oo,oo,oo,oo,oo,oo,oo] [(.b 0,.box ((stm l (k+1+1+1+1)).map .p) T),(.l 12,.row (ddE (o.set j { d with frm:=u,upto:=v })) tDd 12 true)] (by (simp only [ZZ,WW,Ze,reduceCtorEq,zd,ze,za,zf,zb];try trivial)) (by simp only [ZZ,WW,Ze,reduceCtorEq,zd,ze,za,zf,zb,hg,ddC];exact congrArg (fun z=>some (AO.row z tDd 12 true)) (qeQ o j { d with frm:=u,upto:=v })) ⟨_,_,hset { d with frm:=u,upto:=v } { dB with c4:=⟨by dsimp only;omega,by dsimp only;omega⟩,c5:=⟨by dsimp only;omega,by dsimp only;omega⟩ },by simp;omega,by omega,rfl,rfl⟩
  intro _
  simp only [ZZ,WW,Ze,reduceCtorEq,zd,ze,za,zf,zb]
  refine br ?_ ?_
  ·intro _
   simp only [ZZ,WW,Ze,reduceCtorEq,zd,ze,za,zf,zb]
   refine useS (qee l (k+1+1) [[],[97],[98]] (by omega) hl (by simp) (by simp)) rfl rfl rfl zE_ ?_
   rintro x cs' ⟨u,rfl,hu,rfl⟩
   have hu:u.length≤200000:=by simp only [zI,zU,or_false] at hu;rcases hu with rfl|rfl|rfl<;>decide
   simp only [ZZ,WW,Ze,reduceCtorEq,zd,ze,za,zf,zb]
   refine useS (qb4 l (k+1+1+1) 4 (by omega) hl (by decide)) rfl rfl rfl zE_ ?_
   rintro x cs' ⟨yv,rfl,rfl⟩
   have hv1:=qdC yv 4
   have hv2:=qdD yv 4 (by decide)
   generalize qer yv 4=v at *
   simp only [ZZ,WW,Ze,reduceCtorEq,zd,ze,za,zf,zb,hg,qac,ddC]
   refine ⟨hj,?_⟩
   exact qao [.adr (.b 0) 0,oo,oo,oo,oo,.row (.l 12),oo,oo,oo,oo,oo,oo,oo,oo,oo,oo,oo,oo,oo,oo,oo,oo,oo,oo,oo,oo,oo,oo,oo,oo,oo,oo,oo,oo,oo,oo,oo,oo,oo,oo,oo,oo,oo,oo,oo,oo,oo,oo,oo,oo,oo,oo,oo,oo,oo,oo,oo,oo,oo,oo,oo,oo,oo,oo,oo,oo,oo,oo,oo,oo,oo,oo,oo,oo,oo,oo,oo,oo,oo,oo,oo,oo,oo,oo,oo,oo,oo,oo,oo,oo,oo,oo,oo,oo,oo,oo,oo,oo,oo,oo,oo,oo,oo,oo,oo,oo,oo,oo,oo,oo,oo,oo,oo,oo,oo,oo,oo,oo,oo,oo,oo,oo,oo,oo,oo,oo,oo,oo,oo,oo,oo,oo,oo,oo,oo,oo,oo,oo,oo,oo,oo,oo,oo,oo,oo,oo,oo,oo,oo,oo,oo,oo,oo,oo,oo,oo,oo,oo,oo,oo,oo,oo,oo,oo,oo,oo,oo] [(.b 0,.box ((stm l (k+1+1+1+1)).map .p) T),(.l 12,.row (ddE (o.set j { d with osite:=u,ono:=v })) tDd 12 true)] (by (simp only [ZZ,WW,Ze,reduceCtorEq,zd,ze,za,zf,zb];try trivial)) (by simp only [ZZ,WW,Ze,reduceCtorEq,zd,ze,za,zf,zb,hg,ddC];exact congrArg (fun z=>some (AO.row z tDd 12 true)) (qeQ o j { d with osite:=u,ono:=v })) ⟨_,_,hset { d with osite:=u,ono:=v } { dB with b5:=hu,c6:=⟨by dsimp only;omega,by dsimp only;omega⟩ },by simp;omega,by omega,rfl,rfl⟩
  intro _
  simp only [ZZ,WW,Ze,reduceCtorEq,zd,ze,za,zf,zb]
  refine br ?_ ?_
  ·intro _
   simp only [ZZ,WW,Ze,reduceCtorEq,zd,ze,za,zf,zb]
   refine useS (qee l (k+1+1) [[],[48,49,50,51,52,53,54,55,56,57,97,98,99,100,101,102]] (by omega) hl (by simp) (by simp)) rfl rfl rfl zE_ ?_
   rintro x cs' ⟨u,rfl,hu,rfl⟩
   have hu:u.length≤200000:=by simp only [zI,zU,or_false] at hu;rcases hu with rfl|rfl<;>decide
   simp only [ZZ,WW,Ze,reduceCtorEq,zd,ze,za,zf,zb,hg,qac,ddC]
   refine ⟨hj,?_⟩
   exact qao [.adr (.b 0) 0,oo,oo,oo,oo,.row (.l 12),oo,oo,oo,oo,oo,oo,oo,oo,oo,oo,oo,oo,oo,oo,oo,oo,oo,oo,oo,oo,oo,oo,oo,oo,oo,oo,oo,oo,oo,oo,oo,oo,oo,oo,oo,oo,oo,oo,oo,oo,oo,oo,oo,oo,oo,oo,oo,oo,oo,oo,oo,oo,oo,oo,oo,oo,oo,oo,oo,oo,oo,oo,oo,oo,oo,oo,oo,oo,oo,oo,oo,oo,oo,oo,oo,oo,oo,oo,oo,oo,oo,oo,oo,oo,oo,oo,oo,oo,oo,oo,oo,oo,oo,oo,oo,oo,oo,oo,oo,oo,oo,oo,oo,oo,oo,oo,oo,oo,oo,oo,oo,oo,oo,oo,oo,oo,oo,oo,oo,oo,oo,oo,oo,oo,oo,oo,oo,oo,oo,oo,oo,oo,oo,oo,oo,oo,oo,oo,oo,oo,oo,oo,oo,oo,oo,oo,oo,oo,oo,oo,oo,oo,oo,oo,oo,oo,oo,oo,oo,oo,oo] [(.b 0,.box ((stm l (k+1+1+1)).map .p) T),(.l 12,.row (ddE (o.set j { d with sum:=u })) tDd 12 true)] (by (simp only [ZZ,WW,Ze,reduceCtorEq,zd,ze,za,zf,zb];try trivial)) (by simp only [ZZ,WW,Ze,reduceCtorEq,zd,ze,za,zf,zb,hg,ddC];exact congrArg (fun z=>some (AO.row z tDd 12 true)) (qeQ o j { d with sum:=u })) ⟨_,_,hset { d with sum:=u } { dB with b6:=hu },by simp;omega,by omega,rfl,rfl⟩
  intro _
  simp only [ZZ,WW,Ze,reduceCtorEq,zd,ze,za,zf,zb]
  refine ⟨qaj (by omega) (by omega),?_⟩
  refine qwS 12 (ddE o) j (j+1) (by rw [qac];omega) rfl (by rw [qac];omega) rfl ?_
  simp only [ZZ,WW,Ze,reduceCtorEq,zd,ze,za,zf,zb]
  exact qao [.adr (.b 0) 0,oo,oo,oo,oo,.row (.l 12),oo,oo,oo,oo,oo,oo,oo,oo,oo,oo,oo,oo,oo,oo,oo,oo,oo,oo,oo,oo,oo,oo,oo,oo,oo,oo,oo,oo,oo,oo,oo,oo,oo,oo,oo,oo,oo,oo,oo,oo,oo,oo,oo,oo,oo,oo,oo,oo,oo,oo,oo,oo,oo,oo,oo,oo,oo,oo,oo,oo,oo,oo,oo,oo,oo,oo,oo,oo,oo,oo,oo,oo,oo,oo,oo,oo,oo,oo,oo,oo,oo,oo,oo,oo,oo,oo,oo,oo,oo,oo,oo,oo,oo,oo,oo,oo,oo,oo,oo,oo,oo,oo,oo,oo,oo,oo,oo,oo,oo,oo,oo,oo,oo,oo,oo,oo,oo,oo,oo,oo,oo,oo,oo,oo,oo,oo,oo,oo,oo,oo,oo,oo,oo,oo,oo,oo,oo,oo,oo,oo,oo,oo,oo,oo,oo,oo,oo,oo,oo,oo,oo,oo,oo,oo,oo,oo,oo,oo,oo,oo,oo] [(.b 0,.box ((stm l (k+1+1)).map .p) T),(.l 12,.row (ddE (o.take j++o.drop (j+1))) tDd 12 true)] (by (simp only [ZZ,WW,Ze,reduceCtorEq,zd,ze,za,zf,zb];try trivial)) (by simp only [ZZ,WW,Ze,reduceCtorEq,zd,ze,za,zf,zb];exact congrArg (fun z=>some (AO.row z tDd 12 true)) (qwq o j)) ⟨_,_,hdel,by simp;omega,by omega,rfl,rfl⟩
 rintro fr L ⟨q,k2,hqB,hql,hk2,rfl,rfl⟩
 simp only [ZZ,WW,Ze,reduceCtorEq,zd,ze,za,zf,zb]
 refine useS (qmP l k2 2 (by omega) hl (by decide)) rfl rfl rfl zE_ ?_
 rintro x cs' ⟨z,rfl,rfl⟩
 simp only [ZZ,WW,Ze,reduceCtorEq,zd,ze,za,zf,zb]
 refine qeU (SpN l k) ?_ ?_ ?_
 ·intro _
  simp only [ZZ,WW,Ze,reduceCtorEq,zd,ze,za,zf,zb,qac]
  refine qag (fun n fr L=>∃ (i:Nat) (q':List Dd) (kv:List (List UInt8×PV)),i≤q.length∧n=q.length - i∧(DdsB q')∧(q'.length=q.length)∧(∀ s:List UInt8,∃ b:List UInt8,mpD kv s (.str [])=.str b∧b.length≤200000)∧fr=[.adr (.b 0) 0,oo,oo,oo,oo,.row (.l 12),oo,oo,.mp (.l 137),oo,oo,oo,oo,oo,oo,oo,oo,oo,oo,oo,oo,oo,oo,oo,oo,oo,oo,oo,oo,oo,oo,oo,oo,oo,oo,oo,oo,oo,oo,oo,oo,oo,oo,oo,oo,oo,oo,oo,oo,oo,oo,oo,oo,oo,oo,oo,oo,oo,oo,oo,oo,oo,oo,oo,oo,oo,oo,oo,oo,oo,oo,oo,oo,oo,oo,oo,oo,oo,oo,oo,oo,oo,oo,oo,oo,oo,oo,oo,oo,oo,oo,oo,oo,oo,oo,oo,oo,oo,oo,oo,oo,oo,oo,oo,oo,oo,oo,oo,oo,oo,oo,oo,oo,oo,oo,oo,oo,oo,oo,oo,oo,oo,oo,oo,oo,oo,oo,oo,oo,oo,oo,oo,oo,oo,oo,oo,oo,oo,.row (.l 12),.p (int (q.length:Nat)),.p (int (i:Nat)),oo,oo,oo,oo,oo,oo,oo,oo,oo,oo,oo,oo,oo,oo,oo,oo,oo,oo,oo,oo,oo,oo,oo,oo,oo,oo]∧L=[(.b 0,.box ((stm l (k2+1)).map .p) T),(.l 12,.row (ddE q') tDd 12 true),(.l 137,.map kv 9 9)]) (q.length) _ _ (by (simp only [ZZ,WW,Ze,reduceCtorEq,zd,ze,za,zf,zb];try trivial)) (by (simp only [ZZ,WW,Ze,reduceCtorEq,zd,ze,za,zf,zb];try trivial)) ⟨0,q,(List.nil:List (List UInt8×PV)),by omega,by omega,hqB,rfl,(fun s=>⟨[],rfl,by simp⟩),rfl,rfl⟩ ?_
  rintro n fr L ⟨i,q',kv,hi,rfl,hqB',hql',hkv,rfl,rfl⟩
  simp only [qaY,ZZ,WW,Ze,reduceCtorEq,zd,ze,za,zf,zb]
  refine br ?_ ?_
  ·intro h
   have hlt:i < q.length:=by have:=of_decide_eq_true h;omega
   obtain ⟨d,hd⟩:∃ d,q'[i]?=some d:=⟨_,zr (by omega)⟩
   have hg:=qbC hd
   have dB:=hqB'.get hd
   obtain ⟨b,hb,hbl⟩:=hkv d.site
   have hi2:i < q'.length:=by omega
   have hSum:=qhY d dB b hbl
   have hS16:(sumF b d).length≤200000:=by show (digF _).length≤200000;rw [qpY];decide
   generalize sumF b d=S at *
   have hgs:(ddE (q'.set i { d with sum:=S })).getD i []=ddC { d with sum:=S }:=qbC (by rw [List.getElem?_set_self hi2])
   simp only [ZZ,WW,Ze,reduceCtorEq,zd,ze,za,zf,zb,hg,qac,ddC,hb]
   refine ⟨⟨by omega,by omega⟩,hi2,?_⟩
   refine use1 hSum rfl (.inl rfl) ?_
   simp only [ZZ,WW,Ze,reduceCtorEq,zd,ze,za,zf,zb,hg,qac,ddC]
   refine ⟨⟨by omega,by omega⟩,hi2,?_⟩
   have hse:(ddE q').set i [.str d.site,int d.no,int d.tm,int d.kind,.str d.id,.str d.field,.str d.value,int d.frm,int d.upto,.str d.osite,int d.ono,.str (S)]=ddE (q'.set i { d with sum:=S }):=qeQ q' i { d with sum:=S }
   rw [hse]
   refine drg0 ?_
   simp only [ZZ,WW,Ze,reduceCtorEq,zd,ze,za,zf,zb,hgs,qac,ddC]
   have hsl:(q'.set i { d with sum:=S }).length=q'.length:=by simp
   refine ⟨⟨by omega,by rw [hsl];omega⟩,by rw [hsl];omega,qaj (by omega) (by omega),?_⟩
   have hq3B:DdsB (q'.set i { d with sum:=S }):=spB hqB' { dB with b6:=hS16 }
   have hq3l:(q'.set i { d with sum:=S }).length=q.length:=by rw [hsl];exact hql'
   have hk3:=spK (k:=d.site) hkv hS16
   clear hgs hse hsl hSum hg hb hd
   generalize q'.set i { d with sum:=S }=q3 at *
   generalize mpS kv d.site (.str (S))=kv3 at *
   refine qae (q.length - (i+1)) _ _ (by omega) (by (simp only [ZZ,WW,Ze,reduceCtorEq,zd,ze,za,zf,zb];try trivial)) (by (simp only [ZZ,WW,Ze,reduceCtorEq,zd,ze,za,zf,zb];try trivial)) ⟨i+1,q3,kv3,by omega,rfl,hq3B,hq3l,hk3,rfl,rfl⟩
  ·intro h
   simp only [ZZ,WW,Ze,reduceCtorEq,zd,ze,za,zf,zb]
   exact qao [.adr (.b 0) 0,oo,oo,oo,oo,.row (.l 12),oo,oo,oo,oo,oo,oo,oo,oo,oo,oo,oo,oo,oo,oo,oo,oo,oo,oo,oo,oo,oo,oo,oo,oo,oo,oo,oo,oo,oo,oo,oo,oo,oo,oo,oo,oo,oo,oo,oo,oo,oo,oo,oo,oo,oo,oo,oo,oo,oo,oo,oo,oo,oo,oo,oo,oo,oo,oo,oo,oo,oo,oo,oo,oo,oo,oo,oo,oo,oo,oo,oo,oo,oo,oo,oo,oo,oo,oo,oo,oo,oo,oo,oo,oo,oo,oo,oo,oo,oo,oo,oo,oo,oo,oo,oo,oo,oo,oo,oo,oo,oo,oo,oo,oo,oo,oo,oo,oo,oo,oo,oo,oo,oo,oo,oo,oo,oo,oo,oo,oo,oo,oo,oo,oo,oo,oo,oo,oo,oo,oo,oo,oo,oo,oo,oo,oo,oo,oo,oo,oo,oo,oo,oo,oo,oo,oo,oo,oo,oo,oo,oo,oo,oo,oo,oo,oo,oo,oo,oo,oo,oo] [(.b 0,.box ((stm l (k2+1)).map .p) T),(.l 12,.row (ddE q') tDd 12 true)] (by (simp only [ZZ,WW,Ze,reduceCtorEq,zd,ze,za,zf,zb];try trivial)) zE_ ⟨q',_,hqB',by omega,by omega,rfl,rfl⟩
 ·intro _
  simp only [ZZ,WW,Ze,reduceCtorEq,zd,ze,za,zf,zb]
  exact qao [.adr (.b 0) 0,oo,oo,oo,oo,.row (.l 12),oo,oo,oo,oo,oo,oo,oo,oo,oo,oo,oo,oo,oo,oo,oo,oo,oo,oo,oo,oo,oo,oo,oo,oo,oo,oo,oo,oo,oo,oo,oo,oo,oo,oo,oo,oo,oo,oo,oo,oo,oo,oo,oo,oo,oo,oo,oo,oo,oo,oo,oo,oo,oo,oo,oo,oo,oo,oo,oo,oo,oo,oo,oo,oo,oo,oo,oo,oo,oo,oo,oo,oo,oo,oo,oo,oo,oo,oo,oo,oo,oo,oo,oo,oo,oo,oo,oo,oo,oo,oo,oo,oo,oo,oo,oo,oo,oo,oo,oo,oo,oo,oo,oo,oo,oo,oo,oo,oo,oo,oo,oo,oo,oo,oo,oo,oo,oo,oo,oo,oo,oo,oo,oo,oo,oo,oo,oo,oo,oo,oo,oo,oo,oo,oo,oo,oo,oo,oo,oo,oo,oo,oo,oo,oo,oo,oo,oo,oo,oo,oo,oo,oo,oo,oo,oo,oo,oo,oo,oo,oo,oo] [(.b 0,.box ((stm l (k2+1)).map .p) T),(.l 12,.row (ddE q) tDd 12 true)] (by (simp only [ZZ,WW,Ze,reduceCtorEq,zd,ze,za,zf,zb];try trivial)) zE_ ⟨q,_,hqB,hql,by omega,rfl,rfl⟩
 rintro fr L ⟨q2,k3,hq2B,hq2l,hk3,rfl,rfl⟩
 simp only [ZZ,WW,Ze,reduceCtorEq,zd,ze,za,zf,zb]
 exact qfU (stm l k3) rfl ⟨q2,k3,rfl,hq2B,hq2l,rfl,hk3⟩
def qaX:IC:=(.seq (.reg [qO 14 (.bin .lss (.t 13) (.t 12))]) (.seq (.cond (.t 14) .skip (.exit 0)) (.seq (.block 1 (.seq (.reg [qM 15 13,qM 5 15]) (.seq (.drg [qM 16 0,qM 17 5,qO 18 (.ixa 12 (.t 16) (.t 17)),qO 19 (.ld 12 true (.t 18)),qM 20 1,qM 21 5,qO 22 (.ixa 12 (.t 20) (.t 21)),qO 23 (.ld 12 true (.t 22)),qO 24 (.eqa true [.s,.i,.i,.i,.s,.s,.s,.i,.i,.s,.i,.s] (.t 19) (.t 23))]) (.cond (.t 24) (.seq (.reg [qO 4 (.mov (.c (.bool false)))]) .ret) .skip)))) (.reg [qO 25 (.bin .add (.t 13) (.c (.int .i64 1))),qM 13 25]))))
def qbe:IC:=(.seq (.reg [qO 4 (.mov (.c (.bool false)))]) (.seq (.seq (.reg [qM 6 0,qO 7 (.len (.t 6)),qM 8 1,qO 9 (.len (.t 8)),qO 10 (.bin .neq (.t 7) (.t 9))]) (.cond (.t 10) (.seq (.reg [qO 4 (.mov (.c (.bool false)))]) .ret) .skip)) (.seq (.seq (.reg [qM 11 0,qO 12 (.len (.t 11)),qO 13 (.mov (.c (.int .i64 0)))]) (.block 0 (.loop qaX))) (.seq (.reg [qO 4 (.mov (.c (.bool true)))]) .ret))))
def qa8:List IRes:=[.t 4]
theorem qc9:chkF Tryz.prog Tryz.f12 qbe qa8 26=true:=by kernel_rfl
def qbW:IC:=(.seq (.reg [qO 2 (.mov (.c (.nl 12)))]) (.seq (.reg [qM 4 0,qO 5 (.call 13 [.t 4]),qM 3 5]) (.seq (.seq (.reg [qM 6 0,qO 7 (.call 14 [.t 6,.c (.int .i64 8)])]) (.cond (.t 7) (.reg [qM 8 0,qM 9 3,⟨none,.fz (.t 9),none⟩,qO 10 (.call 15 [.t 8,.t 9]),qM 3 10]) .skip)) (.cut (.seq (.reg [qM 11 3,qM 2 11]) .ret)))))
def qbT:List IRes:=[.t 2]
theorem qeq:chkF Tryz.prog Tryz.f4 qbW qbT 12=true:=by kernel_rfl
section
variable {E:Envt}
theorem qpc (l:List Dd) (hl:l.length≤1000000000):PCall Tryz.prog E 12 [.sl 12 (ddE l),.sl 12 (ddE l)] (·=.bool true):=by
 refine qaf mixed Tryz.func12 qc9 ?_
 simp only [a0,l0,OS.ao,zl,zt,zk,zp,zo,zq,zu,zd,zj,zm,qbe,qa8,ZZ,WW,Ze,reduceCtorEq,zd,ze,za,zf,zb]
 simp only [ZZ,WW,Ze,reduceCtorEq,zd,ze,za,zf,zb,qac,decide_true,Bool.not_true]
 refine qag (fun n fr L=>∃ (k:Nat),k≤l.length∧n=l.length - k∧fr=[.p (.sl 12 (ddE l)),.p (.sl 12 (ddE l)),oo,oo,oo,oo,oo,oo,oo,oo,oo,oo,.p (int (l.length:Nat)),.p (int (k:Nat)),oo,oo,oo,oo,oo,oo,oo,oo,oo,oo,oo,oo]∧L=[]) (l.length) _ [] (by simp only [qac,ZZ,WW,Ze,reduceCtorEq,zd,ze,za,zf,zb];try trivial) (by (simp only [ZZ,WW,Ze,reduceCtorEq,zd,ze,za,zf,zb];try trivial)) ⟨0,by omega,by omega,rfl,rfl⟩ ?_
 rintro n fr L ⟨k,hk,rfl,rfl,rfl⟩
 simp only [qaX,ZZ,WW,Ze,reduceCtorEq,zd,ze,za,zf,zb]
 refine br ?_ ?_
 ·intro h
  have hlt:k < l.length:=by have:=of_decide_eq_true h;omega
  obtain ⟨d,hd⟩:∃ d,l[k]?=some d:=⟨_,zr hlt⟩
  have hg:=qbC hd
  simp only [ZZ,WW,Ze,reduceCtorEq,zd,ze,za,zf,zb]
  refine drg0 ?_
  simp only [ZZ,WW,Ze,reduceCtorEq,zd,ze,za,zf,zb,hg,qac,ddC,decide_true,Bool.and_self,Bool.not_true]
  refine ⟨⟨by omega,by omega⟩,hlt,⟨by omega,by omega⟩,hlt,qaj (by omega) (by omega),?_⟩
  refine qae (l.length - (k+1)) _ [] (by omega) (by (simp only [ZZ,WW,Ze,reduceCtorEq,zd,ze,za,zf,zb];try trivial)) (by (simp only [ZZ,WW,Ze,reduceCtorEq,zd,ze,za,zf,zb];try trivial)) ⟨k+1,by omega,rfl,rfl,rfl⟩
 ·intro h
  simp only [ZZ,WW,Ze,reduceCtorEq,zd,ze,za,zf,zb]
end
def AnM (l:List Int) (k:Nat) (fr:List AV) (L:Objs):Prop:=∃ (q:List Dd) (k2:Nat),DdsB q∧q.length≤2001∧k2≤k+2000∧fr=[oo,oo,oo,.p (.sl 12 (ddE q)),oo,oo,oo,oo,oo,oo,oo,oo]∧L=[(.b 0,.box ((stm l k2).map .p) T)]
set_option maxHeartbeats 4000000 in
theorem qph (l:List Int) (k:Nat) (hk:k≤500000) (hl:l.length≤9223372036854775807) :
  qdl Tryz.prog ED 4 T (stm l k) [] (fun x cs'=>∃ (q:List Dd) (k':Nat),x=.sl 12 (ddE q)∧DdsB q∧q.length≤2001∧cs'=stm l k'∧k'≤k+2000):=by
 unfold qdl
 refine qgl mixed Tryz.func4 qeq ?_
 simp only [a0,l0,OS.ao,zl,zt,zk,zp,zo,zq,zu,zd,zj,zm,qbW,qbT,ZZ,WW,Ze,reduceCtorEq,zd,ze,za,zf,zb]
 refine useS (qqe l k hk hl) rfl rfl rfl zE_ ?_
 rintro x cs' ⟨o,k1,rfl,hR,rfl,hk1⟩
 simp only [ZZ,WW,Ze,reduceCtorEq,zd,ze,za,zf,zb]
 refine useS (qmP l k1 8 (by omega) hl (by decide)) rfl rfl rfl zE_ ?_
 rintro x cs' ⟨b,rfl,rfl⟩
 simp only [ZZ,WW,Ze,reduceCtorEq,zd,ze,za,zf,zb]
 refine qeU (AnM l k) ?_ ?_ ?_
 ·intro _
  simp only [ZZ,WW,Ze,reduceCtorEq,zd,ze,za,zf,zb]
  refine useS (qkK l (k1+1) o (by omega) hl hR) rfl rfl rfl zE_ ?_
  rintro x cs' ⟨q,k2,rfl,hqB,hql,rfl,hk2⟩
  simp only [ZZ,WW,Ze,reduceCtorEq,zd,ze,za,zf,zb]
  exact qao _ _ (by (simp only [ZZ,WW,Ze,reduceCtorEq,zd,ze,za,zf,zb];try trivial)) zE_ ⟨q,k2,hqB,hql,by omega,rfl,rfl⟩
 ·intro _
  simp only [ZZ,WW,Ze,reduceCtorEq,zd,ze,za,zf,zb]
  exact qao [oo,oo,oo,.p (.sl 12 (ddE o)),oo,oo,oo,oo,oo,oo,oo,oo] [(.b 0,.box ((stm l (k1+1)).map .p) T)] (by (simp only [ZZ,WW,Ze,reduceCtorEq,zd,ze,za,zf,zb];try trivial)) zE_ ⟨o,_,hR.b,by have:=hR.len;omega,by omega,rfl,rfl⟩
 rintro fr L ⟨q,k2,hqB,hql,hk2,rfl,rfl⟩
 simp only [ZZ,WW,Ze,reduceCtorEq,zd,ze,za,zf,zb]
 exact qfU (stm l k2) rfl ⟨q,k2,rfl,hqB,hql,rfl,hk2⟩
def qbq:IC:=(.seq (.reg [qO 9 (.bin .lss (.t 8) (.t 7))]) (.seq (.cond (.t 9) .skip (.exit 0)) (.seq (.block 1 (.seq (.reg [qM 10 8,qM 5 10]) (.seq (.reg [qM 11 1,qM 12 0,qM 13 5,qO 14 (.ixa 1 (.t 12) (.t 13)),qO 15 (.ld 1 false (.t 14)),qO 16 (.bin .eql (.t 11) (.t 15))]) (.cond (.t 16) (.seq (.reg [qM 17 5,qM 4 17]) .ret) .skip)))) (.reg [qO 18 (.bin .add (.t 8) (.c (.int .i64 1))),qM 8 18]))))
def qbM:IC:=(.seq (.reg [qO 4 (.mov (.c (.int .i64 0)))]) (.seq (.seq (.reg [qM 6 0,qO 7 (.len (.t 6)),qO 8 (.mov (.c (.int .i64 0)))]) (.block 0 (.loop qbq))) (.seq (.reg [qO 4 (.mov (.c (.int .i64 (-1))))]) .ret)))
def qbI:List IRes:=[.t 4]
theorem qd0:chkF Tryz.prog Tryz.f40 qbM qbI 19=true:=by kernel_rfl
def qbs:IC:=(.seq (.reg [qO 4 (.mov (.c (.bool false)))]) (.seq (.reg [qM 5 0,qM 6 1,qO 7 (.call 40 [.t 5,.t 6]),qO 8 (.bin .geq (.t 7) (.c (.int .i64 0))),qM 4 8]) .ret))
def qbn:List IRes:=[.t 4]
theorem qdh:chkF Tryz.prog Tryz.f38 qbs qbn 9=true:=by kernel_rfl
def idxS (l:List (List UInt8)) (x:List UInt8) (k:Nat):Int:=if h:k < l.length then (if x=l[k] then k else idxS l x (k+1)) else -1
termination_by l.length - k
theorem qkM (l:List (List UInt8)) (x:List UInt8) (hl:l.length≤1000000000):PCall Tryz.prog E0 40 [.sl 1 (strE l),.str x] (·=int (idxS l x 0)):=by
 refine qaf mixed Tryz.func40 qd0 ?_
 simp only [a0,l0,OS.ao,zl,zt,zk,zp,zo,zq,zu,zd,zj,zm,qbM,qbI,ZZ,WW,Ze,reduceCtorEq,zd,ze,za,zf,zb]
 simp only [ZZ,WW,Ze,reduceCtorEq,zd,ze,za,zf,zb,qau]
 refine qag (fun n fr L=>∃ (k:Nat),k≤l.length∧n=l.length - k∧(idxS l x 0=idxS l x k)∧fr=[.p (.sl 1 (strE l)),.p (.str x),oo,oo,oo,oo,oo,.p (int (l.length:Nat)),.p (int (k:Nat)),oo,oo,oo,oo,oo,oo,oo,oo,oo,oo]∧L=[]) (l.length) _ [] (by simp only [ZZ,WW,Ze,reduceCtorEq,zd,ze,za,zf,zb,qau];try trivial) (by (simp only [ZZ,WW,Ze,reduceCtorEq,zd,ze,za,zf,zb];try trivial)) ⟨0,by omega,by omega,rfl,rfl,rfl⟩ ?_
 rintro n fr L ⟨k,hk,rfl,hf,rfl,rfl⟩
 simp only [qbq,ZZ,WW,Ze,reduceCtorEq,zd,ze,za,zf,zb]
 refine br ?_ ?_
 ·intro h
  have hlt:k < l.length:=by have:=of_decide_eq_true h;omega
  have hg:=qh4 (zr hlt)
  simp only [ZZ,WW,Ze,reduceCtorEq,zd,ze,za,zf,zb,hg,qau]
  ((repeat' (with_reducible apply And.intro))<;>try ((exact sc_)))
  refine br ?_ ?_
  ·intro h2
   have h2:x=l[k]:=of_decide_eq_true h2
   simp only [ZZ,WW,Ze,reduceCtorEq,zd,ze,za,zf,zb]
   rw [hf,idxS,dif_pos hlt,if_pos h2]
  ·intro h2
   have h2:¬ x=l[k]:=of_decide_eq_false h2
   simp only [ZZ,WW,Ze,reduceCtorEq,zd,ze,za,zf,zb]
   ((repeat' (with_reducible apply And.intro))<;>try ((exact sc_)))
   refine qae (l.length - (k+1)) _ [] (by omega) (by (simp only [ZZ,WW,Ze,reduceCtorEq,zd,ze,za,zf,zb];try trivial)) (by (simp only [ZZ,WW,Ze,reduceCtorEq,zd,ze,za,zf,zb];try trivial)) ⟨k+1,by omega,rfl,by rw [hf,idxS,dif_pos hlt,if_neg h2],rfl,rfl⟩
 ·intro h
  have hge:¬ k < l.length:=by have:=of_decide_eq_false h;omega
  simp only [ZZ,WW,Ze,reduceCtorEq,zd,ze,za,zf,zb]
  rw [hf,idxS,dif_neg hge]
theorem qtq (l:List (List UInt8)) (x:List UInt8):∀ (n k:Nat),l.length - k≤n→(0≤idxS l x k↔x∈l.drop k):=by
 intro n
 induction n with
 |zero=>
  intro k hk
  rw [idxS,dif_neg (by omega),yz (by omega)]
  simp
 |succ n ih=>
  intro k hk
  rw [idxS]
  split
  ·rename_i h
   rw [List.drop_eq_getElem_cons h,zI]
   split
   ·rename_i e;simp [e]
   ·rename_i e
    rw [ih (k+1) (by omega)]
    simp [e]
  ·rename_i h
   rw [yz (by omega)]
   simp
theorem qjz (l:List (List UInt8)) (x:List UInt8) (hl:l.length≤1000000000):PCall Tryz.prog E0 38 [.sl 1 (strE l),.str x] (·=.bool (decide (x∈l))):=by
 refine qaf mixed Tryz.func38 qdh ?_
 simp only [a0,l0,OS.ao,zl,zt,zk,zp,zo,zq,zu,zd,zj,zm,qbs,qbn,ZZ,WW,Ze,reduceCtorEq,zd,ze,za,zf,zb]
 refine use1 (qkM l x hl) rfl (.inl rfl) ?_
 simp only [ZZ,WW,Ze,reduceCtorEq,zd,ze,za,zf,zb]
 have:=qtq l x _ 0 (Nat.le_refl _)
 rw [List.drop_zero] at this
 simp only [this]
section
variable {E:Envt}
end
def qfI (l:List UInt8):Nat:=l.foldl (fun n c=>10 * n+(c.toNat - 48)) 0
def dd:Nat→Nat→List UInt8
 |0,_=>[]
 |f+1,u=>if u < 10 then [UInt8.ofNat (48+u)] else dd f (u / 10)++[UInt8.ofNat (48+u % 10)]
def D5:List Int:=[4,6,9,3,10]
theorem qg6 {P:Program} {w w':World} {n:String} {g:Nat} (hg:P.globalNamed n=some g) (hb:w'.heap[g]?=w.heap[g]?):w'.var? P n=w.var? P n:=by
 simp only [World.var?,hg,Option.bind_some,hb]
def E5:Envt where
 ok w:=E0.ok w∧Lib.TabIs Tryz.prog w "internal/strconv.uint64pow10" .u64 Lib.pow10Tab∧(∃ tp p,w.var? Tryz.prog "strconv.ErrSyntax" = some #[.iface tp p])∧(∃ tp p,w.var? Tryz.prog "strconv.ErrRange" = some #[.iface tp p])∧Lib.TabIs Tryz.prog w "strings.asciiSpace" .u8 Lib.asciiSpaceTab
 bl b:=E0.bl b∨b=3∨b=6∨b=7∨b=0
 mono w w' hb h:=⟨E0.mono w w' (fun b hbb=>hb b (.inl hbb)) h.1,(qg6 (by kernel_rfl) (hb _ (.inr (.inl rfl)))).trans h.2.1,by rw [qg6 (by kernel_rfl) (hb _ (.inr (.inr (.inl rfl))))];exact h.2.2.1,by rw [qg6 (by kernel_rfl) (hb _ (.inr (.inr (.inr (.inl rfl)))))];exact h.2.2.2.1,(qg6 (by kernel_rfl) (hb _ (.inr (.inr (.inr (.inr rfl)))))).trans h.2.2.2.2⟩
theorem up5 {f:FuncId} {args:List PV} {φ:PV→Prop} (h:PCall Tryz.prog E0 f args φ):PCall Tryz.prog E5 f args φ:=fun w U vs hU hE hEb hA=>h w U vs hU hE.1 (fun c hc=>hEb c (.inl hc)) hA
theorem qrP (w:World) (k:Nat) (os:Array Obj):Grow w (Sort.grow (w.drewN k) os) (fun _=>False):=⟨rfl,rfl,rfl,by simp [Sort.grow,World.drewN],fun b hb _=>by simp [Sort.grow,World.drewN,Array.getElem?_append_left hb]⟩
theorem qt6 (n:Int) (h0:-9223372036854775808≤n) (h1:n≤9223372036854775807):PCall Tryz.prog E5 17 [int n] (·=.str (Lib.itoa n)):=
 qbz rfl rfl fun w hE=>(Any.strconv_Itoa Tryz.layItoa n h0 h1 w hE.2.1).mono fun e w' h=>⟨h.1,by obtain ⟨k,os,rfl⟩:=h.2;exact qrP w k os⟩
def atB (s:List UInt8):Bool:=match Lib.atoiAll s with|.ok _=>true|_=>false
def atV (s:List UInt8):Int:=match Lib.atoiAll s with|.ok v=>v|.range=>Lib.atoiSat s|_=>0
theorem qqf (s:List UInt8) (hs:s.length≤1000000):PCall Tryz.prog E5 72 [.str s] (fun x=>∃ v,x=.tup [int (atV s),.raw v]∧nilI v=some (atB s)):=by
 intro w U vs hU hE hEb hA
 have:vs=[.string ⟨s.toArray⟩]:=(PRepL.valD rfl).1 hA
 subst this
 have hsz:(⟨s.toArray⟩:ByteArray).size≤1000000:=by rw [qfm];exact hs
 have hdt:(⟨s.toArray⟩:ByteArray).data.toList=s:=by simp
 unfold atV atB
 cases ha:Lib.atoiAll s with
 |ok n=>
  refine (Any.strconv_Atoi_ok Tryz.layAtoi ⟨s.toArray⟩ (by omega) n (by rw [hdt];exact ha) w).mono ?_
  rintro e w' ⟨rfl,hw⟩
  refine ⟨_,_,rfl,⟨.nilIface,rfl,rfl⟩,⟨[_,_],rfl,_,_,rfl,rfl,_,_,rfl,⟨rfl,rfl⟩,rfl⟩,?_⟩
  rcases hw with rfl|⟨t,rfl⟩
  ·exact Grow.refl _ _
  ·exact qcL (Lib.bytesWorld_below _ _ _)
 |range=>
  obtain ⟨tp,p,hv⟩:=hE.2.2.2.1
  refine (Any.strconv_Atoi_range_var Tryz.layAtoi ⟨s.toArray⟩ (by omega) (by rw [hdt];exact ha) tp p w hv).mono ?_
  rintro e w' ⟨N,rfl,_,_,hb⟩
  rw [hdt]
  exact ⟨_,_,rfl,⟨.iface _ _,rfl,rfl⟩,⟨[_,_],rfl,_,_,rfl,rfl,_,_,rfl,⟨rfl,rfl⟩,rfl⟩,qcL hb⟩
 |_=>
  obtain ⟨tp,p,hv⟩:=hE.2.2.1
  refine (Any.strconv_Atoi_syntax_var Tryz.layAtoi ⟨s.toArray⟩ (by omega) (by rw [hdt];exact ha) tp p w hv).mono ?_
  rintro e w' ⟨N,rfl,_,_,hb⟩
  exact ⟨_,_,rfl,⟨.iface _ _,rfl,rfl⟩,⟨[_,_],rfl,_,_,rfl,rfl,_,_,rfl,⟨rfl,rfl⟩,rfl⟩,qcL hb⟩
theorem qpw {w:World} {U:Nat→Prop} {b:Nat}:∀ (l:List (List UInt8)) (off:Nat),(∀ i x,l[i]?=some x→w.cell? ⟨b,off+i,none⟩=some (.string ⟨x.toArray⟩))→PRepE w U b 1 off (strE l)
 |[],off,h=>trivial
 |x :: r,off,h=>by
  refine ⟨rfl,⟨⟨.string ⟨x.toArray⟩,by simpa using h 0 _ rfl,rfl,rfl⟩,trivial⟩,qpw r (off+1) fun i u hu=>?_⟩
  have:=h (i+1) u (by simpa using hu)
  rwa [show off+(i+1)=off+1+i from by omega] at this
theorem qsD (s:List UInt8) (hs:s.length≤1000000) (ha:s.all (fun b=>decide (b.toNat < 128))=true):PCall Tryz.prog E5 53 [.str s] (·=.sl 1 (strE (Lib.fields s))):=by
 intro w U vs hU hE hEb hA
 have:vs=[.string ⟨s.toArray⟩]:=(PRepL.valD rfl).1 hA
 subst this
 have hdt:(⟨s.toArray⟩:ByteArray).data.toList=s:=by simp
 refine (Any.strings_Fields_laid Tryz.layFields ⟨s.toArray⟩ w (by rw [qfm];omega) (fun j b hb=>of_decide_eq_true (List.all_eq_true.1 ha b (zD (by simpa using hb)))) hE.2.2.2.2).mono ?_
 rw [hdt]
 rintro e w' ⟨rfl,rfl⟩
 refine ⟨_,_,rfl,rfl,?_,⟨rfl,rfl,rfl,by simp,fun k hk _=>Lib.alloc_old w _ k hk⟩⟩
 refine ⟨some ⟨w.heap.size,0,none⟩,(Lib.fields s).length,by rw [qau],by rw [qau];exact Nat.le_refl _,fun _=>⟨w.heap.size,0,rfl,by simp,fun h=>by have:=hU _ h;omega,?_⟩⟩
 refine qpw _ 0 fun i x hx=>?_
 rw [Lib.cell_of_heap (heap_alloc_new w _)]
 simp [hx]
section
variable {E:Envt}
end
theorem qh1:∀ u:List UInt8,u.all digB=true→qfI u < 10 ^ u.length:=by
 have key:∀ (u:List UInt8) (a:Nat),u.all digB=true→u.foldl (fun n c=>10 * n+(c.toNat - 48)) a < (a+1) * 10 ^ u.length:=by
  intro u
  induction u with
  |nil=>intro a _;simp
  |cons c r ih=>
   intro a h
   simp only [List.all_cons,zh] at h
   have hc:=h.1
   simp only [digB,zh,decide_eq_true_eq] at hc
   simp only [List.foldl_cons]
   refine Nat.lt_of_lt_of_le (ih _ h.2) ?_
   rw [zk,Nat.pow_succ,Nat.mul_comm (10 ^ r.length) 10,← Nat.mul_assoc]
   exact Nat.mul_le_mul_right _ (by omega)
 intro u h
 have:=key u 0 h
 simpa [qfI] using this
section
variable {E:Envt}
theorem qsp {p:UInt8→Bool} {s:List UInt8} {j:Nat} (h:j < s.length):(s.take (j+1)).all p=((s.take j).all p && p (s.getD j 0)):=by
 rw [List.take_succ_eq_append_getElem h,List.all_append]
 simp [List.getD,h]
end
end Go.Proofs.YtjgdjinhkgjpeaaGreatDoor
