import Derived.Test.YtinffddgojhdfaaGreatDoorZ11
import Derived.Test.YtinffddgojhdfaaGreatDoorZ9
import Derived.Test.YtinffddgojhdfaaGreatDoorZ7
import Derived.Test.YtinffddgojhdfaaGreatDoorZ10
set_option linter.unusedVariables false
set_option linter.unusedSimpArgs false
set_option linter.defProp false
namespace Go.Proofs.YtinffddgojhdfaaGreatDoor
open Go.RowKit
def ir_chasemake_Stream_SpoiledDeeds_L0:IC:=(.seq (.reg [qO 141 (.bin .lss (.t 140) (.t 139))]) (.seq (.cond (.t 141) .skip (.exit 1)) (.seq (.block 2 (.seq (.reg [qM 142 140,qO 143 (.ixa 12 (.t 138) (.t 140)),qO 144 (.ld 12 true (.t 143)),qO 10 (.alc 45 [.str [],.int .i64 0,.int .i64 0,.int .i64 0,.str [],.str [],.str [],.int .i64 0,.int .i64 0,.str [],.int .i64 0,.str []]),qM 9 142,⟨none,.st 12 (.t 10) (.t 144),none⟩]) (.seq (.reg [qM 145 5,qM 146 9,qM 147 8,qO 148 (.fla 0 (.t 10)),qO 149 (.fla 0 (.t 148)),qO 150 (.ld 1 false (.t 149)),qO 151 (.mpl false (.str []) (.t 147) (.t 150)),qO 152 (.ld 12 true (.t 10)),qO 153 (.call 39 [.t 151,.t 152]),qO 154 (.ixa 12 (.t 145) (.t 146)),qO 155 (.fla 11 (.t 154)),⟨none,.st 1 (.t 155) (.t 153),none⟩]) (.drg [qM 156 8,qO 157 (.fla 0 (.t 10)),qO 158 (.fla 0 (.t 157)),qO 159 (.ldn 137 1 false (.t 158)),qM 160 5,qM 161 9,qO 162 (.ixa 12 (.t 160) (.t 161)),qO 163 (.fla 11 (.t 162)),qO 164 (.ldn 137 1 false (.t 163)),⟨none,.mpk 137 (.t 156) (.t 159) (.t 164),none⟩])))) (.reg [qO 165 (.bin .add (.t 140) (.c (.int .i64 1))),qM 140 165]))))
def ir_chasemake_Stream_SpoiledDeeds:IC:=(.seq (.reg [qO 4 (.mov (.c (.nl 12)))]) (.seq (.reg [qM 11 1,qO 12 (.call 35 [.t 11]),qM 5 12]) (.seq (.seq (.reg [qM 13 5,qO 14 (.len (.t 13)),qO 15 (.bin .eql (.t 14) (.c (.int .i64 0)))]) (.cond (.t 15) (.seq (.reg [qM 16 5,qM 17 0,qO 18 (.bsl 1 [.c (.str [97]),.c (.str [65])]),qO 19 (.call 36 [.t 17,.t 18]),qM 20 0,qO 21 (.call 16 [.t 20,.c (.int .i64 0),.c (.int .i64 2)]),⟨none,.fz (.t 19),none⟩,⟨none,.fz (.t 21),none⟩,qO 22 (.bld [.str [],.int .i64 0] [(0,1,.t 19),(1,1,.t 21)]),qO 23 (.bld [.str [],.int .i64 0,.int .i64 0,.int .i64 0,.str [],.str [],.str [],.int .i64 0,.int .i64 0,.str [],.int .i64 0,.str []] [(0,2,.t 22),(3,1,.c (.int .i64 2)),(4,1,.c (.str [105,97])),(6,1,.c (.str [104,111,116]))]),qO 24 (.bsl 12 [.t 23]),qO 25 (.app 45 12 144 (.t 16) (.t 24)),qM 4 25]) .ret) .skip)) (.seq (.reg [qM 26 0,qM 27 5,qO 28 (.len (.t 27)),qO 29 (.call 17 [.t 26,.t 28]),qM 6 29]) (.seq (.reg [qM 30 5,qM 31 6,qO 32 (.ixa 12 (.t 30) (.t 31)),qM 7 32]) (.seq (.seq (.reg [qM 33 0,qO 34 (.call 17 [.t 33,.c (.int .i64 11)])]) (.block 0 (.seq (.reg [qO 41 (.bin .eql (.t 34) (.c (.int .i64 0))),qM 40 41]) (.cond (.t 40) (.reg [qM 42 7,qM 43 0,qO 44 (.bsl 1 [.c (.str []),.c (.str [97]),.c (.str [122]),.c (.str [65])]),qO 45 (.call 36 [.t 43,.t 44]),qO 46 (.nck (.t 42)),qO 47 (.fla 0 (.t 46)),qO 48 (.fla 0 (.t 47)),⟨none,.st 1 (.t 48) (.t 45),none⟩]) (.seq (.reg [qO 50 (.bin .eql (.t 34) (.c (.int .i64 1))),qM 49 50]) (.cond (.t 49) (.drg [qM 51 7,qO 52 (.nck (.t 51)),qO 53 (.fla 0 (.t 52)),qO 54 (.fla 1 (.t 53)),qO 55 (.ldl 1 false (.t 54)),qM 56 0,qO 57 (.dcall true 16 [.t 56,.c (.int .i64 (-1)),.c (.int .i64 1)]),qO 58 (.bin .add (.t 55) (.t 57)),qO 59 (.nck (.t 51)),qO 60 (.fla 0 (.t 59)),qO 61 (.fla 1 (.t 60)),⟨none,.st 1 (.t 61) (.t 58),none⟩]) (.seq (.reg [qO 63 (.bin .eql (.t 34) (.c (.int .i64 2))),qM 62 63]) (.cond (.t 62) (.reg [qM 64 7,qM 65 0,qM 66 7,qO 67 (.nck (.t 66)),qO 68 (.fla 2 (.t 67)),qO 69 (.ld 1 false (.t 68)),qO 70 (.bin .add (.t 69) (.c (.int .i64 1))),qO 71 (.bsl 1 [.c (.int .i64 (-1)),.c (.int .i64 5761440),.t 70]),qO 72 (.call 37 [.t 65,.t 71]),qO 73 (.nck (.t 64)),qO 74 (.fla 2 (.t 73)),⟨none,.st 1 (.t 74) (.t 72),none⟩]) (.seq (.reg [qO 76 (.bin .eql (.t 34) (.c (.int .i64 3))),qM 75 76]) (.cond (.t 75) (.reg [qM 77 7,qM 78 0,qO 79 (.call 16 [.t 78,.c (.int .i64 0),.c (.int .i64 7)]),qO 80 (.nck (.t 77)),qO 81 (.fla 3 (.t 80)),⟨none,.st 1 (.t 81) (.t 79),none⟩]) (.seq (.reg [qO 83 (.bin .eql (.t 34) (.c (.int .i64 4))),qM 82 83]) (.cond (.t 82) (.reg [qM 84 7,qM 85 0,qO 86 (.bsl 1 [.c (.str []),.c (.str [105,98]),.c (.str [73])]),qO 87 (.call 36 [.t 85,.t 86]),qO 88 (.nck (.t 84)),qO 89 (.fla 4 (.t 88)),⟨none,.st 1 (.t 89) (.t 87),none⟩]) (.seq (.reg [qO 91 (.bin .eql (.t 34) (.c (.int .i64 5))),qM 90 91]) (.cond (.t 90) (.reg [qM 92 7,qM 93 0,qO 94 (.bsl 1 [.c (.str []),.c (.str [119,97,110,116]),.c (.str [70])]),qO 95 (.call 36 [.t 93,.t 94]),qO 96 (.nck (.t 92)),qO 97 (.fla 5 (.t 96)),⟨none,.st 1 (.t 97) (.t 95),none⟩]) (.seq (.reg [qO 99 (.bin .eql (.t 34) (.c (.int .i64 6))),qM 98 99]) (.cond (.t 98) (.reg [qM 100 7,qM 101 0,qO 102 (.bsl 1 [.c (.str []),.c (.str [121,101,115]),.c (.str [32,120])]),qO 103 (.call 36 [.t 101,.t 102]),qO 104 (.nck (.t 100)),qO 105 (.fla 6 (.t 104)),⟨none,.st 1 (.t 105) (.t 103),none⟩]) (.seq (.reg [qO 107 (.bin .eql (.t 34) (.c (.int .i64 7))),qM 106 107]) (.cond (.t 106) (.reg [qM 108 7,qM 109 0,qO 110 (.call 17 [.t 109,.c (.int .i64 3)]),qM 111 0,qO 112 (.call 17 [.t 111,.c (.int .i64 9)]),⟨none,.fz (.t 110),none⟩,⟨none,.fz (.t 112),none⟩,qO 113 (.bld [.int .i64 0,.int .i64 0] [(0,1,.t 110),(1,1,.t 112)]),qO 114 (.nck (.t 108)),qO 115 (.fla 7 (.t 114)),⟨none,.st 2 (.t 115) (.t 113),none⟩]) (.seq (.reg [qO 117 (.bin .eql (.t 34) (.c (.int .i64 8))),qM 116 117]) (.cond (.t 116) (.reg [qM 118 7,qM 119 0,qO 120 (.bsl 1 [.c (.str []),.c (.str [97]),.c (.str [98])]),qO 121 (.call 36 [.t 119,.t 120]),qM 122 0,qO 123 (.call 17 [.t 122,.c (.int .i64 4)]),⟨none,.fz (.t 121),none⟩,⟨none,.fz (.t 123),none⟩,qO 124 (.bld [.str [],.int .i64 0] [(0,1,.t 121),(1,1,.t 123)]),qO 125 (.nck (.t 118)),qO 126 (.fla 9 (.t 125)),⟨none,.st 2 (.t 126) (.t 124),none⟩]) (.seq (.reg [qO 128 (.bin .eql (.t 34) (.c (.int .i64 9))),qM 127 128]) (.cond (.t 127) (.reg [qM 129 7,qM 130 0,qO 131 (.bsl 1 [.c (.str []),.c (.str [48,49,50,51,52,53,54,55,56,57,97,98,99,100,101,102])]),qO 132 (.call 36 [.t 130,.t 131]),qO 133 (.nck (.t 129)),qO 134 (.fla 11 (.t 133)),⟨none,.st 1 (.t 134) (.t 132),none⟩]) (.reg [qM 35 5,qM 36 6,qM 37 6,qO 38 (.bin .add (.t 37) (.c (.int .i64 1))),qO 39 (.call 38 [.t 35,.t 36,.t 38]),qM 5 39]))))))))))))))))))))))) (.cut (.seq (.seq (.reg [qM 135 0,qO 136 (.call 7 [.t 135,.c (.int .i64 2)])]) (.cond (.t 136) (.seq (.reg [qO 137 (.mkm 9 9),qM 8 137]) (.seq (.reg [qM 138 5,qO 139 (.len (.t 138)),qO 140 (.mov (.c (.int .i64 0)))]) (.block 1 (.loop ir_chasemake_Stream_SpoiledDeeds_L0)))) .skip)) (.cut (.seq (.reg [qM 166 5,qM 4 166]) .ret))))))))))
def rs_chasemake_Stream_SpoiledDeeds:List IRes:=[.t 4]
theorem ck_chasemake_Stream_SpoiledDeeds:chkF Tryz.prog Tryz.f8 ir_chasemake_Stream_SpoiledDeeds rs_chasemake_Stream_SpoiledDeeds 167=true:=by kernel_rfl
theorem ddE_set (o:List Dd) (j:Nat) (d:Dd):(ddE o).set j (ddC d)=ddE (o.set j d):=by simp [ddE]
theorem ddE_del (o:List Dd) (j:Nat):(ddE o).take j++(ddE o).drop (j+1)=ddE (o.take j++o.drop (j+1)):=by simp [ddE,List.map_take,List.map_drop]
theorem spB {q:List Dd} (h:DdsB q) {i:Nat} {d:Dd} (hd:DdB d):DdsB (q.set i d):=fun x hx=>by
 rcases List.mem_or_eq_of_mem_set hx with hx|rfl
 ·exact h x hx
 ·exact hd
theorem spK {kv:List (List UInt8×PV)} (h:∀ s:List UInt8,∃ b:List UInt8,mpD kv s (.str [])=.str b∧b.length≤1000) {k v:List UInt8} (hv:v.length≤1000) (s:List UInt8):∃ b:List UInt8,mpD (mpS kv k (.str v)) s (.str [])=.str b∧b.length≤1000:=by
 unfold mpD
 rw [mpF_mpS]
 by_cases e:k=s
 ·rw [if_pos (by first|exact e|exact e.symm)]
  exact ⟨v,rfl,hv⟩
 ·rw [if_neg (by first|exact e|exact fun h=>e h.symm)]
  exact h s
def SpN (l:List Int) (k:Nat) (fr:List AV) (L:Objs):Prop:=∃ (q:List Dd) (k2:Nat),DdsB q∧q.length≤2001∧k2≤k+10∧fr=[.adr (.b 0) 0,oo,oo,oo,oo,.row (.l 12),oo,oo,oo,oo,oo,oo,oo,oo,oo,oo,oo,oo,oo,oo,oo,oo,oo,oo,oo,oo,oo,oo,oo,oo,oo,oo,oo,oo,oo,oo,oo,oo,oo,oo,oo,oo,oo,oo,oo,oo,oo,oo,oo,oo,oo,oo,oo,oo,oo,oo,oo,oo,oo,oo,oo,oo,oo,oo,oo,oo,oo,oo,oo,oo,oo,oo,oo,oo,oo,oo,oo,oo,oo,oo,oo,oo,oo,oo,oo,oo,oo,oo,oo,oo,oo,oo,oo,oo,oo,oo,oo,oo,oo,oo,oo,oo,oo,oo,oo,oo,oo,oo,oo,oo,oo,oo,oo,oo,oo,oo,oo,oo,oo,oo,oo,oo,oo,oo,oo,oo,oo,oo,oo,oo,oo,oo,oo,oo,oo,oo,oo,oo,oo,oo,oo,oo,oo,oo,oo,oo,oo,oo,oo,oo,oo,oo,oo,oo,oo,oo,oo,oo,oo,oo,oo,oo,oo,oo,oo,oo,oo]∧L=[(.b 0,.box ((stm l k2).map .p) T),(.l 12,.row (ddE q) tDd 12 true)]
def SpM (l:List Int) (k:Nat) (fr:List AV) (L:Objs):Prop:=∃ (q:List Dd) (k2:Nat),DdsB q∧q.length≤2001∧k2≤k+5∧fr=[.adr (.b 0) 0,oo,oo,oo,oo,.row (.l 12),oo,oo,oo,oo,oo,oo,oo,oo,oo,oo,oo,oo,oo,oo,oo,oo,oo,oo,oo,oo,oo,oo,oo,oo,oo,oo,oo,oo,oo,oo,oo,oo,oo,oo,oo,oo,oo,oo,oo,oo,oo,oo,oo,oo,oo,oo,oo,oo,oo,oo,oo,oo,oo,oo,oo,oo,oo,oo,oo,oo,oo,oo,oo,oo,oo,oo,oo,oo,oo,oo,oo,oo,oo,oo,oo,oo,oo,oo,oo,oo,oo,oo,oo,oo,oo,oo,oo,oo,oo,oo,oo,oo,oo,oo,oo,oo,oo,oo,oo,oo,oo,oo,oo,oo,oo,oo,oo,oo,oo,oo,oo,oo,oo,oo,oo,oo,oo,oo,oo,oo,oo,oo,oo,oo,oo,oo,oo,oo,oo,oo,oo,oo,oo,oo,oo,oo,oo,oo,oo,oo,oo,oo,oo,oo,oo,oo,oo,oo,oo,oo,oo,oo,oo,oo,oo,oo,oo,oo,oo,oo,oo]∧L=[(.b 0,.box ((stm l k2).map .p) T),(.l 12,.row (ddE q) tDd 12 true)]
set_option maxRecDepth 100000 in
set_option maxHeartbeats 4000000 in
theorem SpoiledDeeds_ok (l:List Int) (k:Nat) (o:List Dd) (hk:k≤900000) (hl:l.length≤9223372036854775807) (hR:RD 100 o) :
  SCall Tryz.prog ED 8 T (stm l k) [.sl 12 (ddE o)] (fun x cs'=>∃ (o':List Dd) (k':Nat),x=.sl 12 (ddE o')∧DdsB o'∧o'.length≤2001∧cs'=stm l k'∧k'≤k+10):=by
 have hol:=hR.len
 unfold SCall
 refine gcallP mixed Tryz.func8 ck_chasemake_Stream_SpoiledDeeds ?_
 simp only [a0,l0,OS.ao,List.map_cons,List.map_nil,List.length_cons,List.length_nil,List.cons_append,List.nil_append,Nat.reduceSub,Nat.reduceAdd,List.replicate_succ,List.replicate_zero,ir_chasemake_Stream_SpoiledDeeds,rs_chasemake_Stream_SpoiledDeeds,ZZ,WW,Ze,reduceCtorEq,Nat.reduceAdd,Nat.reduceMul,Nat.reduceLeDiff,Nat.reduceLT,Nat.reduceEqDiff]
 refine useF (CloneDd_ok (ddE o) (by rw [ddE_len];omega)) rfl rfl ?_
 rintro es rfl
 simp only [ZZ,WW,Ze,ok_Ks,reduceCtorEq,Nat.reduceAdd,Nat.reduceMul,Nat.reduceLeDiff,Nat.reduceLT,Nat.reduceEqDiff,ddE_len]
 refine br ?_ ?_
 ·intro h0
  have h0:o=[]:=by have:=of_decide_eq_true h0;exact List.eq_nil_of_length_eq_zero (by omega)
  subst h0
  simp only [ZZ,WW,Ze,ok_Ks,reduceCtorEq,Nat.reduceAdd,Nat.reduceMul,Nat.reduceLeDiff,Nat.reduceLT,Nat.reduceEqDiff,ddE_nil]
  refine useS (one_ok l k [[97],[65]] (by omega) hl (by simp) (by simp)) rfl rfl rfl zE_ ?_
  rintro x cs' ⟨u,rfl,hu,rfl⟩
  have hu:u.length≤1000:=by simp only [List.mem_cons,List.not_mem_nil,or_false] at hu;rcases hu with rfl|rfl<;>decide
  simp only [ZZ,WW,Ze,ok_Ks,reduceCtorEq,Nat.reduceAdd,Nat.reduceMul,Nat.reduceLeDiff,Nat.reduceLT,Nat.reduceEqDiff]
  refine useS (Range_ok l (k+1) 0 2 (by omega) hl (by decide) (by decide) (by decide)) rfl rfl rfl zE_ ?_
  rintro x cs' ⟨v,rfl,hv1,hv2,rfl⟩
  simp only [ZZ,WW,Ze,ok_Ks,reduceCtorEq,Nat.reduceAdd,Nat.reduceMul,Nat.reduceLeDiff,Nat.reduceLT,Nat.reduceEqDiff,ddE_nil]
  exact fin_S (stm l (k+1+1)) rfl ⟨[⟨u,v,0,2,[105,97],[],[104,111,116],0,0,[],0,[]⟩],_,rfl,(fun x hx=>by rw [List.mem_singleton] at hx;subst hx;exact ⟨hu,by simp,by simp,by simp,by simp,by simp,⟨by dsimp only;omega,by dsimp only;omega⟩,by simp,by simp,by simp,by simp,by simp⟩),by simp,rfl,by omega⟩
 intro h0
 have h0:0 < o.length:=by have:=of_decide_eq_false h0;omega
 simp only [ZZ,WW,Ze,ok_Ks,reduceCtorEq,Nat.reduceAdd,Nat.reduceMul,Nat.reduceLeDiff,Nat.reduceLT,Nat.reduceEqDiff,ddE_len]
 refine useS (Next_ok l k (o.length:Nat) (by omega) hl (by omega)) rfl rfl rfl zE_ ?_
 rintro x cs' ⟨y1,rfl,rfl⟩
 obtain ⟨j,hj,hy1⟩:=below_idx y1 o.length (by omega)
 rw [hy1]
 obtain ⟨d,hd⟩:∃ d,o[j]?=some d:=⟨_,List.getElem?_eq_getElem hj⟩
 have hg:=ddE_get hd
 have dB:=hR.b.get hd
 have dt:=hR.t d (List.mem_of_getElem? hd)
 have dn:=hR.n d (List.mem_of_getElem? hd)
 have hdel:DdsB (o.take j++o.drop (j+1)):=fun x hx=>hR.b x ((List.mem_append.1 hx).elim List.mem_of_mem_take List.mem_of_mem_drop)
 have hset:∀ d':Dd,DdB d'→DdsB (o.set j d'):=fun d' h' x hx=>by
  rcases List.mem_or_eq_of_mem_set hx with hx|rfl
  ·exact hR.b x hx
  ·exact h'
 simp only [ZZ,WW,Ze,ok_Ks,reduceCtorEq,Nat.reduceAdd,Nat.reduceMul,Nat.reduceLeDiff,Nat.reduceLT,Nat.reduceEqDiff,hg,ddE_len]
 refine ⟨⟨by omega,by omega⟩,?_⟩
 refine useS (Next_ok l (k+1) 11 (by omega) hl (by decide)) rfl rfl rfl zE_ ?_
 rintro x cs' ⟨y2,rfl,rfl⟩
 generalize below y2 11=w
 simp only [ZZ,WW,Ze,ok_Ks,reduceCtorEq,Nat.reduceAdd,Nat.reduceMul,Nat.reduceLeDiff,Nat.reduceLT,Nat.reduceEqDiff]
 refine br_joinB (SpM l k) ?_ ?_ ?_
 ·intro _
  simp only [ZZ,WW,Ze,ok_Ks,reduceCtorEq,Nat.reduceAdd,Nat.reduceMul,Nat.reduceLeDiff,Nat.reduceLT,Nat.reduceEqDiff]
  refine useS (one_ok l (k+1+1) [[],[97],[122],[65]] (by omega) hl (by simp) (by simp)) rfl rfl rfl zE_ ?_
  rintro x cs' ⟨u,rfl,hu,rfl⟩
  have hu:u.length≤1000:=by simp only [List.mem_cons,List.not_mem_nil,or_false] at hu;rcases hu with rfl|rfl|rfl|rfl<;>decide
  simp only [ZZ,WW,Ze,ok_Ks,reduceCtorEq,Nat.reduceAdd,Nat.reduceMul,Nat.reduceLeDiff,Nat.reduceLT,Nat.reduceEqDiff,hg,ddE_len,ddC]
  refine ⟨hj,?_⟩
  exact to_mid [.adr (.b 0) 0,oo,oo,oo,oo,.row (.l 12),oo,oo,oo,oo,oo,oo,oo,oo,oo,oo,oo,oo,oo,oo,oo,oo,oo,oo,oo,oo,oo,oo,oo,oo,oo,oo,oo,oo,oo,oo,oo,oo,oo,oo,oo,oo,oo,oo,oo,oo,oo,oo,oo,oo,oo,oo,oo,oo,oo,oo,oo,oo,oo,oo,oo,oo,oo,oo,oo,oo,oo,oo,oo,oo,oo,oo,oo,oo,oo,oo,oo,oo,oo,oo,oo,oo,oo,oo,oo,oo,oo,oo,oo,oo,oo,oo,oo,oo,oo,oo,oo,oo,oo,oo,oo,oo,oo,oo,oo,oo,oo,oo,oo,oo,oo,oo,oo,oo,oo,oo,oo,oo,oo,oo,oo,oo,oo,oo,oo,oo,oo,oo,oo,oo,oo,oo,oo,oo,oo,oo,oo,oo,oo,oo,oo,oo,oo,oo,oo,oo,oo,oo,oo,oo,oo,oo,oo,oo,oo,oo,oo,oo,oo,oo,oo,oo,oo,oo,oo,oo,oo] [(.b 0,.box ((stm l (k+1+1+1)).map .p) T),(.l 12,.row (ddE (o.set j { d with site:=u })) tDd 12 true)] (by (simp only [ZZ,WW,Ze,ok_Ks,reduceCtorEq,Nat.reduceAdd,Nat.reduceMul,Nat.reduceLeDiff,Nat.reduceLT,Nat.reduceEqDiff];try trivial)) (by simp only [ZZ,WW,Ze,ok_Ks,reduceCtorEq,Nat.reduceAdd,Nat.reduceMul,Nat.reduceLeDiff,Nat.reduceLT,Nat.reduceEqDiff,hg,ddC];exact congrArg (fun z=>some (AO.row z tDd 12 true)) (ddE_set o j { d with site:=u })) ⟨_,_,hset { d with site:=u } { dB with b1:=hu },by simp;omega,by omega,rfl,rfl⟩
 ·intro _
  simp only [ZZ,WW,Ze,ok_Ks,reduceCtorEq,Nat.reduceAdd,Nat.reduceMul,Nat.reduceLeDiff,Nat.reduceLT,Nat.reduceEqDiff]
  refine br ?_ ?_
  ·intro _
   simp only [ZZ,WW,Ze,ok_Ks,reduceCtorEq,Nat.reduceAdd,Nat.reduceMul,Nat.reduceLeDiff,Nat.reduceLT,Nat.reduceEqDiff]
   refine drg0 ?_
   simp only [ZZ,WW,Ze,ok_Ks,reduceCtorEq,Nat.reduceAdd,Nat.reduceMul,Nat.reduceLeDiff,Nat.reduceLT,Nat.reduceEqDiff,hg,ddE_len,ddC]
   refine ⟨hj,?_⟩
   refine useD (Range_ok l (k+1+1) (-1) 1 (by omega) hl (by decide) (by decide) (by decide)) ⟨_,_,0,rfl,by decide,by decide,rfl⟩ rfl rfl rfl zE_ (fun _=>⟨0,rfl⟩) ?_
   rintro x cs' ⟨u,rfl,hu1,hu2,rfl⟩
   simp only [ZZ,WW,Ze,ok_Ks,reduceCtorEq,Nat.reduceAdd,Nat.reduceMul,Nat.reduceLeDiff,Nat.reduceLT,Nat.reduceEqDiff,hg,ddE_len,ddC]
   refine ⟨i64_of (by omega) (by omega),hj,?_⟩
   exact to_mid [.adr (.b 0) 0,oo,oo,oo,oo,.row (.l 12),oo,oo,oo,oo,oo,oo,oo,oo,oo,oo,oo,oo,oo,oo,oo,oo,oo,oo,oo,oo,oo,oo,oo,oo,oo,oo,oo,oo,oo,oo,oo,oo,oo,oo,oo,oo,oo,oo,oo,oo,oo,oo,oo,oo,oo,oo,oo,oo,oo,oo,oo,oo,oo,oo,oo,oo,oo,oo,oo,oo,oo,oo,oo,oo,oo,oo,oo,oo,oo,oo,oo,oo,oo,oo,oo,oo,oo,oo,oo,oo,oo,oo,oo,oo,oo,oo,oo,oo,oo,oo,oo,oo,oo,oo,oo,oo,oo,oo,oo,oo,oo,oo,oo,oo,oo,oo,oo,oo,oo,oo,oo,oo,oo,oo,oo,oo,oo,oo,oo,oo,oo,oo,oo,oo,oo,oo,oo,oo,oo,oo,oo,oo,oo,oo,oo,oo,oo,oo,oo,oo,oo,oo,oo,oo,oo,oo,oo,oo,oo,oo,oo,oo,oo,oo,oo,oo,oo,oo,oo,oo,oo] [(.b 0,.box ((stm l (k+1+1+1)).map .p) T),(.l 12,.row (ddE (o.set j { d with no:=d.no+u })) tDd 12 true)] (by (simp only [ZZ,WW,Ze,ok_Ks,reduceCtorEq,Nat.reduceAdd,Nat.reduceMul,Nat.reduceLeDiff,Nat.reduceLT,Nat.reduceEqDiff];try trivial)) (by simp only [ZZ,WW,Ze,ok_Ks,reduceCtorEq,Nat.reduceAdd,Nat.reduceMul,Nat.reduceLeDiff,Nat.reduceLT,Nat.reduceEqDiff,hg,ddC];exact congrArg (fun z=>some (AO.row z tDd 12 true)) (ddE_set o j { d with no:=d.no+u })) ⟨_,_,hset { d with no:=d.no+u } { dB with c1:=⟨by show _≤d.no+u;omega,by show d.no+u≤_;omega⟩ },by simp;omega,by omega,rfl,rfl⟩
  intro _
  simp only [ZZ,WW,Ze,ok_Ks,reduceCtorEq,Nat.reduceAdd,Nat.reduceMul,Nat.reduceLeDiff,Nat.reduceLT,Nat.reduceEqDiff]
  refine br ?_ ?_
  ·intro _
   simp only [ZZ,WW,Ze,ok_Ks,reduceCtorEq,Nat.reduceAdd,Nat.reduceMul,Nat.reduceLeDiff,Nat.reduceLT,Nat.reduceEqDiff]
   simp only [ZZ,WW,Ze,ok_Ks,reduceCtorEq,Nat.reduceAdd,Nat.reduceMul,Nat.reduceLeDiff,Nat.reduceLT,Nat.reduceEqDiff,hg,ddE_len,ddC]
   refine ⟨hj,i64_of (by omega) (by omega),?_⟩
   refine useS (Pick_ok l (k+1+1) [-1,5761440,d.tm+1] (by omega) hl (by simp) (by simp)) rfl rfl rfl zE_ ?_
   rintro x cs' ⟨u,rfl,hu,rfl⟩
   have hu:-1000000001≤u∧u≤1000000001:=by simp only [List.mem_cons,List.not_mem_nil,or_false] at hu;omega
   simp only [ZZ,WW,Ze,ok_Ks,reduceCtorEq,Nat.reduceAdd,Nat.reduceMul,Nat.reduceLeDiff,Nat.reduceLT,Nat.reduceEqDiff,hg,ddE_len,ddC]
   refine ⟨hj,?_⟩
   exact to_mid [.adr (.b 0) 0,oo,oo,oo,oo,.row (.l 12),oo,oo,oo,oo,oo,oo,oo,oo,oo,oo,oo,oo,oo,oo,oo,oo,oo,oo,oo,oo,oo,oo,oo,oo,oo,oo,oo,oo,oo,oo,oo,oo,oo,oo,oo,oo,oo,oo,oo,oo,oo,oo,oo,oo,oo,oo,oo,oo,oo,oo,oo,oo,oo,oo,oo,oo,oo,oo,oo,oo,oo,oo,oo,oo,oo,oo,oo,oo,oo,oo,oo,oo,oo,oo,oo,oo,oo,oo,oo,oo,oo,oo,oo,oo,oo,oo,oo,oo,oo,oo,oo,oo,oo,oo,oo,oo,oo,oo,oo,oo,oo,oo,oo,oo,oo,oo,oo,oo,oo,oo,oo,oo,oo,oo,oo,oo,oo,oo,oo,oo,oo,oo,oo,oo,oo,oo,oo,oo,oo,oo,oo,oo,oo,oo,oo,oo,oo,oo,oo,oo,oo,oo,oo,oo,oo,oo,oo,oo,oo,oo,oo,oo,oo,oo,oo,oo,oo,oo,oo,oo,oo] [(.b 0,.box ((stm l (k+1+1+1)).map .p) T),(.l 12,.row (ddE (o.set j { d with tm:=u })) tDd 12 true)] (by (simp only [ZZ,WW,Ze,ok_Ks,reduceCtorEq,Nat.reduceAdd,Nat.reduceMul,Nat.reduceLeDiff,Nat.reduceLT,Nat.reduceEqDiff];try trivial)) (by simp only [ZZ,WW,Ze,ok_Ks,reduceCtorEq,Nat.reduceAdd,Nat.reduceMul,Nat.reduceLeDiff,Nat.reduceLT,Nat.reduceEqDiff,hg,ddC];exact congrArg (fun z=>some (AO.row z tDd 12 true)) (ddE_set o j { d with tm:=u })) ⟨_,_,hset { d with tm:=u } { dB with c2:=⟨by dsimp only;omega,by dsimp only;omega⟩ },by simp;omega,by omega,rfl,rfl⟩
  intro _
  simp only [ZZ,WW,Ze,ok_Ks,reduceCtorEq,Nat.reduceAdd,Nat.reduceMul,Nat.reduceLeDiff,Nat.reduceLT,Nat.reduceEqDiff]
  refine br ?_ ?_
  ·intro _
   simp only [ZZ,WW,Ze,ok_Ks,reduceCtorEq,Nat.reduceAdd,Nat.reduceMul,Nat.reduceLeDiff,Nat.reduceLT,Nat.reduceEqDiff]
   refine useS (Range_ok l (k+1+1) 0 7 (by omega) hl (by decide) (by decide) (by decide)) rfl rfl rfl zE_ ?_
   rintro x cs' ⟨u,rfl,hu1,hu2,rfl⟩
   simp only [ZZ,WW,Ze,ok_Ks,reduceCtorEq,Nat.reduceAdd,Nat.reduceMul,Nat.reduceLeDiff,Nat.reduceLT,Nat.reduceEqDiff,hg,ddE_len,ddC]
   refine ⟨hj,?_⟩
   exact to_mid [.adr (.b 0) 0,oo,oo,oo,oo,.row (.l 12),oo,oo,oo,oo,oo,oo,oo,oo,oo,oo,oo,oo,oo,oo,oo,oo,oo,oo,oo,oo,oo,oo,oo,oo,oo,oo,oo,oo,oo,oo,oo,oo,oo,oo,oo,oo,oo,oo,oo,oo,oo,oo,oo,oo,oo,oo,oo,oo,oo,oo,oo,oo,oo,oo,oo,oo,oo,oo,oo,oo,oo,oo,oo,oo,oo,oo,oo,oo,oo,oo,oo,oo,oo,oo,oo,oo,oo,oo,oo,oo,oo,oo,oo,oo,oo,oo,oo,oo,oo,oo,oo,oo,oo,oo,oo,oo,oo,oo,oo,oo,oo,oo,oo,oo,oo,oo,oo,oo,oo,oo,oo,oo,oo,oo,oo,oo,oo,oo,oo,oo,oo,oo,oo,oo,oo,oo,oo,oo,oo,oo,oo,oo,oo,oo,oo,oo,oo,oo,oo,oo,oo,oo,oo,oo,oo,oo,oo,oo,oo,oo,oo,oo,oo,oo,oo,oo,oo,oo,oo,oo,oo] [(.b 0,.box ((stm l (k+1+1+1)).map .p) T),(.l 12,.row (ddE (o.set j { d with kind:=u })) tDd 12 true)] (by (simp only [ZZ,WW,Ze,ok_Ks,reduceCtorEq,Nat.reduceAdd,Nat.reduceMul,Nat.reduceLeDiff,Nat.reduceLT,Nat.reduceEqDiff];try trivial)) (by simp only [ZZ,WW,Ze,ok_Ks,reduceCtorEq,Nat.reduceAdd,Nat.reduceMul,Nat.reduceLeDiff,Nat.reduceLT,Nat.reduceEqDiff,hg,ddC];exact congrArg (fun z=>some (AO.row z tDd 12 true)) (ddE_set o j { d with kind:=u })) ⟨_,_,hset { d with kind:=u } { dB with c3:=⟨by dsimp only;omega,by dsimp only;omega⟩ },by simp;omega,by omega,rfl,rfl⟩
  intro _
  simp only [ZZ,WW,Ze,ok_Ks,reduceCtorEq,Nat.reduceAdd,Nat.reduceMul,Nat.reduceLeDiff,Nat.reduceLT,Nat.reduceEqDiff]
  refine br ?_ ?_
  ·intro _
   simp only [ZZ,WW,Ze,ok_Ks,reduceCtorEq,Nat.reduceAdd,Nat.reduceMul,Nat.reduceLeDiff,Nat.reduceLT,Nat.reduceEqDiff]
   refine useS (one_ok l (k+1+1) [[],[105,98],[73]] (by omega) hl (by simp) (by simp)) rfl rfl rfl zE_ ?_
   rintro x cs' ⟨u,rfl,hu,rfl⟩
   have hu:u.length≤1000:=by simp only [List.mem_cons,List.not_mem_nil,or_false] at hu;rcases hu with rfl|rfl|rfl<;>decide
   simp only [ZZ,WW,Ze,ok_Ks,reduceCtorEq,Nat.reduceAdd,Nat.reduceMul,Nat.reduceLeDiff,Nat.reduceLT,Nat.reduceEqDiff,hg,ddE_len,ddC]
   refine ⟨hj,?_⟩
   exact to_mid [.adr (.b 0) 0,oo,oo,oo,oo,.row (.l 12),oo,oo,oo,oo,oo,oo,oo,oo,oo,oo,oo,oo,oo,oo,oo,oo,oo,oo,oo,oo,oo,oo,oo,oo,oo,oo,oo,oo,oo,oo,oo,oo,oo,oo,oo,oo,oo,oo,oo,oo,oo,oo,oo,oo,oo,oo,oo,oo,oo,oo,oo,oo,oo,oo,oo,oo,oo,oo,oo,oo,oo,oo,oo,oo,oo,oo,oo,oo,oo,oo,oo,oo,oo,oo,oo,oo,oo,oo,oo,oo,oo,oo,oo,oo,oo,oo,oo,oo,oo,oo,oo,oo,oo,oo,oo,oo,oo,oo,oo,oo,oo,oo,oo,oo,oo,oo,oo,oo,oo,oo,oo,oo,oo,oo,oo,oo,oo,oo,oo,oo,oo,oo,oo,oo,oo,oo,oo,oo,oo,oo,oo,oo,oo,oo,oo,oo,oo,oo,oo,oo,oo,oo,oo,oo,oo,oo,oo,oo,oo,oo,oo,oo,oo,oo,oo,oo,oo,oo,oo,oo,oo] [(.b 0,.box ((stm l (k+1+1+1)).map .p) T),(.l 12,.row (ddE (o.set j { d with id:=u })) tDd 12 true)] (by (simp only [ZZ,WW,Ze,ok_Ks,reduceCtorEq,Nat.reduceAdd,Nat.reduceMul,Nat.reduceLeDiff,Nat.reduceLT,Nat.reduceEqDiff];try trivial)) (by simp only [ZZ,WW,Ze,ok_Ks,reduceCtorEq,Nat.reduceAdd,Nat.reduceMul,Nat.reduceLeDiff,Nat.reduceLT,Nat.reduceEqDiff,hg,ddC];exact congrArg (fun z=>some (AO.row z tDd 12 true)) (ddE_set o j { d with id:=u })) ⟨_,_,hset { d with id:=u } { dB with b2:=hu },by simp;omega,by omega,rfl,rfl⟩
  intro _
  simp only [ZZ,WW,Ze,ok_Ks,reduceCtorEq,Nat.reduceAdd,Nat.reduceMul,Nat.reduceLeDiff,Nat.reduceLT,Nat.reduceEqDiff]
  refine br ?_ ?_
  ·intro _
   simp only [ZZ,WW,Ze,ok_Ks,reduceCtorEq,Nat.reduceAdd,Nat.reduceMul,Nat.reduceLeDiff,Nat.reduceLT,Nat.reduceEqDiff]
   refine useS (one_ok l (k+1+1) [[],[119,97,110,116],[70]] (by omega) hl (by simp) (by simp)) rfl rfl rfl zE_ ?_
   rintro x cs' ⟨u,rfl,hu,rfl⟩
   have hu:u.length≤1000:=by simp only [List.mem_cons,List.not_mem_nil,or_false] at hu;rcases hu with rfl|rfl|rfl<;>decide
   simp only [ZZ,WW,Ze,ok_Ks,reduceCtorEq,Nat.reduceAdd,Nat.reduceMul,Nat.reduceLeDiff,Nat.reduceLT,Nat.reduceEqDiff,hg,ddE_len,ddC]
   refine ⟨hj,?_⟩
   exact to_mid [.adr (.b 0) 0,oo,oo,oo,oo,.row (.l 12),oo,oo,oo,oo,oo,oo,oo,oo,oo,oo,oo,oo,oo,oo,oo,oo,oo,oo,oo,oo,oo,oo,oo,oo,oo,oo,oo,oo,oo,oo,oo,oo,oo,oo,oo,oo,oo,oo,oo,oo,oo,oo,oo,oo,oo,oo,oo,oo,oo,oo,oo,oo,oo,oo,oo,oo,oo,oo,oo,oo,oo,oo,oo,oo,oo,oo,oo,oo,oo,oo,oo,oo,oo,oo,oo,oo,oo,oo,oo,oo,oo,oo,oo,oo,oo,oo,oo,oo,oo,oo,oo,oo,oo,oo,oo,oo,oo,oo,oo,oo,oo,oo,oo,oo,oo,oo,oo,oo,oo,oo,oo,oo,oo,oo,oo,oo,oo,oo,oo,oo,oo,oo,oo,oo,oo,oo,oo,oo,oo,oo,oo,oo,oo,oo,oo,oo,oo,oo,oo,oo,oo,oo,oo,oo,oo,oo,oo,oo,oo,oo,oo,oo,oo,oo,oo,oo,oo,oo,oo,oo,oo] [(.b 0,.box ((stm l (k+1+1+1)).map .p) T),(.l 12,.row (ddE (o.set j { d with field:=u })) tDd 12 true)] (by (simp only [ZZ,WW,Ze,ok_Ks,reduceCtorEq,Nat.reduceAdd,Nat.reduceMul,Nat.reduceLeDiff,Nat.reduceLT,Nat.reduceEqDiff];try trivial)) (by simp only [ZZ,WW,Ze,ok_Ks,reduceCtorEq,Nat.reduceAdd,Nat.reduceMul,Nat.reduceLeDiff,Nat.reduceLT,Nat.reduceEqDiff,hg,ddC];exact congrArg (fun z=>some (AO.row z tDd 12 true)) (ddE_set o j { d with field:=u })) ⟨_,_,hset { d with field:=u } { dB with b3:=hu },by simp;omega,by omega,rfl,rfl⟩
  intro _
  simp only [ZZ,WW,Ze,ok_Ks,reduceCtorEq,Nat.reduceAdd,Nat.reduceMul,Nat.reduceLeDiff,Nat.reduceLT,Nat.reduceEqDiff]
  refine br ?_ ?_
  ·intro _
   simp only [ZZ,WW,Ze,ok_Ks,reduceCtorEq,Nat.reduceAdd,Nat.reduceMul,Nat.reduceLeDiff,Nat.reduceLT,Nat.reduceEqDiff]
   refine useS (one_ok l (k+1+1) [[],[121,101,115],[32,120]] (by omega) hl (by simp) (by simp)) rfl rfl rfl zE_ ?_
   rintro x cs' ⟨u,rfl,hu,rfl⟩
   have hu:u.length≤1000:=by simp only [List.mem_cons,List.not_mem_nil,or_false] at hu;rcases hu with rfl|rfl|rfl<;>decide
   simp only [ZZ,WW,Ze,ok_Ks,reduceCtorEq,Nat.reduceAdd,Nat.reduceMul,Nat.reduceLeDiff,Nat.reduceLT,Nat.reduceEqDiff,hg,ddE_len,ddC]
   refine ⟨hj,?_⟩
   exact to_mid [.adr (.b 0) 0,oo,oo,oo,oo,.row (.l 12),oo,oo,oo,oo,oo,oo,oo,oo,oo,oo,oo,oo,oo,oo,oo,oo,oo,oo,oo,oo,oo,oo,oo,oo,oo,oo,oo,oo,oo,oo,oo,oo,oo,oo,oo,oo,oo,oo,oo,oo,oo,oo,oo,oo,oo,oo,oo,oo,oo,oo,oo,oo,oo,oo,oo,oo,oo,oo,oo,oo,oo,oo,oo,oo,oo,oo,oo,oo,oo,oo,oo,oo,oo,oo,oo,oo,oo,oo,oo,oo,oo,oo,oo,oo,oo,oo,oo,oo,oo,oo,oo,oo,oo,oo,oo,oo,oo,oo,oo,oo,oo,oo,oo,oo,oo,oo,oo,oo,oo,oo,oo,oo,oo,oo,oo,oo,oo,oo,oo,oo,oo,oo,oo,oo,oo,oo,oo,oo,oo,oo,oo,oo,oo,oo,oo,oo,oo,oo,oo,oo,oo,oo,oo,oo,oo,oo,oo,oo,oo,oo,oo,oo,oo,oo,oo,oo,oo,oo,oo,oo,oo] [(.b 0,.box ((stm l (k+1+1+1)).map .p) T),(.l 12,.row (ddE (o.set j { d with value:=u })) tDd 12 true)] (by (simp only [ZZ,WW,Ze,ok_Ks,reduceCtorEq,Nat.reduceAdd,Nat.reduceMul,Nat.reduceLeDiff,Nat.reduceLT,Nat.reduceEqDiff];try trivial)) (by simp only [ZZ,WW,Ze,ok_Ks,reduceCtorEq,Nat.reduceAdd,Nat.reduceMul,Nat.reduceLeDiff,Nat.reduceLT,Nat.reduceEqDiff,hg,ddC];exact congrArg (fun z=>some (AO.row z tDd 12 true)) (ddE_set o j { d with value:=u })) ⟨_,_,hset { d with value:=u } { dB with b4:=hu },by simp;omega,by omega,rfl,rfl⟩
  intro _
  simp only [ZZ,WW,Ze,ok_Ks,reduceCtorEq,Nat.reduceAdd,Nat.reduceMul,Nat.reduceLeDiff,Nat.reduceLT,Nat.reduceEqDiff]
  refine br ?_ ?_
  ·intro _
   simp only [ZZ,WW,Ze,ok_Ks,reduceCtorEq,Nat.reduceAdd,Nat.reduceMul,Nat.reduceLeDiff,Nat.reduceLT,Nat.reduceEqDiff]
   refine useS (Next_ok l (k+1+1) 3 (by omega) hl (by decide)) rfl rfl rfl zE_ ?_
   rintro x cs' ⟨yu,rfl,rfl⟩
   have hu1:=below_lo yu 3
   have hu2:=below_hi yu 3 (by decide)
   generalize below yu 3=u at *
   simp only [ZZ,WW,Ze,ok_Ks,reduceCtorEq,Nat.reduceAdd,Nat.reduceMul,Nat.reduceLeDiff,Nat.reduceLT,Nat.reduceEqDiff]
   refine useS (Next_ok l (k+1+1+1) 9 (by omega) hl (by decide)) rfl rfl rfl zE_ ?_
   rintro x cs' ⟨yv,rfl,rfl⟩
   have hv1:=below_lo yv 9
   have hv2:=below_hi yv 9 (by decide)
   generalize below yv 9=v at *
   simp only [ZZ,WW,Ze,ok_Ks,reduceCtorEq,Nat.reduceAdd,Nat.reduceMul,Nat.reduceLeDiff,Nat.reduceLT,Nat.reduceEqDiff,hg,ddE_len,ddC]
   refine ⟨hj,?_⟩
   exact to_mid [.adr (.b 0) 0,oo,oo,oo,oo,.row (.l 12),oo,oo,oo,oo,oo,oo,oo,oo,oo,oo,oo,oo,oo,oo,oo,oo,oo,oo,oo,oo,oo,oo,oo,oo,oo,oo,oo,oo,oo,oo,oo,oo,oo,oo,oo,oo,oo,oo,oo,oo,oo,oo,oo,oo,oo,oo,oo,oo,oo,oo,oo,oo,oo,oo,oo,oo,oo,oo,oo,oo,oo,oo,oo,oo,oo,oo,oo,oo,oo,oo,oo,oo,oo,oo,oo,oo,oo,oo,oo,oo,oo,oo,oo,oo,oo,oo,oo,oo,oo,oo,oo,oo,oo,oo,oo,oo,oo,oo,oo,oo,oo,oo,oo,oo,oo,oo,oo,oo,oo,oo,oo,oo,oo,oo,oo,oo,oo,oo,oo,oo,oo,oo,oo,oo,oo,oo,oo,oo,oo,oo,oo,oo,oo,oo,oo,oo,oo,oo,oo,oo,oo,oo,oo,oo,oo,oo,oo,oo,oo,oo,oo,oo,oo,oo,oo,oo,oo,oo,oo,oo,oo] [(.b 0,.box ((stm l (k+1+1+1+1)).map .p) T),(.l 12,.row (ddE (o.set j { d with frm:=u,upto:=v })) tDd 12 true)] (by (simp only [ZZ,WW,Ze,ok_Ks,reduceCtorEq,Nat.reduceAdd,Nat.reduceMul,Nat.reduceLeDiff,Nat.reduceLT,Nat.reduceEqDiff];try trivial)) (by simp only [ZZ,WW,Ze,ok_Ks,reduceCtorEq,Nat.reduceAdd,Nat.reduceMul,Nat.reduceLeDiff,Nat.reduceLT,Nat.reduceEqDiff,hg,ddC];exact congrArg (fun z=>some (AO.row z tDd 12 true)) (ddE_set o j { d with frm:=u,upto:=v })) ⟨_,_,hset { d with frm:=u,upto:=v } { dB with c4:=⟨by dsimp only;omega,by dsimp only;omega⟩,c5:=⟨by dsimp only;omega,by dsimp only;omega⟩ },by simp;omega,by omega,rfl,rfl⟩
  intro _
  simp only [ZZ,WW,Ze,ok_Ks,reduceCtorEq,Nat.reduceAdd,Nat.reduceMul,Nat.reduceLeDiff,Nat.reduceLT,Nat.reduceEqDiff]
  refine br ?_ ?_
  ·intro _
   simp only [ZZ,WW,Ze,ok_Ks,reduceCtorEq,Nat.reduceAdd,Nat.reduceMul,Nat.reduceLeDiff,Nat.reduceLT,Nat.reduceEqDiff]
   refine useS (one_ok l (k+1+1) [[],[97],[98]] (by omega) hl (by simp) (by simp)) rfl rfl rfl zE_ ?_
   rintro x cs' ⟨u,rfl,hu,rfl⟩
   have hu:u.length≤1000:=by simp only [List.mem_cons,List.not_mem_nil,or_false] at hu;rcases hu with rfl|rfl|rfl<;>decide
   simp only [ZZ,WW,Ze,ok_Ks,reduceCtorEq,Nat.reduceAdd,Nat.reduceMul,Nat.reduceLeDiff,Nat.reduceLT,Nat.reduceEqDiff]
   refine useS (Next_ok l (k+1+1+1) 4 (by omega) hl (by decide)) rfl rfl rfl zE_ ?_
   rintro x cs' ⟨yv,rfl,rfl⟩
   have hv1:=below_lo yv 4
   have hv2:=below_hi yv 4 (by decide)
   generalize below yv 4=v at *
   simp only [ZZ,WW,Ze,ok_Ks,reduceCtorEq,Nat.reduceAdd,Nat.reduceMul,Nat.reduceLeDiff,Nat.reduceLT,Nat.reduceEqDiff,hg,ddE_len,ddC]
   refine ⟨hj,?_⟩
   exact to_mid [.adr (.b 0) 0,oo,oo,oo,oo,.row (.l 12),oo,oo,oo,oo,oo,oo,oo,oo,oo,oo,oo,oo,oo,oo,oo,oo,oo,oo,oo,oo,oo,oo,oo,oo,oo,oo,oo,oo,oo,oo,oo,oo,oo,oo,oo,oo,oo,oo,oo,oo,oo,oo,oo,oo,oo,oo,oo,oo,oo,oo,oo,oo,oo,oo,oo,oo,oo,oo,oo,oo,oo,oo,oo,oo,oo,oo,oo,oo,oo,oo,oo,oo,oo,oo,oo,oo,oo,oo,oo,oo,oo,oo,oo,oo,oo,oo,oo,oo,oo,oo,oo,oo,oo,oo,oo,oo,oo,oo,oo,oo,oo,oo,oo,oo,oo,oo,oo,oo,oo,oo,oo,oo,oo,oo,oo,oo,oo,oo,oo,oo,oo,oo,oo,oo,oo,oo,oo,oo,oo,oo,oo,oo,oo,oo,oo,oo,oo,oo,oo,oo,oo,oo,oo,oo,oo,oo,oo,oo,oo,oo,oo,oo,oo,oo,oo,oo,oo,oo,oo,oo,oo] [(.b 0,.box ((stm l (k+1+1+1+1)).map .p) T),(.l 12,.row (ddE (o.set j { d with osite:=u,ono:=v })) tDd 12 true)] (by (simp only [ZZ,WW,Ze,ok_Ks,reduceCtorEq,Nat.reduceAdd,Nat.reduceMul,Nat.reduceLeDiff,Nat.reduceLT,Nat.reduceEqDiff];try trivial)) (by simp only [ZZ,WW,Ze,ok_Ks,reduceCtorEq,Nat.reduceAdd,Nat.reduceMul,Nat.reduceLeDiff,Nat.reduceLT,Nat.reduceEqDiff,hg,ddC];exact congrArg (fun z=>some (AO.row z tDd 12 true)) (ddE_set o j { d with osite:=u,ono:=v })) ⟨_,_,hset { d with osite:=u,ono:=v } { dB with b5:=hu,c6:=⟨by dsimp only;omega,by dsimp only;omega⟩ },by simp;omega,by omega,rfl,rfl⟩
  intro _
  simp only [ZZ,WW,Ze,ok_Ks,reduceCtorEq,Nat.reduceAdd,Nat.reduceMul,Nat.reduceLeDiff,Nat.reduceLT,Nat.reduceEqDiff]
  refine br ?_ ?_
  ·intro _
   simp only [ZZ,WW,Ze,ok_Ks,reduceCtorEq,Nat.reduceAdd,Nat.reduceMul,Nat.reduceLeDiff,Nat.reduceLT,Nat.reduceEqDiff]
   refine useS (one_ok l (k+1+1) [[],[48,49,50,51,52,53,54,55,56,57,97,98,99,100,101,102]] (by omega) hl (by simp) (by simp)) rfl rfl rfl zE_ ?_
   rintro x cs' ⟨u,rfl,hu,rfl⟩
   have hu:u.length≤1000:=by simp only [List.mem_cons,List.not_mem_nil,or_false] at hu;rcases hu with rfl|rfl<;>decide
   simp only [ZZ,WW,Ze,ok_Ks,reduceCtorEq,Nat.reduceAdd,Nat.reduceMul,Nat.reduceLeDiff,Nat.reduceLT,Nat.reduceEqDiff,hg,ddE_len,ddC]
   refine ⟨hj,?_⟩
   exact to_mid [.adr (.b 0) 0,oo,oo,oo,oo,.row (.l 12),oo,oo,oo,oo,oo,oo,oo,oo,oo,oo,oo,oo,oo,oo,oo,oo,oo,oo,oo,oo,oo,oo,oo,oo,oo,oo,oo,oo,oo,oo,oo,oo,oo,oo,oo,oo,oo,oo,oo,oo,oo,oo,oo,oo,oo,oo,oo,oo,oo,oo,oo,oo,oo,oo,oo,oo,oo,oo,oo,oo,oo,oo,oo,oo,oo,oo,oo,oo,oo,oo,oo,oo,oo,oo,oo,oo,oo,oo,oo,oo,oo,oo,oo,oo,oo,oo,oo,oo,oo,oo,oo,oo,oo,oo,oo,oo,oo,oo,oo,oo,oo,oo,oo,oo,oo,oo,oo,oo,oo,oo,oo,oo,oo,oo,oo,oo,oo,oo,oo,oo,oo,oo,oo,oo,oo,oo,oo,oo,oo,oo,oo,oo,oo,oo,oo,oo,oo,oo,oo,oo,oo,oo,oo,oo,oo,oo,oo,oo,oo,oo,oo,oo,oo,oo,oo,oo,oo,oo,oo,oo,oo] [(.b 0,.box ((stm l (k+1+1+1)).map .p) T),(.l 12,.row (ddE (o.set j { d with sum:=u })) tDd 12 true)] (by (simp only [ZZ,WW,Ze,ok_Ks,reduceCtorEq,Nat.reduceAdd,Nat.reduceMul,Nat.reduceLeDiff,Nat.reduceLT,Nat.reduceEqDiff];try trivial)) (by simp only [ZZ,WW,Ze,ok_Ks,reduceCtorEq,Nat.reduceAdd,Nat.reduceMul,Nat.reduceLeDiff,Nat.reduceLT,Nat.reduceEqDiff,hg,ddC];exact congrArg (fun z=>some (AO.row z tDd 12 true)) (ddE_set o j { d with sum:=u })) ⟨_,_,hset { d with sum:=u } { dB with b6:=hu },by simp;omega,by omega,rfl,rfl⟩
  intro _
  simp only [ZZ,WW,Ze,ok_Ks,reduceCtorEq,Nat.reduceAdd,Nat.reduceMul,Nat.reduceLeDiff,Nat.reduceLT,Nat.reduceEqDiff]
  refine ⟨i64_of (by omega) (by omega),?_⟩
  refine useDel 12 (ddE o) j (j+1) (by rw [ddE_len];omega) rfl (by rw [ddE_len];omega) rfl ?_
  simp only [ZZ,WW,Ze,ok_Ks,reduceCtorEq,Nat.reduceAdd,Nat.reduceMul,Nat.reduceLeDiff,Nat.reduceLT,Nat.reduceEqDiff]
  exact to_mid [.adr (.b 0) 0,oo,oo,oo,oo,.row (.l 12),oo,oo,oo,oo,oo,oo,oo,oo,oo,oo,oo,oo,oo,oo,oo,oo,oo,oo,oo,oo,oo,oo,oo,oo,oo,oo,oo,oo,oo,oo,oo,oo,oo,oo,oo,oo,oo,oo,oo,oo,oo,oo,oo,oo,oo,oo,oo,oo,oo,oo,oo,oo,oo,oo,oo,oo,oo,oo,oo,oo,oo,oo,oo,oo,oo,oo,oo,oo,oo,oo,oo,oo,oo,oo,oo,oo,oo,oo,oo,oo,oo,oo,oo,oo,oo,oo,oo,oo,oo,oo,oo,oo,oo,oo,oo,oo,oo,oo,oo,oo,oo,oo,oo,oo,oo,oo,oo,oo,oo,oo,oo,oo,oo,oo,oo,oo,oo,oo,oo,oo,oo,oo,oo,oo,oo,oo,oo,oo,oo,oo,oo,oo,oo,oo,oo,oo,oo,oo,oo,oo,oo,oo,oo,oo,oo,oo,oo,oo,oo,oo,oo,oo,oo,oo,oo,oo,oo,oo,oo,oo,oo] [(.b 0,.box ((stm l (k+1+1)).map .p) T),(.l 12,.row (ddE (o.take j++o.drop (j+1))) tDd 12 true)] (by (simp only [ZZ,WW,Ze,ok_Ks,reduceCtorEq,Nat.reduceAdd,Nat.reduceMul,Nat.reduceLeDiff,Nat.reduceLT,Nat.reduceEqDiff];try trivial)) (by simp only [ZZ,WW,Ze,ok_Ks,reduceCtorEq,Nat.reduceAdd,Nat.reduceMul,Nat.reduceLeDiff,Nat.reduceLT,Nat.reduceEqDiff];exact congrArg (fun z=>some (AO.row z tDd 12 true)) (ddE_del o j)) ⟨_,_,hdel,by simp;omega,by omega,rfl,rfl⟩
 rintro fr L ⟨q,k2,hqB,hql,hk2,rfl,rfl⟩
 simp only [ZZ,WW,Ze,ok_Ks,reduceCtorEq,Nat.reduceAdd,Nat.reduceMul,Nat.reduceLeDiff,Nat.reduceLT,Nat.reduceEqDiff]
 refine useS (Flip_ok l k2 2 (by omega) hl (by decide)) rfl rfl rfl zE_ ?_
 rintro x cs' ⟨z,rfl,rfl⟩
 simp only [ZZ,WW,Ze,ok_Ks,reduceCtorEq,Nat.reduceAdd,Nat.reduceMul,Nat.reduceLeDiff,Nat.reduceLT,Nat.reduceEqDiff]
 refine br_join (SpN l k) ?_ ?_ ?_
 ·intro _
  simp only [ZZ,WW,Ze,ok_Ks,reduceCtorEq,Nat.reduceAdd,Nat.reduceMul,Nat.reduceLeDiff,Nat.reduceLT,Nat.reduceEqDiff,ddE_len]
  refine loop_intro (fun n fr L=>∃ (i:Nat) (q':List Dd) (kv:List (List UInt8×PV)),i≤q.length∧n=q.length - i∧(DdsB q')∧(q'.length=q.length)∧(∀ s:List UInt8,∃ b:List UInt8,mpD kv s (.str [])=.str b∧b.length≤1000)∧fr=[.adr (.b 0) 0,oo,oo,oo,oo,.row (.l 12),oo,oo,.mp (.l 137),oo,oo,oo,oo,oo,oo,oo,oo,oo,oo,oo,oo,oo,oo,oo,oo,oo,oo,oo,oo,oo,oo,oo,oo,oo,oo,oo,oo,oo,oo,oo,oo,oo,oo,oo,oo,oo,oo,oo,oo,oo,oo,oo,oo,oo,oo,oo,oo,oo,oo,oo,oo,oo,oo,oo,oo,oo,oo,oo,oo,oo,oo,oo,oo,oo,oo,oo,oo,oo,oo,oo,oo,oo,oo,oo,oo,oo,oo,oo,oo,oo,oo,oo,oo,oo,oo,oo,oo,oo,oo,oo,oo,oo,oo,oo,oo,oo,oo,oo,oo,oo,oo,oo,oo,oo,oo,oo,oo,oo,oo,oo,oo,oo,oo,oo,oo,oo,oo,oo,oo,oo,oo,oo,oo,oo,oo,oo,oo,oo,.row (.l 12),.p (int (q.length:Nat)),.p (int (i:Nat)),oo,oo,oo,oo,oo,oo,oo,oo,oo,oo,oo,oo,oo,oo,oo,oo,oo,oo,oo,oo,oo,oo,oo,oo,oo,oo]∧L=[(.b 0,.box ((stm l (k2+1)).map .p) T),(.l 12,.row (ddE q') tDd 12 true),(.l 137,.map kv 9 9)]) (q.length) [.adr (.b 0) 0,oo,oo,oo,oo,.row (.l 12),oo,oo,.mp (.l 137),oo,oo,oo,oo,oo,oo,oo,oo,oo,oo,oo,oo,oo,oo,oo,oo,oo,oo,oo,oo,oo,oo,oo,oo,oo,oo,oo,oo,oo,oo,oo,oo,oo,oo,oo,oo,oo,oo,oo,oo,oo,oo,oo,oo,oo,oo,oo,oo,oo,oo,oo,oo,oo,oo,oo,oo,oo,oo,oo,oo,oo,oo,oo,oo,oo,oo,oo,oo,oo,oo,oo,oo,oo,oo,oo,oo,oo,oo,oo,oo,oo,oo,oo,oo,oo,oo,oo,oo,oo,oo,oo,oo,oo,oo,oo,oo,oo,oo,oo,oo,oo,oo,oo,oo,oo,oo,oo,oo,oo,oo,oo,oo,oo,oo,oo,oo,oo,oo,oo,oo,oo,oo,oo,oo,oo,oo,oo,oo,oo,.row (.l 12),.p (int (q.length:Nat)),.p (int (0:Nat)),oo,oo,oo,oo,oo,oo,oo,oo,oo,oo,oo,oo,oo,oo,oo,oo,oo,oo,oo,oo,oo,oo,oo,oo,oo,oo] [(.b 0,.box ((stm l (k2+1)).map .p) T),(.l 12,.row (ddE q) tDd 12 true),(.l 137,.map ((List.nil:List (List UInt8×PV))) 9 9)] (by (simp only [ZZ,WW,Ze,ok_Ks,reduceCtorEq,Nat.reduceAdd,Nat.reduceMul,Nat.reduceLeDiff,Nat.reduceLT,Nat.reduceEqDiff];try trivial)) (by (simp only [ZZ,WW,Ze,ok_Ks,reduceCtorEq,Nat.reduceAdd,Nat.reduceMul,Nat.reduceLeDiff,Nat.reduceLT,Nat.reduceEqDiff];try trivial)) ⟨0,q,(List.nil:List (List UInt8×PV)),by omega,by omega,hqB,rfl,(fun s=>⟨[],rfl,by simp⟩),rfl,rfl⟩ ?_
  rintro n fr L ⟨i,q',kv,hi,rfl,hqB',hql',hkv,rfl,rfl⟩
  simp only [ir_chasemake_Stream_SpoiledDeeds_L0,ZZ,WW,Ze,reduceCtorEq,Nat.reduceAdd,Nat.reduceMul,Nat.reduceLeDiff,Nat.reduceLT,Nat.reduceEqDiff]
  refine br ?_ ?_
  ·intro h
   have hlt:i < q.length:=by have:=of_decide_eq_true h;omega
   obtain ⟨d,hd⟩:∃ d,q'[i]?=some d:=⟨_,List.getElem?_eq_getElem (by omega)⟩
   have hg:=ddE_get hd
   have dB:=hqB'.get hd
   obtain ⟨b,hb,hbl⟩:=hkv d.site
   have hi2:i < q'.length:=by omega
   have hSum:=SumAfter_ok d dB b hbl
   have hS16:(sumF b d).length≤1000:=by show (digF _).length≤1000;rw [digF_len];decide
   generalize sumF b d=S at *
   have hgs:(ddE (q'.set i { d with sum:=S })).getD i []=ddC { d with sum:=S }:=ddE_get (by rw [List.getElem?_set_self hi2])
   simp only [ZZ,WW,Ze,ok_Ks,reduceCtorEq,Nat.reduceAdd,Nat.reduceMul,Nat.reduceLeDiff,Nat.reduceLT,Nat.reduceEqDiff,hg,ddE_len,ddC,hb]
   refine ⟨⟨by omega,by omega⟩,hi2,?_⟩
   refine use1 hSum rfl (.inl rfl) ?_
   simp only [ZZ,WW,Ze,ok_Ks,reduceCtorEq,Nat.reduceAdd,Nat.reduceMul,Nat.reduceLeDiff,Nat.reduceLT,Nat.reduceEqDiff,hg,ddE_len,ddC]
   refine ⟨⟨by omega,by omega⟩,hi2,?_⟩
   have hse:(ddE q').set i [.str d.site,int d.no,int d.tm,int d.kind,.str d.id,.str d.field,.str d.value,int d.frm,int d.upto,.str d.osite,int d.ono,.str (S)]=ddE (q'.set i { d with sum:=S }):=ddE_set q' i { d with sum:=S }
   rw [hse]
   refine drg0 ?_
   simp only [ZZ,WW,Ze,ok_Ks,reduceCtorEq,Nat.reduceAdd,Nat.reduceMul,Nat.reduceLeDiff,Nat.reduceLT,Nat.reduceEqDiff,hgs,ddE_len,ddC]
   have hsl:(q'.set i { d with sum:=S }).length=q'.length:=by simp
   refine ⟨⟨by omega,by rw [hsl];omega⟩,by rw [hsl];omega,i64_of (by omega) (by omega),?_⟩
   have hq3B:DdsB (q'.set i { d with sum:=S }):=spB hqB' { dB with b6:=hS16 }
   have hq3l:(q'.set i { d with sum:=S }).length=q.length:=by rw [hsl];exact hql'
   have hk3:=spK (k:=d.site) hkv hS16
   clear hgs hse hsl hSum hg hb hd
   generalize q'.set i { d with sum:=S }=q3 at *
   generalize mpS kv d.site (.str (S))=kv3 at *
   refine end_round (q.length - (i+1)) [.adr (.b 0) 0,oo,oo,oo,oo,.row (.l 12),oo,oo,.mp (.l 137),oo,oo,oo,oo,oo,oo,oo,oo,oo,oo,oo,oo,oo,oo,oo,oo,oo,oo,oo,oo,oo,oo,oo,oo,oo,oo,oo,oo,oo,oo,oo,oo,oo,oo,oo,oo,oo,oo,oo,oo,oo,oo,oo,oo,oo,oo,oo,oo,oo,oo,oo,oo,oo,oo,oo,oo,oo,oo,oo,oo,oo,oo,oo,oo,oo,oo,oo,oo,oo,oo,oo,oo,oo,oo,oo,oo,oo,oo,oo,oo,oo,oo,oo,oo,oo,oo,oo,oo,oo,oo,oo,oo,oo,oo,oo,oo,oo,oo,oo,oo,oo,oo,oo,oo,oo,oo,oo,oo,oo,oo,oo,oo,oo,oo,oo,oo,oo,oo,oo,oo,oo,oo,oo,oo,oo,oo,oo,oo,oo,.row (.l 12),.p (int (q.length:Nat)),.p (int ((i+1):Nat)),oo,oo,oo,oo,oo,oo,oo,oo,oo,oo,oo,oo,oo,oo,oo,oo,oo,oo,oo,oo,oo,oo,oo,oo,oo,oo] [(.b 0,.box ((stm l (k2+1)).map .p) T),(.l 12,.row (ddE (q3)) tDd 12 true),(.l 137,.map (kv3) 9 9)] (by omega) (by (simp only [ZZ,WW,Ze,ok_Ks,reduceCtorEq,Nat.reduceAdd,Nat.reduceMul,Nat.reduceLeDiff,Nat.reduceLT,Nat.reduceEqDiff];try trivial)) (by (simp only [ZZ,WW,Ze,ok_Ks,reduceCtorEq,Nat.reduceAdd,Nat.reduceMul,Nat.reduceLeDiff,Nat.reduceLT,Nat.reduceEqDiff];try trivial)) ⟨i+1,q3,kv3,by omega,rfl,hq3B,hq3l,hk3,rfl,rfl⟩
  ·intro h
   simp only [ZZ,WW,Ze,ok_Ks,reduceCtorEq,Nat.reduceAdd,Nat.reduceMul,Nat.reduceLeDiff,Nat.reduceLT,Nat.reduceEqDiff]
   exact to_mid [.adr (.b 0) 0,oo,oo,oo,oo,.row (.l 12),oo,oo,oo,oo,oo,oo,oo,oo,oo,oo,oo,oo,oo,oo,oo,oo,oo,oo,oo,oo,oo,oo,oo,oo,oo,oo,oo,oo,oo,oo,oo,oo,oo,oo,oo,oo,oo,oo,oo,oo,oo,oo,oo,oo,oo,oo,oo,oo,oo,oo,oo,oo,oo,oo,oo,oo,oo,oo,oo,oo,oo,oo,oo,oo,oo,oo,oo,oo,oo,oo,oo,oo,oo,oo,oo,oo,oo,oo,oo,oo,oo,oo,oo,oo,oo,oo,oo,oo,oo,oo,oo,oo,oo,oo,oo,oo,oo,oo,oo,oo,oo,oo,oo,oo,oo,oo,oo,oo,oo,oo,oo,oo,oo,oo,oo,oo,oo,oo,oo,oo,oo,oo,oo,oo,oo,oo,oo,oo,oo,oo,oo,oo,oo,oo,oo,oo,oo,oo,oo,oo,oo,oo,oo,oo,oo,oo,oo,oo,oo,oo,oo,oo,oo,oo,oo,oo,oo,oo,oo,oo,oo] [(.b 0,.box ((stm l (k2+1)).map .p) T),(.l 12,.row (ddE q') tDd 12 true)] (by (simp only [ZZ,WW,Ze,ok_Ks,reduceCtorEq,Nat.reduceAdd,Nat.reduceMul,Nat.reduceLeDiff,Nat.reduceLT,Nat.reduceEqDiff];try trivial)) zE_ ⟨q',_,hqB',by omega,by omega,rfl,rfl⟩
 ·intro _
  simp only [ZZ,WW,Ze,ok_Ks,reduceCtorEq,Nat.reduceAdd,Nat.reduceMul,Nat.reduceLeDiff,Nat.reduceLT,Nat.reduceEqDiff]
  exact to_mid [.adr (.b 0) 0,oo,oo,oo,oo,.row (.l 12),oo,oo,oo,oo,oo,oo,oo,oo,oo,oo,oo,oo,oo,oo,oo,oo,oo,oo,oo,oo,oo,oo,oo,oo,oo,oo,oo,oo,oo,oo,oo,oo,oo,oo,oo,oo,oo,oo,oo,oo,oo,oo,oo,oo,oo,oo,oo,oo,oo,oo,oo,oo,oo,oo,oo,oo,oo,oo,oo,oo,oo,oo,oo,oo,oo,oo,oo,oo,oo,oo,oo,oo,oo,oo,oo,oo,oo,oo,oo,oo,oo,oo,oo,oo,oo,oo,oo,oo,oo,oo,oo,oo,oo,oo,oo,oo,oo,oo,oo,oo,oo,oo,oo,oo,oo,oo,oo,oo,oo,oo,oo,oo,oo,oo,oo,oo,oo,oo,oo,oo,oo,oo,oo,oo,oo,oo,oo,oo,oo,oo,oo,oo,oo,oo,oo,oo,oo,oo,oo,oo,oo,oo,oo,oo,oo,oo,oo,oo,oo,oo,oo,oo,oo,oo,oo,oo,oo,oo,oo,oo,oo] [(.b 0,.box ((stm l (k2+1)).map .p) T),(.l 12,.row (ddE q) tDd 12 true)] (by (simp only [ZZ,WW,Ze,ok_Ks,reduceCtorEq,Nat.reduceAdd,Nat.reduceMul,Nat.reduceLeDiff,Nat.reduceLT,Nat.reduceEqDiff];try trivial)) zE_ ⟨q,_,hqB,hql,by omega,rfl,rfl⟩
 rintro fr L ⟨q2,k3,hq2B,hq2l,hk3,rfl,rfl⟩
 simp only [ZZ,WW,Ze,ok_Ks,reduceCtorEq,Nat.reduceAdd,Nat.reduceMul,Nat.reduceLeDiff,Nat.reduceLT,Nat.reduceEqDiff]
 exact fin_S (stm l k3) rfl ⟨q2,k3,rfl,hq2B,hq2l,rfl,hk3⟩
def ir_matter_byStamps_L0:IC:=(.seq (.reg [qO 10 (.bin .lss (.t 9) (.t 8))]) (.seq (.cond (.t 10) .skip (.exit 0)) (.seq (.block 1 (.seq (.reg [qO 11 (.ixa 12 (.t 7) (.t 9)),qO 12 (.ld 12 true (.t 11)),qO 5 (.alc 45 [.str [],.int .i64 0,.int .i64 0,.int .i64 0,.str [],.str [],.str [],.int .i64 0,.int .i64 0,.str [],.int .i64 0,.str []]),⟨none,.st 12 (.t 5) (.t 12),none⟩]) (.reg [qM 13 3,qO 14 (.fla 0 (.t 5)),qO 15 (.ld 2 true (.t 14)),qO 16 (.ld 12 true (.t 5)),⟨none,.mpuk [.s,.i] (.t 13) (.t 15) (.t 16),none⟩]))) (.reg [qO 17 (.bin .add (.t 9) (.c (.int .i64 1))),qM 9 17]))))
def ir_matter_byStamps:IC:=(.seq (.reg [qO 2 (.mov (.c (.raw (.map none))))]) (.seq (.reg [qO 6 (.mkk [.s,.i] 43 45),qM 3 6]) (.seq (.seq (.reg [qM 7 0,qO 8 (.len (.t 7)),qO 9 (.mov (.c (.int .i64 0)))]) (.block 0 (.loop ir_matter_byStamps_L0))) (.seq (.reg [qM 18 3,qM 2 18]) .ret))))
def rs_matter_byStamps:List IRes:=[.t 2]
theorem ck_matter_byStamps:chkF Tryz.prog Tryz.f48 ir_matter_byStamps rs_matter_byStamps 19=true:=by kernel_rfl
def ir_matter_ofError:IC:=(.seq (.reg [qO 3 (.box 45 (.t 1)),qO 4 (.mov (.c (.int .i64 0)))]) (.seq (.seq (.reg [qO 8 (.fla 3 (.t 3)),qO 9 (.ld 1 false (.t 8)),qO 10 (.bin .neq (.t 9) (.c (.int .i64 3))),qM 11 10,⟨some 12,.fla 3 (.t 3),(some (11,true))⟩,⟨some 13,.ld 1 false (.t 12),(some (11,true))⟩,⟨some 14,.bin .neq (.t 13) (.c (.int .i64 6)),(some (11,true))⟩,qO 15 (.pick (.t 11) (.t 14) (.c (.bool false)))]) (.cond (.t 15) (.seq (.reg [qO 4 (.mov (.c (.int .i64 0)))]) .ret) .skip)) (.seq (.reg [qM 17 0,qO 18 (.fla 9 (.t 3)),qO 19 (.ld 2 true (.t 18)),qO 20 (.mplk true [.s,.i] (.agg [.str [],.int .i64 0,.int .i64 0,.int .i64 0,.str [],.str [],.str [],.int .i64 0,.int .i64 0,.str [],.int .i64 0,.str []]) (.t 17) (.t 19)),qM 16 20,qO 21 (.ext 0 (.t 16)),qO 22 (.ext 1 (.t 16)),qO 5 (.alc 45 [.str [],.int .i64 0,.int .i64 0,.int .i64 0,.str [],.str [],.str [],.int .i64 0,.int .i64 0,.str [],.int .i64 0,.str []]),⟨none,.st 12 (.t 5) (.t 21),none⟩,qM 6 22]) (.seq (.seq (.reg [qM 23 6,qO 24 (.not (.t 23))]) (.cond (.t 24) (.seq (.reg [qO 4 (.mov (.c (.int .i64 8)))]) .ret) .skip)) (.seq (.reg [qO 25 (.fla 3 (.t 5)),qO 26 (.ld 1 false (.t 25)),qO 27 (.bin .eql (.t 26) (.c (.int .i64 2))),qM 28 27,⟨some 29,.fla 3 (.t 5),(some (28,false))⟩,⟨some 30,.ld 1 false (.t 29),(some (28,false))⟩,⟨some 31,.bin .eql (.t 30) (.c (.int .i64 4)),(some (28,false))⟩,qO 32 (.pick (.t 28) (.c (.bool true)) (.t 31)),qM 7 32]) (.seq (.seq (.reg [qO 33 (.fla 3 (.t 3)),qO 34 (.ld 1 false (.t 33)),qO 35 (.bin .eql (.t 34) (.c (.int .i64 3)))]) (.cond (.t 35) (.seq (.reg [qM 36 7,qO 37 (.not (.t 36)),qO 38 (.call 41 [.t 37,.c (.int .i64 16)]),qM 4 38]) .ret) .skip)) (.seq (.reg [qM 39 7,qM 40 39,⟨some 41,.fla 3 (.t 5),(some (40,false))⟩,⟨some 42,.ld 1 false (.t 41),(some (40,false))⟩,⟨some 43,.bin .eql (.t 42) (.c (.int .i64 6)),(some (40,false))⟩,qO 44 (.pick (.t 40) (.c (.bool true)) (.t 43)),qM 45 44,⟨some 46,.fla 0 (.t 5),(some (45,false))⟩,⟨some 47,.fla 0 (.t 46),(some (45,false))⟩,⟨some 48,.ld 1 false (.t 47),(some (45,false))⟩,⟨some 49,.fla 0 (.t 3),(some (45,false))⟩,⟨some 50,.fla 0 (.t 49),(some (45,false))⟩,⟨some 51,.ld 1 false (.t 50),(some (45,false))⟩,⟨some 52,.bin .neq (.t 48) (.t 51),(some (45,false))⟩,qO 53 (.pick (.t 45) (.c (.bool true)) (.t 52)),qM 54 53,⟨some 55,.fla 0 (.t 5),(some (54,false))⟩,⟨some 56,.fla 1 (.t 55),(some (54,false))⟩,⟨some 57,.ld 1 false (.t 56),(some (54,false))⟩,⟨some 58,.fla 0 (.t 3),(some (54,false))⟩,⟨some 59,.fla 1 (.t 58),(some (54,false))⟩,⟨some 60,.ld 1 false (.t 59),(some (54,false))⟩,⟨some 61,.bin .geq (.t 57) (.t 60),(some (54,false))⟩,qO 62 (.pick (.t 54) (.c (.bool true)) (.t 61)),qO 63 (.call 41 [.t 62,.c (.int .i64 16)]),qM 4 63]) .ret)))))))
def rs_matter_ofError:List IRes:=[.t 4]
theorem ck_matter_ofError:chkF Tryz.prog Tryz.f49 ir_matter_ofError rs_matter_ofError 64=true:=by kernel_rfl
def ir_matter_CheckDeeds_L1:IC:=(.seq (.reg [qO 94 (.bin .lss (.t 93) (.t 92))]) (.seq (.cond (.t 94) .skip (.exit 2)) (.seq (.block 3 (.seq (.reg [qM 95 93,qO 96 (.ixa 12 (.t 91) (.t 93)),qO 97 (.ld 12 true (.t 96)),qO 12 (.alc 45 [.str [],.int .i64 0,.int .i64 0,.int .i64 0,.str [],.str [],.str [],.int .i64 0,.int .i64 0,.str [],.int .i64 0,.str []]),qM 11 95,⟨none,.st 12 (.t 12) (.t 97),none⟩]) (.seq (.reg [qM 98 10,qO 99 (.ld 12 true (.t 12)),qO 100 (.call 49 [.t 98,.t 99]),qM 13 100]) (.seq (.reg [qM 101 13,qO 102 (.bin .neq (.t 101) (.c (.int .i64 0)))]) (.cond (.t 102) (.seq (.reg [qM 103 11,qM 104 13,qM 2 103,qM 3 104]) .ret) .skip))))) (.reg [qO 105 (.bin .add (.t 93) (.c (.int .i64 1))),qM 93 105]))))
def ir_matter_CheckDeeds_L0:IC:=(.seq (.reg [qO 21 (.bin .lss (.t 20) (.t 19))]) (.seq (.cond (.t 21) .skip (.exit 0)) (.seq (.block 1 (.seq (.reg [qM 22 20,qO 23 (.ixa 12 (.t 18) (.t 20)),qO 24 (.ld 12 true (.t 23)),qO 8 (.alc 45 [.str [],.int .i64 0,.int .i64 0,.int .i64 0,.str [],.str [],.str [],.int .i64 0,.int .i64 0,.str [],.int .i64 0,.str []]),qM 7 22,⟨none,.st 12 (.t 8) (.t 24),none⟩]) (.seq (.seq (.reg [qO 25 (.fla 0 (.t 8)),qO 26 (.fla 0 (.t 25)),qO 27 (.ld 1 false (.t 26)),qO 28 (.fla 0 (.t 4)),qO 29 (.fla 0 (.t 28)),qO 30 (.ld 1 false (.t 29)),qO 31 (.bin .neq (.t 27) (.t 30))]) (.cond (.t 31) (.reg [qO 5 (.mov (.c (.int .i64 0))),qO 6 (.mov (.c (.str [])))]) .skip)) (.cut (.seq (.drg [qO 32 (.fla 0 (.t 8)),qO 33 (.fla 0 (.t 32)),qO 34 (.ld 1 false (.t 33)),qO 35 (.pcall 0 42 [.t 34]),qO 36 (.not (.t 35)),qO 37 (.pcall 1 41 [.t 36,.c (.int .i64 5)]),qM 38 7,qO 39 (.bin .gtr (.t 38) (.c (.int .i64 0))),qM 40 39,⟨some 41,.fla 0 (.t 8),(some (40,true))⟩,⟨some 42,.ld 2 true (.t 41),(some (40,true))⟩,⟨some 43,.fla 0 (.t 4),(some (40,true))⟩,⟨some 44,.ld 2 true (.t 43),(some (40,true))⟩,⟨some 45,.pcall 2 43 [.t 42,.t 44],(some (40,true))⟩,⟨some 46,.bin .leq (.t 45) (.c (.int .i64 0)),(some (40,true))⟩,qO 47 (.pick (.t 40) (.t 46) (.c (.bool false))),qO 48 (.pcall 3 41 [.t 47,.c (.int .i64 7)]),qO 49 (.fla 0 (.t 8)),qO 50 (.fla 1 (.t 49)),qO 51 (.ld 1 false (.t 50)),qM 52 5,qO 53 (.bin .add (.t 52) (.c (.int .i64 1))),qO 54 (.bin .neq (.t 51) (.t 53)),qM 55 54,⟨some 56,.fla 2 (.t 8),(some (55,false))⟩,⟨some 57,.ld 1 false (.t 56),(some (55,false))⟩,⟨some 58,.pcall 4 44 [.t 57],(some (55,false))⟩,⟨some 59,.not (.t 58),(some (55,false))⟩,qO 60 (.pick (.t 55) (.c (.bool true)) (.t 59)),qO 61 (.pcall 5 41 [.t 60,.c (.int .i64 1)]),qO 62 (.fla 3 (.t 8)),qO 63 (.ld 1 false (.t 62)),qO 64 (.pcall 6 45 [.t 63,.c (.int .i64 1),.c (.int .i64 6)]),qO 65 (.not (.t 64)),qO 66 (.pcall 7 41 [.t 65,.c (.int .i64 4)]),qO 67 (.ld 12 true (.t 8)),qO 68 (.pcall 8 46 [.t 67]),qO 69 (.fla 11 (.t 8)),qO 70 (.ld 1 false (.t 69)),qO 71 (.ld 12 true (.t 8)),qM 72 6,qO 73 (.pcall 9 47 [.t 71,.t 72]),qO 74 (.bin .neq (.t 70) (.t 73)),qO 75 (.pcall 10 41 [.t 74,.c (.int .i64 15)]),qO 76 (.bsl 1 [.t 37,.t 48,.t 61,.t 66,.t 68,.t 75]),qO 77 (.pcall 11 40 [.t 76]),qM 9 77]) (.seq (.seq (.reg [qM 78 9,qO 79 (.bin .neq (.t 78) (.c (.int .i64 0)))]) (.cond (.t 79) (.seq (.reg [qM 80 7,qM 81 9,qM 2 80,qM 3 81]) .ret) .skip)) (.drg [qO 82 (.ldn 4 12 true (.t 8)),qO 83 (.fla 0 (.t 8)),qO 84 (.fla 1 (.t 83)),qO 85 (.ldn 4 1 false (.t 84)),qO 86 (.fla 11 (.t 8)),qO 87 (.ldn 4 1 false (.t 86)),⟨none,.stk 4 12 (.t 4) (.t 82),none⟩,qM 5 85,qM 6 87]))))))) (.reg [qO 88 (.bin .add (.t 20) (.c (.int .i64 1))),qM 20 88]))))
def ir_matter_CheckDeeds:IC:=(.seq (.reg [qO 2 (.mov (.c (.int .i64 0))),qO 3 (.mov (.c (.int .i64 0)))]) (.seq (.seq (.reg [qM 14 0,qO 15 (.len (.t 14)),qO 16 (.bin .gtr (.t 15) (.c (.int .i64 2000)))]) (.cond (.t 16) (.seq (.reg [qO 2 (.mov (.c (.int .i64 0))),qO 3 (.mov (.c (.int .i64 2)))]) .ret) .skip)) (.seq (.reg [qO 17 (.bld [.str [],.int .i64 0,.int .i64 0,.int .i64 0,.str [],.str [],.str [],.int .i64 0,.int .i64 0,.str [],.int .i64 0,.str []] []),qO 4 (.alc 45 [.str [],.int .i64 0,.int .i64 0,.int .i64 0,.str [],.str [],.str [],.int .i64 0,.int .i64 0,.str [],.int .i64 0,.str []]),⟨none,.st 12 (.t 4) (.t 17),none⟩]) (.seq (.reg [qO 5 (.mov (.c (.int .i64 0))),qO 6 (.mov (.c (.str [])))]) (.seq (.seq (.reg [qM 18 0,qO 19 (.len (.t 18)),qO 20 (.mov (.c (.int .i64 0)))]) (.block 0 (.loop ir_matter_CheckDeeds_L0))) (.seq (.reg [qM 89 0,qO 90 (.call 48 [.t 89]),qM 10 90]) (.seq (.seq (.reg [qM 91 0,qO 92 (.len (.t 91)),qO 93 (.mov (.c (.int .i64 0)))]) (.block 2 (.loop ir_matter_CheckDeeds_L1))) (.seq (.reg [qO 2 (.mov (.c (.int .i64 0))),qO 3 (.mov (.c (.int .i64 0)))]) .ret))))))))
def rs_matter_CheckDeeds:List IRes:=[.t 2,.t 3]
theorem ck_matter_CheckDeeds:chkF Tryz.prog Tryz.f9 ir_matter_CheckDeeds rs_matter_CheckDeeds 106=true:=by kernel_rfl
def ir_matter_listError:IC:=(.seq (.reg [qO 2 (.mov (.c (.int .i64 0)))]) (.seq (.reg [qM 6 0,qO 7 (.call 9 [.t 6]),qM 5 7,qO 8 (.ext 0 (.t 5)),qO 9 (.ext 1 (.t 5)),qM 3 8,qM 4 9]) (.seq (.reg [qM 10 4,qM 2 10]) .ret)))
def rs_matter_listError:List IRes:=[.t 2]
theorem ck_matter_listError:chkF Tryz.prog Tryz.f59 ir_matter_listError rs_matter_listError 11=true:=by kernel_rfl
abbrev tSt:Nat:=43
def stP (l:List Dd):PV:=.mpg (.fl [.s,.i]) ((stM l).map (·.1)) ((stM l).map (·.2))
section
variable {E:Envt}
theorem byStamps_ok (l:List Dd) (hl:l.length≤1000000000):PCall Tryz.prog E 48 [.sl 12 (ddE l)] (·=stP l):=by
 refine pcallF mixed Tryz.func48 ck_matter_byStamps ?_
 simp only [a0,l0,OS.ao,List.map_cons,List.map_nil,List.length_cons,List.length_nil,List.cons_append,List.nil_append,Nat.reduceSub,Nat.reduceAdd,List.replicate_succ,List.replicate_zero,ir_matter_byStamps,rs_matter_byStamps,ZZ,WW,Ze,reduceCtorEq,Nat.reduceAdd,Nat.reduceMul,Nat.reduceLeDiff,Nat.reduceLT,Nat.reduceEqDiff]
 simp only [ZZ,WW,Ze,ok_Ks,reduceCtorEq,Nat.reduceAdd,Nat.reduceMul,Nat.reduceLeDiff,Nat.reduceLT,Nat.reduceEqDiff,ddE_len]
 refine loop_intro (fun n fr L=>∃ (k:Nat),k≤l.length∧n=l.length - k∧fr=[oo,oo,oo,.mp (.l 6),oo,oo,oo,.p (.sl 12 (ddE l)),.p (int (l.length:Nat)),.p (int (k:Nat)),oo,oo,oo,oo,oo,oo,oo,oo,oo]∧L=[(.l 6,.mapg (.fl [.s,.i]) (stM (l.take k)) tSt tDd)]) (l.length) [oo,oo,oo,.mp (.l 6),oo,oo,oo,.p (.sl 12 (ddE l)),.p (int (l.length:Nat)),.p (int (0:Nat)),oo,oo,oo,oo,oo,oo,oo,oo,oo] [(.l 6,.mapg (.fl [.s,.i]) (stM (l.take 0)) tSt tDd)] (by simp only [ddE_len,ZZ,WW,Ze,reduceCtorEq,Nat.reduceAdd,Nat.reduceMul,Nat.reduceLeDiff,Nat.reduceLT,Nat.reduceEqDiff];try trivial) (by simp only [List.take_zero,stM,List.foldl_nil,ZZ,WW,Ze,reduceCtorEq,Nat.reduceAdd,Nat.reduceMul,Nat.reduceLeDiff,Nat.reduceLT,Nat.reduceEqDiff];try trivial) ⟨0,by omega,by omega,rfl,rfl⟩ ?_
 rintro n fr L ⟨k,hk,rfl,rfl,rfl⟩
 simp only [ir_matter_byStamps_L0,ZZ,WW,Ze,reduceCtorEq,Nat.reduceAdd,Nat.reduceMul,Nat.reduceLeDiff,Nat.reduceLT,Nat.reduceEqDiff]
 refine br ?_ ?_
 ·intro h
  have hlt:k < l.length:=by have:=of_decide_eq_true h;omega
  obtain ⟨d,hd⟩:∃ d,l[k]?=some d:=⟨_,List.getElem?_eq_getElem hlt⟩
  have hg:=ddE_get hd
  have hs:=stM_next hd
  have hK:enc_K [.str d.site,int d.no]=stK d.site d.no:=rfl
  simp only [ZZ,WW,Ze,ok_Ks,reduceCtorEq,Nat.reduceAdd,Nat.reduceMul,Nat.reduceLeDiff,Nat.reduceLT,Nat.reduceEqDiff,hg,ddE_len,ddC,hK]
  refine ⟨⟨by omega,by omega⟩,by omega,i64_of (by omega) (by omega),?_⟩
  refine end_round (l.length - (k+1)) [oo,oo,oo,.mp (.l 6),oo,oo,oo,.p (.sl 12 (ddE l)),.p (int (l.length:Nat)),.p (int ((k+1):Nat)),oo,oo,oo,oo,oo,oo,oo,oo,oo] [(.l 6,.mapg (.fl [.s,.i]) (stM (l.take (k+1))) tSt tDd)] (by omega) (by (simp only [ZZ,WW,Ze,ok_Ks,reduceCtorEq,Nat.reduceAdd,Nat.reduceMul,Nat.reduceLeDiff,Nat.reduceLT,Nat.reduceEqDiff];try trivial)) (by rw [hs];(simp only [ZZ,WW,Ze,ok_Ks,reduceCtorEq,Nat.reduceAdd,Nat.reduceMul,Nat.reduceLeDiff,Nat.reduceLT,Nat.reduceEqDiff];try trivial)) ⟨k+1,by omega,rfl,rfl,rfl⟩
 ·intro h
  have hge:l.length≤k:=by have:=of_decide_eq_false h;omega
  rw [List.take_of_length_le hge]
  simp only [ZZ,WW,Ze,ok_Ks,reduceCtorEq,Nat.reduceAdd,Nat.reduceMul,Nat.reduceLeDiff,Nat.reduceLT,Nat.reduceEqDiff]
  rfl
set_option maxRecDepth 100000 in
set_option maxHeartbeats 4000000 in
theorem ofError_ok (l:List Dd) (d:Dd):PCall Tryz.prog E 49 [stP l,.agg (ddC d)] (·=int (ofE l d)):=by
 refine pcallF mixed Tryz.func49 ck_matter_ofError ?_
 simp only [a0,l0,OS.ao,List.map_cons,List.map_nil,List.length_cons,List.length_nil,List.cons_append,List.nil_append,Nat.reduceSub,Nat.reduceAdd,List.replicate_succ,List.replicate_zero,ir_matter_ofError,rs_matter_ofError,ZZ,WW,Ze,reduceCtorEq,Nat.reduceAdd,Nat.reduceMul,Nat.reduceLeDiff,Nat.reduceLT,Nat.reduceEqDiff]
 simp only [ddC,stP,ZZ,WW,Ze,reduceCtorEq,Nat.reduceAdd,Nat.reduceMul,Nat.reduceLeDiff,Nat.reduceLT,Nat.reduceEqDiff]
 ((repeat' (with_reducible apply And.intro))<;>try ((exact sc_)))
 unfold ofE
 refine br ?_ ?_
 ·intro h1
  have hb:backB d=false:=by simpa [backB] using h1
  rw [if_neg (by rw [hb];simp)]
  simp only [ZZ,WW,Ze,ok_Ks,reduceCtorEq,Nat.reduceAdd,Nat.reduceMul,Nat.reduceLeDiff,Nat.reduceLT,Nat.reduceEqDiff]
 intro h1
 have hb:backB d=true:=by
  simp only [Bool.and_eq_false_iff,Bool.not_eq_false',decide_eq_true_eq] at h1
  simpa [backB] using h1
 rw [if_pos hb]
 have hK:enc_K [.str d.osite,int d.ono]=stK d.osite d.ono:=rfl
 have hF:=stM_find l d.osite d.ono
 cases hx:lastD l d.osite d.ono with
 |none=>
  rw [hx] at hF
  have hF:mpF (stM l) (stK d.osite d.ono)=none:=hF
  simp only [ZZ,WW,Ze,ok_Ks,reduceCtorEq,Nat.reduceAdd,Nat.reduceMul,Nat.reduceLeDiff,Nat.reduceLT,Nat.reduceEqDiff,hK,zip_kv,mpD,hF,Option.getD_none,Option.isSome_none]
  rfl
 |some x=>
  rw [hx] at hF
  have hF:mpF (stM l) (stK d.osite d.ono)=some (.agg (ddC x)):=hF
  simp only [ZZ,WW,Ze,ok_Ks,reduceCtorEq,Nat.reduceAdd,Nat.reduceMul,Nat.reduceLeDiff,Nat.reduceLT,Nat.reduceEqDiff,hK,zip_kv,mpD,hF,Option.getD_some,Option.isSome_some,ddC]
  refine ⟨fun h=>by rw [h];rfl,?_⟩
  have hm:(decide (x.kind=2) || decide (x.kind=4))=mrkB x:=rfl
  rw [hm]
  refine br ?_ ?_
  ·intro h3
   have h3':d.kind=3:=of_decide_eq_true h3
   simp only [ZZ,WW,Ze,ok_Ks,reduceCtorEq,Nat.reduceAdd,Nat.reduceMul,Nat.reduceLeDiff,Nat.reduceLT,Nat.reduceEqDiff]
   refine use1 (When_ok (!mrkB x) 16) rfl (.inl rfl) ?_
   simp only [ZZ,WW,Ze,ok_Ks,reduceCtorEq,Nat.reduceAdd,Nat.reduceMul,Nat.reduceLeDiff,Nat.reduceLT,Nat.reduceEqDiff]
   rw [ofG,if_pos h3']
  ·intro h3
   have h3':¬ d.kind=3:=of_decide_eq_false h3
   simp only [ZZ,WW,Ze,ok_Ks,reduceCtorEq,Nat.reduceAdd,Nat.reduceMul,Nat.reduceLeDiff,Nat.reduceLT,Nat.reduceEqDiff]
   refine ⟨fun h=>by rw [h];rfl,fun h=>by rw [h];rfl,fun h=>by rw [h];rfl,?_⟩
   refine use1 (When_ok (((mrkB x || decide (x.kind=6)) || !decide (x.site=d.site)) || decide (d.no≤x.no)) 16) rfl (.inl rfl) ?_
   simp only [ZZ,WW,Ze,ok_Ks,reduceCtorEq,Nat.reduceAdd,Nat.reduceMul,Nat.reduceLeDiff,Nat.reduceLT,Nat.reduceEqDiff]
   rw [ofG,if_neg h3']
end
def befD (l:List Dd) (k:Nat):Dd:=if k=0 then dd0 else (l[k - 1]?).getD dd0
theorem befB {l:List Dd} (h:DdsB l) (k:Nat):DdB (befD l k):=by
 have h0:DdB dd0:=by constructor<;>simp [dd0]
 unfold befD
 split
 ·exact h0
 ·cases hx:l[k - 1]? with
  |none=>exact h0
  |some q=>exact h.get hx
def mnF (q d:Dd):Int:=if d.site=q.site then q.no else 0
def lsF (q d:Dd):List UInt8:=if d.site=q.site then q.sum else []
def cdB (k:Nat) (q d:Dd):Bool:=decide (0 < (k:Int)) && decide (stC d.site d.no q.site q.no≤0)
def cdL (k:Nat) (q d:Dd) (m:Int) (s:List UInt8):List Int:=[whenE (!keyB d.site) 5,whenE (cdB k q d) 7,whenE (!decide (d.no=m+1) || !inE d.tm 0 5761439) 1,whenE (!inE d.kind 1 6) 4,formF d,whenE (!decide (d.sum=sumF s d)) 15]
theorem first_at (c:Bool) (m:Int) (s:List UInt8) (d:Dd):firstE [whenE (!keyB d.site) 5,whenE c 7,whenE (!decide (d.no=m+1) || !inE d.tm 0 5761439) 1,whenE (!inE d.kind 1 6) 4,formF d,whenE (!decide (d.sum=sumF s d)) 15]
  = if keyB d.site=false then 5 else if c=true then 7 else if ¬ d.no=m+1 then 1 else if ¬ oneF d=0 then oneF d else if d.sum=sumF s d then 0 else 15:=by
 unfold oneF
 generalize keyB d.site=b1
 generalize inE d.tm 0 5761439=b2
 generalize inE d.kind 1 6=b3
 by_cases e1:d.no=m+1<;>by_cases e2:d.sum=sumF s d<;>by_cases e3:formF d=0
 all_goals cases b1<;>cases c<;>cases b2<;>cases b3<;>simp [firstE,whenE,e1,e2,e3]
theorem chk_first {l:List Dd} {k:Nat} {d:Dd} (hd:l[k]?=some d):firstE (cdL k (befD l k) d (mnF (befD l k) d) (lsF (befD l k) d))=chkI l k:=by
 have hk:=(List.getElem?_eq_some_iff.1 hd).1
 unfold chkI
 rw [hd]
 show _=atF (prevD l k) d
 unfold cdL
 rw [first_at]
 cases k with
 |zero=>
  have e2:mnF dd0 d=0:=by unfold mnF dd0;simp
  have e3:lsF dd0 d=[]:=by unfold lsF dd0;simp
  show (if keyB d.site=false then 5 else if false=true then 7 else if ¬ d.no=mnF dd0 d+1 then 1 else if ¬ oneF d=0 then oneF d else if d.sum=sumF (lsF dd0 d) d then 0 else 15)=_
  rw [e2,e3]
  rfl
 |succ k=>
  obtain ⟨q,hq⟩:∃ q,l[k]?=some q:=⟨_,List.getElem?_eq_getElem (by omega)⟩
  have e1:prevD l (k+1)=some q:=by unfold prevD;simpa using hq
  have e2:befD l (k+1)=q:=by unfold befD;simp [hq]
  rw [e1,e2]
  have an:=cmpD_p.anti q d
  have an2:=cmpD_p.anti d q
  have f1:cdB (k+1) q d=decide (0≤stC q.site q.no d.site d.no):=by
   unfold cdB
   rw [show decide (0 < ((k+1:Nat):Int))=true by simp,Bool.true_and]
   show decide (cmpD d q≤0)=decide (0≤cmpD q d)
   rw [decide_eq_decide]
   omega
  have f2:mnF q d+1=if q.site=d.site then q.no+1 else 1:=by
   unfold mnF
   by_cases e:q.site=d.site
   ·rw [if_pos e,if_pos e.symm]
   ·rw [if_neg e,if_neg (fun h=>e h.symm)];rfl
  have f3:lsF q d=if q.site=d.site then q.sum else []:=by
   unfold lsF
   by_cases e:q.site=d.site
   ·rw [if_pos e,if_pos e.symm]
   ·rw [if_neg e,if_neg (fun h=>e h.symm)]
  rw [f1,f2,f3]
  rfl
set_option maxRecDepth 100000 in
set_option maxHeartbeats 4000000 in
theorem CheckDeeds_ok (l:List Dd) (hB:DdsB l) (hl:l.length≤1000000000):PCall Tryz.prog ED 9 [.sl 12 (ddE l)] (·=.tup [int (ckdF l).1,int (ckdF l).2]):=by
 refine pcallF mixed Tryz.func9 ck_matter_CheckDeeds ?_
 simp only [a0,l0,OS.ao,List.map_cons,List.map_nil,List.length_cons,List.length_nil,List.cons_append,List.nil_append,Nat.reduceSub,Nat.reduceAdd,List.replicate_succ,List.replicate_zero,ir_matter_CheckDeeds,rs_matter_CheckDeeds,ZZ,WW,Ze,reduceCtorEq,Nat.reduceAdd,Nat.reduceMul,Nat.reduceLeDiff,Nat.reduceLT,Nat.reduceEqDiff]
 simp only [ZZ,WW,Ze,ok_Ks,reduceCtorEq,Nat.reduceAdd,Nat.reduceMul,Nat.reduceLeDiff,Nat.reduceLT,Nat.reduceEqDiff,ddE_len]
 unfold ckdF
 refine br ?_ ?_
 ·intro h
  have h:2000 < l.length:=by have:=of_decide_eq_true h;omega
  simp only [ZZ,WW,Ze,ok_Ks,reduceCtorEq,Nat.reduceAdd,Nat.reduceMul,Nat.reduceLeDiff,Nat.reduceLT,Nat.reduceEqDiff]
  rw [if_pos h]
 intro h
 have h2000:l.length≤2000:=by have:=of_decide_eq_false h;omega
 rw [if_neg (by omega)]
 clear h
 simp only [ZZ,WW,Ze,ok_Ks,reduceCtorEq,Nat.reduceAdd,Nat.reduceMul,Nat.reduceLeDiff,Nat.reduceLT,Nat.reduceEqDiff,ddE_len]
 refine loop_intro (fun n fr L=>∃ (k:Nat),k≤l.length∧n=l.length - k∧(∀ j,j < k→chkI l j=0)∧fr=[.p (.sl 12 (ddE l)),oo,.p (int 0),.p (int 0),.adr (.l 4) 0,.p (int (befD l k).no),.p (.str (befD l k).sum),oo,oo,oo,oo,oo,oo,oo,oo,oo,oo,oo,.p (.sl 12 (ddE l)),.p (int (l.length:Nat)),.p (int (k:Nat)),oo,oo,oo,oo,oo,oo,oo,oo,oo,oo,oo,oo,oo,oo,oo,oo,oo,oo,oo,oo,oo,oo,oo,oo,oo,oo,oo,oo,oo,oo,oo,oo,oo,oo,oo,oo,oo,oo,oo,oo,oo,oo,oo,oo,oo,oo,oo,oo,oo,oo,oo,oo,oo,oo,oo,oo,oo,oo,oo,oo,oo,oo,oo,oo,oo,oo,oo,oo,oo,oo,oo,oo,oo,oo,oo,oo,oo,oo,oo,oo,oo,oo,oo,oo,oo]∧L=[(.l 4,.box [.p (.str (befD l k).site),.p (int (befD l k).no),.p (int (befD l k).tm),.p (int (befD l k).kind),.p (.str (befD l k).id),.p (.str (befD l k).field),.p (.str (befD l k).value),.p (int (befD l k).frm),.p (int (befD l k).upto),.p (.str (befD l k).osite),.p (int (befD l k).ono),.p (.str (befD l k).sum)] tDd)]) (l.length) [.p (.sl 12 (ddE l)),oo,.p (int 0),.p (int 0),.adr (.l 4) 0,.p (int (befD l 0).no),.p (.str (befD l 0).sum),oo,oo,oo,oo,oo,oo,oo,oo,oo,oo,oo,.p (.sl 12 (ddE l)),.p (int (l.length:Nat)),.p (int (0:Nat)),oo,oo,oo,oo,oo,oo,oo,oo,oo,oo,oo,oo,oo,oo,oo,oo,oo,oo,oo,oo,oo,oo,oo,oo,oo,oo,oo,oo,oo,oo,oo,oo,oo,oo,oo,oo,oo,oo,oo,oo,oo,oo,oo,oo,oo,oo,oo,oo,oo,oo,oo,oo,oo,oo,oo,oo,oo,oo,oo,oo,oo,oo,oo,oo,oo,oo,oo,oo,oo,oo,oo,oo,oo,oo,oo,oo,oo,oo,oo,oo,oo,oo,oo,oo,oo] [(.l 4,.box [.p (.str (befD l 0).site),.p (int (befD l 0).no),.p (int (befD l 0).tm),.p (int (befD l 0).kind),.p (.str (befD l 0).id),.p (.str (befD l 0).field),.p (.str (befD l 0).value),.p (int (befD l 0).frm),.p (int (befD l 0).upto),.p (.str (befD l 0).osite),.p (int (befD l 0).ono),.p (.str (befD l 0).sum)] tDd)] (by simp only [ddE_len,befD,dd0,if_true,ZZ,WW,Ze,reduceCtorEq,Nat.reduceAdd,Nat.reduceMul,Nat.reduceLeDiff,Nat.reduceLT,Nat.reduceEqDiff];try trivial) (by simp only [befD,dd0,if_true,ZZ,WW,Ze,reduceCtorEq,Nat.reduceAdd,Nat.reduceMul,Nat.reduceLeDiff,Nat.reduceLT,Nat.reduceEqDiff];try trivial) ⟨0,by omega,by omega,by omega,rfl,rfl⟩ ?_
 rintro n fr L ⟨k,hk,rfl,hno,rfl,rfl⟩
 simp only [ir_matter_CheckDeeds_L0,ZZ,WW,Ze,reduceCtorEq,Nat.reduceAdd,Nat.reduceMul,Nat.reduceLeDiff,Nat.reduceLT,Nat.reduceEqDiff]
 refine br ?_ ?_
 ·intro h
  have hlt:k < l.length:=by have:=of_decide_eq_true h;omega
  obtain ⟨d,hd⟩:∃ d,l[k]?=some d:=⟨_,List.getElem?_eq_getElem hlt⟩
  have hg:=ddE_get hd
  have hc:=chk_first hd
  have dB:=hB.get hd
  have b1:=dB.b1
  obtain ⟨q,hq⟩:∃ q,befD l k=q:=⟨_,rfl⟩
  rw [hq] at hc ⊢
  simp only [ZZ,WW,Ze,ok_Ks,reduceCtorEq,Nat.reduceAdd,Nat.reduceMul,Nat.reduceLeDiff,Nat.reduceLT,Nat.reduceEqDiff,hg,ddE_len,ddC]
  refine ⟨⟨by omega,by omega⟩,by omega,?_⟩
  refine br_join (fun fr L=>fr=[.p (.sl 12 (ddE l)),oo,.p (int 0),.p (int 0),.adr (.l 4) 0,.p (int (mnF q d)),.p (.str (lsF q d)),.p (int (k:Nat)),.adr (.l 8) 0,oo,oo,oo,oo,oo,oo,oo,oo,oo,.p (.sl 12 (ddE l)),.p (int (l.length:Nat)),.p (int (k:Nat)),oo,oo,oo,oo,oo,oo,oo,oo,oo,oo,oo,oo,oo,oo,oo,oo,oo,oo,oo,oo,oo,oo,oo,oo,oo,oo,oo,oo,oo,oo,oo,oo,oo,oo,oo,oo,oo,oo,oo,oo,oo,oo,oo,oo,oo,oo,oo,oo,oo,oo,oo,oo,oo,oo,oo,oo,oo,oo,oo,oo,oo,oo,oo,oo,oo,oo,oo,oo,oo,oo,oo,oo,oo,oo,oo,oo,oo,oo,oo,oo,oo,oo,oo,oo,oo]∧L=[(.l 4,.box [.p (.str q.site),.p (int q.no),.p (int q.tm),.p (int q.kind),.p (.str q.id),.p (.str q.field),.p (.str q.value),.p (int q.frm),.p (int q.upto),.p (.str q.osite),.p (int q.ono),.p (.str q.sum)] tDd),(.l 8,.box [.p (.str d.site),.p (int d.no),.p (int d.tm),.p (int d.kind),.p (.str d.id),.p (.str d.field),.p (.str d.value),.p (int d.frm),.p (int d.upto),.p (.str d.osite),.p (int d.ono),.p (.str d.sum)] tDd)]) ?_ ?_ ?_
  ·intro h1
   have h1:¬ d.site=q.site:=by simpa using h1
   have hN:mnF q d=0:=by rw [mnF,if_neg h1]
   have hS:lsF q d=[]:=by rw [lsF,if_neg h1]
   simp only [ZZ,WW,Ze,ok_Ks,reduceCtorEq,Nat.reduceAdd,Nat.reduceMul,Nat.reduceLeDiff,Nat.reduceLT,Nat.reduceEqDiff]
   exact to_mid [.p (.sl 12 (ddE l)),oo,.p (int 0),.p (int 0),.adr (.l 4) 0,.p (int (mnF q d)),.p (.str (lsF q d)),.p (int (k:Nat)),.adr (.l 8) 0,oo,oo,oo,oo,oo,oo,oo,oo,oo,.p (.sl 12 (ddE l)),.p (int (l.length:Nat)),.p (int (k:Nat)),oo,oo,oo,oo,oo,oo,oo,oo,oo,oo,oo,oo,oo,oo,oo,oo,oo,oo,oo,oo,oo,oo,oo,oo,oo,oo,oo,oo,oo,oo,oo,oo,oo,oo,oo,oo,oo,oo,oo,oo,oo,oo,oo,oo,oo,oo,oo,oo,oo,oo,oo,oo,oo,oo,oo,oo,oo,oo,oo,oo,oo,oo,oo,oo,oo,oo,oo,oo,oo,oo,oo,oo,oo,oo,oo,oo,oo,oo,oo,oo,oo,oo,oo,oo,oo] [(.l 4,.box [.p (.str q.site),.p (int q.no),.p (int q.tm),.p (int q.kind),.p (.str q.id),.p (.str q.field),.p (.str q.value),.p (int q.frm),.p (int q.upto),.p (.str q.osite),.p (int q.ono),.p (.str q.sum)] tDd),(.l 8,.box [.p (.str d.site),.p (int d.no),.p (int d.tm),.p (int d.kind),.p (.str d.id),.p (.str d.field),.p (.str d.value),.p (int d.frm),.p (int d.upto),.p (.str d.osite),.p (int d.ono),.p (.str d.sum)] tDd)] (by rw [hN,hS];(simp only [ZZ,WW,Ze,ok_Ks,reduceCtorEq,Nat.reduceAdd,Nat.reduceMul,Nat.reduceLeDiff,Nat.reduceLT,Nat.reduceEqDiff];try trivial)) zE_ ⟨rfl,rfl⟩
  ·intro h1
   have h1:d.site=q.site:=by simpa using h1
   have hN:mnF q d=q.no:=by rw [mnF,if_pos h1]
   have hS:lsF q d=q.sum:=by rw [lsF,if_pos h1]
   simp only [ZZ,WW,Ze,ok_Ks,reduceCtorEq,Nat.reduceAdd,Nat.reduceMul,Nat.reduceLeDiff,Nat.reduceLT,Nat.reduceEqDiff]
   exact to_mid [.p (.sl 12 (ddE l)),oo,.p (int 0),.p (int 0),.adr (.l 4) 0,.p (int (mnF q d)),.p (.str (lsF q d)),.p (int (k:Nat)),.adr (.l 8) 0,oo,oo,oo,oo,oo,oo,oo,oo,oo,.p (.sl 12 (ddE l)),.p (int (l.length:Nat)),.p (int (k:Nat)),oo,oo,oo,oo,oo,oo,oo,oo,oo,oo,oo,oo,oo,oo,oo,oo,oo,oo,oo,oo,oo,oo,oo,oo,oo,oo,oo,oo,oo,oo,oo,oo,oo,oo,oo,oo,oo,oo,oo,oo,oo,oo,oo,oo,oo,oo,oo,oo,oo,oo,oo,oo,oo,oo,oo,oo,oo,oo,oo,oo,oo,oo,oo,oo,oo,oo,oo,oo,oo,oo,oo,oo,oo,oo,oo,oo,oo,oo,oo,oo,oo,oo,oo,oo,oo] [(.l 4,.box [.p (.str q.site),.p (int q.no),.p (int q.tm),.p (int q.kind),.p (.str q.id),.p (.str q.field),.p (.str q.value),.p (int q.frm),.p (int q.upto),.p (.str q.osite),.p (int q.ono),.p (.str q.sum)] tDd),(.l 8,.box [.p (.str d.site),.p (int d.no),.p (int d.tm),.p (int d.kind),.p (.str d.id),.p (.str d.field),.p (.str d.value),.p (int d.frm),.p (int d.upto),.p (.str d.osite),.p (int d.ono),.p (.str d.sum)] tDd)] (by rw [hN,hS];(simp only [ZZ,WW,Ze,ok_Ks,reduceCtorEq,Nat.reduceAdd,Nat.reduceMul,Nat.reduceLeDiff,Nat.reduceLT,Nat.reduceEqDiff];try trivial)) zE_ ⟨rfl,rfl⟩
  rintro fr L ⟨rfl,rfl⟩
  have qB:DdB q:=hq ▸ befB hB k
  have q6:=qB.b6
  have q1:=qB.c1
  have hSl:(lsF q d).length≤1000:=by unfold lsF;split;exact q6;simp
  have hNb:-1000000000000≤mnF q d∧mnF q d≤1000000000000:=by unfold mnF;split<;>omega
  generalize mnF q d=N at *
  generalize lsF q d=S at *
  simp only [ZZ,WW,Ze,ok_Ks,reduceCtorEq,Nat.reduceAdd,Nat.reduceMul,Nat.reduceLeDiff,Nat.reduceLT,Nat.reduceEqDiff]
  refine ⟨[.bool (keyB d.site),int (whenE (!keyB d.site) 5),int (stC d.site d.no q.site q.no),int (whenE (cdB k q d) 7),.bool (inE d.tm 0 5761439),int (whenE (!decide (d.no=N+1) || !inE d.tm 0 5761439) 1),.bool (inE d.kind 1 6),int (whenE (!inE d.kind 1 6) 4),int (formF d),.str (sumF S d),int (whenE (!decide (d.sum=sumF S d)) 15),int (firstE (cdL k q d N S))],?_⟩
  simp only [ZZ,WW,Ze,ok_Ks,reduceCtorEq,Nat.reduceAdd,Nat.reduceMul,Nat.reduceLeDiff,Nat.reduceLT,Nat.reduceEqDiff]
  refine ⟨usep (Key_ok d.site (by omega)) rfl (.inl rfl),usep (When_ok (!keyB d.site) 5) rfl (.inl rfl),fun h=>⟨h,usep (byStamp_ok d.site d.no q.site q.no) rfl (.inl rfl)⟩,usep (When_ok (cdB k q d) 7) rfl (.inl rfl),i64_of (by omega) (by omega),fun h=>⟨h,usep (Moment_ok d.tm) rfl (.inl rfl)⟩,fun h=>by rw [h];rfl,usep (When_ok (!decide (d.no=N+1) || !inE d.tm 0 5761439) 1) rfl (.inl rfl),usep (In_ok d.kind 1 6) rfl (.inl rfl),usep (When_ok (!inE d.kind 1 6) 4) rfl (.inl rfl),usep (upD (formError_ok d dB)) rfl (.inl rfl),usep (sum_ok d dB S hSl) rfl (.inl rfl),usep (When_ok (!decide (d.sum=sumF S d)) 15) rfl (.inl rfl),usep (First_ok (cdL k q d N S) (by simp [cdL])) rfl (.inl rfl),?_⟩
  rw [hc]
  refine br ?_ ?_
  ·intro h6
   have h6:¬ chkI l k=0:=by simpa using h6
   have hs:=scan_hit hlt hno h6
   simp only [ZZ,WW,Ze,ok_Ks,reduceCtorEq,Nat.reduceAdd,Nat.reduceMul,Nat.reduceLeDiff,Nat.reduceLT,Nat.reduceEqDiff]
   rw [hs,if_neg h6]
  ·intro h6
   have h6:chkI l k=0:=by simpa using h6
   have e:befD l (k+1)=d:=by unfold befD;simp [hd]
   simp only [ZZ,WW,Ze,ok_Ks,reduceCtorEq,Nat.reduceAdd,Nat.reduceMul,Nat.reduceLeDiff,Nat.reduceLT,Nat.reduceEqDiff]
   refine drg0 ?_
   simp only [ZZ,WW,Ze,ok_Ks,reduceCtorEq,Nat.reduceAdd,Nat.reduceMul,Nat.reduceLeDiff,Nat.reduceLT,Nat.reduceEqDiff]
   refine ⟨i64_of (by omega) (by omega),?_⟩
   refine end_round (l.length - (k+1)) [.p (.sl 12 (ddE l)),oo,.p (int 0),.p (int 0),.adr (.l 4) 0,.p (int (befD l (k+1)).no),.p (.str (befD l (k+1)).sum),oo,oo,oo,oo,oo,oo,oo,oo,oo,oo,oo,.p (.sl 12 (ddE l)),.p (int (l.length:Nat)),.p (int ((k+1):Nat)),oo,oo,oo,oo,oo,oo,oo,oo,oo,oo,oo,oo,oo,oo,oo,oo,oo,oo,oo,oo,oo,oo,oo,oo,oo,oo,oo,oo,oo,oo,oo,oo,oo,oo,oo,oo,oo,oo,oo,oo,oo,oo,oo,oo,oo,oo,oo,oo,oo,oo,oo,oo,oo,oo,oo,oo,oo,oo,oo,oo,oo,oo,oo,oo,oo,oo,oo,oo,oo,oo,oo,oo,oo,oo,oo,oo,oo,oo,oo,oo,oo,oo,oo,oo,oo] [(.l 4,.box [.p (.str (befD l (k+1)).site),.p (int (befD l (k+1)).no),.p (int (befD l (k+1)).tm),.p (int (befD l (k+1)).kind),.p (.str (befD l (k+1)).id),.p (.str (befD l (k+1)).field),.p (.str (befD l (k+1)).value),.p (int (befD l (k+1)).frm),.p (int (befD l (k+1)).upto),.p (.str (befD l (k+1)).osite),.p (int (befD l (k+1)).ono),.p (.str (befD l (k+1)).sum)] tDd)] (by omega) (by rw [e];(simp only [ZZ,WW,Ze,ok_Ks,reduceCtorEq,Nat.reduceAdd,Nat.reduceMul,Nat.reduceLeDiff,Nat.reduceLT,Nat.reduceEqDiff];try trivial)) (by rw [e];(simp only [ZZ,WW,Ze,ok_Ks,reduceCtorEq,Nat.reduceAdd,Nat.reduceMul,Nat.reduceLeDiff,Nat.reduceLT,Nat.reduceEqDiff];try trivial)) ⟨k+1,by omega,rfl,by intro j hj;rcases Nat.lt_or_ge j k with h'|h';exact hno j h';rw [show j=k by omega,h6],rfl,rfl⟩
 ·intro h
  have hge:l.length≤k:=by have:=of_decide_eq_false h;omega
  have hs:=scan_none (g:=chkI l) (N:=l.length) (fun j hj=>hno j (by omega))
  have hz:∀ j,j < l.length→chkI l j=0:=fun j hj=>hno j (by omega)
  rw [hs]
  simp only [if_true]
  generalize befD l k=q
  clear hs hno
  simp only [ZZ,WW,Ze,ok_Ks,reduceCtorEq,Nat.reduceAdd,Nat.reduceMul,Nat.reduceLeDiff,Nat.reduceLT,Nat.reduceEqDiff,ddE_len]
  refine use1 (byStamps_ok l (by omega)) rfl (.inl rfl) ?_
  simp only [ZZ,WW,Ze,ok_Ks,reduceCtorEq,Nat.reduceAdd,Nat.reduceMul,Nat.reduceLeDiff,Nat.reduceLT,Nat.reduceEqDiff,ddE_len]
  refine loop_intro (fun n fr L=>∃ (k:Nat),k≤l.length∧n=l.length - k∧(∀ j,j < k→ofI l j=0)∧fr=[oo,oo,.p (int 0),.p (int 0),.adr (.l 4) 0,oo,oo,oo,oo,oo,.p (stP l),oo,oo,oo,oo,oo,oo,oo,oo,oo,oo,oo,oo,oo,oo,oo,oo,oo,oo,oo,oo,oo,oo,oo,oo,oo,oo,oo,oo,oo,oo,oo,oo,oo,oo,oo,oo,oo,oo,oo,oo,oo,oo,oo,oo,oo,oo,oo,oo,oo,oo,oo,oo,oo,oo,oo,oo,oo,oo,oo,oo,oo,oo,oo,oo,oo,oo,oo,oo,oo,oo,oo,oo,oo,oo,oo,oo,oo,oo,oo,oo,.p (.sl 12 (ddE l)),.p (int (l.length:Nat)),.p (int (k:Nat)),oo,oo,oo,oo,oo,oo,oo,oo,oo,oo,oo,oo]∧L=[(.l 4,.box [.p (.str q.site),.p (int q.no),.p (int q.tm),.p (int q.kind),.p (.str q.id),.p (.str q.field),.p (.str q.value),.p (int q.frm),.p (int q.upto),.p (.str q.osite),.p (int q.ono),.p (.str q.sum)] tDd)]) (l.length) [oo,oo,.p (int 0),.p (int 0),.adr (.l 4) 0,oo,oo,oo,oo,oo,.p (stP l),oo,oo,oo,oo,oo,oo,oo,oo,oo,oo,oo,oo,oo,oo,oo,oo,oo,oo,oo,oo,oo,oo,oo,oo,oo,oo,oo,oo,oo,oo,oo,oo,oo,oo,oo,oo,oo,oo,oo,oo,oo,oo,oo,oo,oo,oo,oo,oo,oo,oo,oo,oo,oo,oo,oo,oo,oo,oo,oo,oo,oo,oo,oo,oo,oo,oo,oo,oo,oo,oo,oo,oo,oo,oo,oo,oo,oo,oo,oo,oo,.p (.sl 12 (ddE l)),.p (int (l.length:Nat)),.p (int (0:Nat)),oo,oo,oo,oo,oo,oo,oo,oo,oo,oo,oo,oo] [(.l 4,.box [.p (.str q.site),.p (int q.no),.p (int q.tm),.p (int q.kind),.p (.str q.id),.p (.str q.field),.p (.str q.value),.p (int q.frm),.p (int q.upto),.p (.str q.osite),.p (int q.ono),.p (.str q.sum)] tDd)] (by simp only [ddE_len,ZZ,WW,Ze,reduceCtorEq,Nat.reduceAdd,Nat.reduceMul,Nat.reduceLeDiff,Nat.reduceLT,Nat.reduceEqDiff];try trivial) (by (simp only [ZZ,WW,Ze,ok_Ks,reduceCtorEq,Nat.reduceAdd,Nat.reduceMul,Nat.reduceLeDiff,Nat.reduceLT,Nat.reduceEqDiff];try trivial)) ⟨0,by omega,by omega,by omega,rfl,rfl⟩ ?_
  rintro n fr L ⟨k,hk,rfl,hno,rfl,rfl⟩
  simp only [ir_matter_CheckDeeds_L1,ZZ,WW,Ze,reduceCtorEq,Nat.reduceAdd,Nat.reduceMul,Nat.reduceLeDiff,Nat.reduceLT,Nat.reduceEqDiff]
  refine br ?_ ?_
  ·intro h
   have hlt:k < l.length:=by have:=of_decide_eq_true h;omega
   obtain ⟨d,hd⟩:∃ d,l[k]?=some d:=⟨_,List.getElem?_eq_getElem hlt⟩
   have hg:=ddE_get hd
   have hc:ofI l k=ofF l d:=by unfold ofI;rw [hd]
   simp only [ZZ,WW,Ze,ok_Ks,reduceCtorEq,Nat.reduceAdd,Nat.reduceMul,Nat.reduceLeDiff,Nat.reduceLT,Nat.reduceEqDiff,hg,ddE_len,ddC]
   refine ⟨⟨by omega,by omega⟩,by omega,?_⟩
   refine use1 (ofError_ok l d) rfl (.inl rfl) ?_
   rw [ofE_eq hz]
   simp only [ZZ,WW,Ze,ok_Ks,reduceCtorEq,Nat.reduceAdd,Nat.reduceMul,Nat.reduceLeDiff,Nat.reduceLT,Nat.reduceEqDiff]
   refine br ?_ ?_
   ·intro h2
    have h2:¬ ofF l d=0:=by simpa using h2
    have hs:=scan_hit hlt hno (by rw [hc];exact h2)
    rw [hc] at hs
    simp only [ZZ,WW,Ze,ok_Ks,reduceCtorEq,Nat.reduceAdd,Nat.reduceMul,Nat.reduceLeDiff,Nat.reduceLT,Nat.reduceEqDiff]
    rw [hs]
   ·intro h2
    have h2:ofF l d=0:=by simpa using h2
    simp only [ZZ,WW,Ze,ok_Ks,reduceCtorEq,Nat.reduceAdd,Nat.reduceMul,Nat.reduceLeDiff,Nat.reduceLT,Nat.reduceEqDiff]
    ((repeat' (with_reducible apply And.intro))<;>try ((exact sc_)))
    refine end_round (l.length - (k+1)) [oo,oo,.p (int 0),.p (int 0),.adr (.l 4) 0,oo,oo,oo,oo,oo,.p (stP l),oo,oo,oo,oo,oo,oo,oo,oo,oo,oo,oo,oo,oo,oo,oo,oo,oo,oo,oo,oo,oo,oo,oo,oo,oo,oo,oo,oo,oo,oo,oo,oo,oo,oo,oo,oo,oo,oo,oo,oo,oo,oo,oo,oo,oo,oo,oo,oo,oo,oo,oo,oo,oo,oo,oo,oo,oo,oo,oo,oo,oo,oo,oo,oo,oo,oo,oo,oo,oo,oo,oo,oo,oo,oo,oo,oo,oo,oo,oo,oo,.p (.sl 12 (ddE l)),.p (int (l.length:Nat)),.p (int ((k+1):Nat)),oo,oo,oo,oo,oo,oo,oo,oo,oo,oo,oo,oo] [(.l 4,.box [.p (.str q.site),.p (int q.no),.p (int q.tm),.p (int q.kind),.p (.str q.id),.p (.str q.field),.p (.str q.value),.p (int q.frm),.p (int q.upto),.p (.str q.osite),.p (int q.ono),.p (.str q.sum)] tDd)] (by omega) (by (simp only [ZZ,WW,Ze,ok_Ks,reduceCtorEq,Nat.reduceAdd,Nat.reduceMul,Nat.reduceLeDiff,Nat.reduceLT,Nat.reduceEqDiff];try trivial)) (by (simp only [ZZ,WW,Ze,ok_Ks,reduceCtorEq,Nat.reduceAdd,Nat.reduceMul,Nat.reduceLeDiff,Nat.reduceLT,Nat.reduceEqDiff];try trivial)) ⟨k+1,by omega,rfl,by intro j hj;rcases Nat.lt_or_ge j k with h'|h';exact hno j h';rw [show j=k by omega,hc,h2],rfl,rfl⟩
  ·intro h
   have hge:l.length≤k:=by have:=of_decide_eq_false h;omega
   have hs:=scan_none (g:=ofI l) (N:=l.length) (fun j hj=>hno j (by omega))
   simp only [ZZ,WW,Ze,ok_Ks,reduceCtorEq,Nat.reduceAdd,Nat.reduceMul,Nat.reduceLeDiff,Nat.reduceLT,Nat.reduceEqDiff]
   rw [hs]
theorem listError_ok (l:List Dd) (hB:DdsB l) (hl:l.length≤1000000000):PCall Tryz.prog ED 59 [.sl 12 (ddE l)] (·=int (ckdF l).2):=by
 refine pcallF mixed Tryz.func59 ck_matter_listError ?_
 simp only [a0,l0,OS.ao,List.map_cons,List.map_nil,List.length_cons,List.length_nil,List.cons_append,List.nil_append,Nat.reduceSub,Nat.reduceAdd,List.replicate_succ,List.replicate_zero,ir_matter_listError,rs_matter_listError,ZZ,WW,Ze,reduceCtorEq,Nat.reduceAdd,Nat.reduceMul,Nat.reduceLeDiff,Nat.reduceLT,Nat.reduceEqDiff]
 refine use1 (CheckDeeds_ok l hB hl) rfl (.inl rfl) ?_
 simp only [ZZ,WW,Ze,ok_Ks,reduceCtorEq,Nat.reduceAdd,Nat.reduceMul,Nat.reduceLeDiff,Nat.reduceLT,Nat.reduceEqDiff]
def ir_slices_BinarySearchFunc_api_Deed_api_Deed_api_Stamp_L0:IC:=(.seq (.seq (.reg [qM 15 9,qM 16 10,qO 17 (.bin .lss (.t 15) (.t 16))]) (.cond (.t 17) .skip (.exit 0))) (.block 1 (.seq (.reg [qM 18 9,qM 19 10,qO 20 (.bin .add (.t 18) (.t 19)),qO 21 (.cvi .u64 (.t 20)),qO 22 (.bin .shr (.t 21) (.c (.int .u64 1))),qO 23 (.cvi .i64 (.t 22)),qM 11 23]) (.seq (.drg [qM 24 2,qM 25 0,qM 26 11,qO 27 (.ixa 12 (.t 25) (.t 26)),qO 28 (.ld 12 true (.t 27)),qO 29 (.ld 2 true (.t 4)),qO 30 (.callv (.t 24) [.t 28,.t 29]),qO 31 (.bin .lss (.t 30) (.c (.int .i64 0)))]) (.cond (.t 31) (.reg [qM 32 11,qO 33 (.bin .add (.t 32) (.c (.int .i64 1))),qM 9 33]) (.reg [qM 34 11,qM 10 34]))))))
def ir_slices_BinarySearchFunc_api_Deed_api_Deed_api_Stamp:IC:=(.seq (.reg [qO 4 (.box 43 (.t 1)),qO 6 (.mov (.c (.int .i64 0))),qO 7 (.mov (.c (.bool false)))]) (.seq (.reg [qM 12 0,qO 13 (.len (.t 12)),qM 8 13]) (.seq (.reg [qM 14 8,qO 9 (.mov (.c (.int .i64 0))),qM 10 14]) (.seq (.block 0 (.loop ir_slices_BinarySearchFunc_api_Deed_api_Deed_api_Stamp_L0)) (.seq (.drg [qM 35 9,qM 36 9,qM 37 8,qO 38 (.bin .lss (.t 36) (.t 37)),qM 39 38,⟨some 40,.mov (.t 2),(some (39,true))⟩,⟨some 41,.mov (.t 0),(some (39,true))⟩,⟨some 42,.mov (.t 9),(some (39,true))⟩,⟨some 43,.ixa 12 (.t 41) (.t 42),(some (39,true))⟩,⟨some 44,.ld 12 true (.t 43),(some (39,true))⟩,⟨some 45,.ld 2 true (.t 4),(some (39,true))⟩,⟨some 46,.pcv 0 (.t 40) [.t 44,.t 45],(some (39,true))⟩,⟨some 47,.bin .eql (.t 46) (.c (.int .i64 0)),(some (39,true))⟩,qO 48 (.pick (.t 39) (.t 47) (.c (.bool false))),qM 6 35,qM 7 48]) .ret)))))
def rs_slices_BinarySearchFunc_api_Deed_api_Deed_api_Stamp:List IRes:=[.t 6,.t 7]
theorem ck_slices_BinarySearchFunc_api_Deed_api_Deed_api_Stamp:chkF Tryz.prog Tryz.f94 ir_slices_BinarySearchFunc_api_Deed_api_Deed_api_Stamp rs_slices_BinarySearchFunc_api_Deed_api_Deed_api_Stamp 49=true:=by kernel_rfl
def ir_matter_added_1:IC:=(.seq (.reg [qO 2 (.box 45 (.t 0)),qO 3 (.box 43 (.t 1)),qO 4 (.mov (.c (.int .i64 0)))]) (.seq (.reg [qO 5 (.fla 0 (.t 2)),qO 6 (.ld 2 true (.t 5)),qO 7 (.ld 2 true (.t 3)),qO 8 (.call 43 [.t 6,.t 7]),qM 4 8]) .ret))
def rs_matter_added_1:List IRes:=[.t 4]
theorem ck_matter_added_1:chkF Tryz.prog Tryz.f95 ir_matter_added_1 rs_matter_added_1 9=true:=by kernel_rfl
def ir_matter_tip_L0:IC:=(.seq (.reg [qO 13 (.bin .lss (.t 12) (.t 11))]) (.seq (.cond (.t 13) .skip (.exit 0)) (.seq (.block 1 (.seq (.reg [qO 14 (.ixa 12 (.t 10) (.t 12)),qO 15 (.ld 12 true (.t 14)),qO 9 (.alc 45 [.str [],.int .i64 0,.int .i64 0,.int .i64 0,.str [],.str [],.str [],.int .i64 0,.int .i64 0,.str [],.int .i64 0,.str []]),⟨none,.st 12 (.t 9) (.t 15),none⟩]) (.seq (.reg [qO 16 (.fla 0 (.t 9)),qO 17 (.fla 0 (.t 16)),qO 18 (.ld 1 false (.t 17)),qM 19 1,qO 20 (.bin .eql (.t 18) (.t 19))]) (.cond (.t 20) (.drg [qO 21 (.fla 0 (.t 9)),qO 22 (.fla 1 (.t 21)),qO 23 (.ld 1 false (.t 22)),qO 24 (.fla 11 (.t 9)),qO 25 (.ld 1 false (.t 24)),qM 6 23,qM 7 25]) .skip)))) (.cut (.reg [qO 26 (.bin .add (.t 12) (.c (.int .i64 1))),qM 12 26])))))
def ir_matter_tip:IC:=(.seq (.reg [qO 4 (.mov (.c (.int .i64 0))),qO 5 (.mov (.c (.str [])))]) (.seq (.reg [qO 6 (.mov (.c (.int .i64 0))),qO 7 (.mov (.c (.str [])))]) (.seq (.seq (.reg [qM 10 0,qO 11 (.len (.t 10)),qO 12 (.mov (.c (.int .i64 0)))]) (.block 0 (.loop ir_matter_tip_L0))) (.seq (.reg [qM 27 6,qM 28 7,qM 4 27,qM 5 28]) .ret))))
def rs_matter_tip:List IRes:=[.t 4,.t 5]
theorem ck_matter_tip:chkF Tryz.prog Tryz.f60 ir_matter_tip rs_matter_tip 29=true:=by kernel_rfl
def ir_matter_siteError:IC:=(.seq (.reg [qO 6 (.mov (.c (.int .i64 0)))]) (.seq (.reg [qM 7 0,qO 8 (.call 59 [.t 7]),qM 9 1,qO 10 (.call 42 [.t 9]),qO 11 (.not (.t 10)),qO 12 (.call 41 [.t 11,.c (.int .i64 5)]),qM 13 0,qO 14 (.len (.t 13)),qO 15 (.bin .eql (.t 14) (.c (.int .i64 2000))),qO 16 (.call 41 [.t 15,.c (.int .i64 12)]),qM 17 2,qO 18 (.call 44 [.t 17]),qO 19 (.not (.t 18)),qO 20 (.call 41 [.t 19,.c (.int .i64 1)]),qO 21 (.bsl 1 [.t 8,.t 12,.t 16,.t 20]),qO 22 (.call 40 [.t 21]),qM 6 22]) .ret))
def rs_matter_siteError:List IRes:=[.t 6]
theorem ck_matter_siteError:chkF Tryz.prog Tryz.f56 ir_matter_siteError rs_matter_siteError 23=true:=by kernel_rfl
theorem ops_pcvg {P:Program} {E:Envt} {X:List PV} {fr:List AV} {L:Objs} {K:List AV→Objs→Prop} {d:Option Nat} {n:Nat} {g:Opd} {args:List Opd} {is:List IOper} {s:Nat} {want:Bool}:awpOps P E X (⟨d,.pcv n g args,some (s,want)⟩ :: is) fr L K=(match Zh fr s want with
  |some c0=>(match Zar fr g with
   |some (f,ks)=>(c0=true→(rd fr g).un.1∧fnB P f=true∧Zl L ks=true∧Zm fr args∧PcK P E f (Zn fr args++ks) L (X.getD n (.bool false)))∧awpOps P E X is (Zg fr d (.g c0 (.p (X.getD n (.bool false))))) L K
   |none=>False)
  |none=>False):=by
 simp only [awpOps]
 cases Zh fr s want with
 |none=>rfl
 |some c0=>cases h:Zar fr g with
  |none=>rfl
  |some q=>obtain ⟨f,ks⟩:=q;rfl
abbrev fAd1:FuncId:=95
section
variable {E:Envt}
theorem added1_ok (x:Dd) (s:List UInt8) (n:Int):PCall Tryz.prog E fAd1 [.agg (ddC x),.agg [.str s,int n]] (·=int (stC x.site x.no s n)):=by
 refine pcallF mixed Tryz.func95 ck_matter_added_1 ?_
 simp only [a0,l0,OS.ao,List.map_cons,List.map_nil,List.length_cons,List.length_nil,List.cons_append,List.nil_append,Nat.reduceSub,Nat.reduceAdd,List.replicate_succ,List.replicate_zero,ir_matter_added_1,rs_matter_added_1,ZZ,WW,Ze,reduceCtorEq,Nat.reduceAdd,Nat.reduceMul,Nat.reduceLeDiff,Nat.reduceLT,Nat.reduceEqDiff]
 simp only [ddC,ZZ,WW,Ze,reduceCtorEq,Nat.reduceAdd,Nat.reduceMul,Nat.reduceLeDiff,Nat.reduceLT,Nat.reduceEqDiff]
 refine use1 (byStamp_ok x.site x.no s n) rfl (.inl rfl) ?_
 simp only [ZZ,WW,Ze,ok_Ks,reduceCtorEq,Nat.reduceAdd,Nat.reduceMul,Nat.reduceLeDiff,Nat.reduceLT,Nat.reduceEqDiff]
theorem tip_ok (l:List Dd) (s:List UInt8) (hl:l.length≤1000000000):PCall Tryz.prog E 60 [.sl 12 (ddE l),.str s] (·=.tup [int (tipF l s).1,.str (tipF l s).2]):=by
 refine pcallF mixed Tryz.func60 ck_matter_tip ?_
 simp only [a0,l0,OS.ao,List.map_cons,List.map_nil,List.length_cons,List.length_nil,List.cons_append,List.nil_append,Nat.reduceSub,Nat.reduceAdd,List.replicate_succ,List.replicate_zero,ir_matter_tip,rs_matter_tip,ZZ,WW,Ze,reduceCtorEq,Nat.reduceAdd,Nat.reduceMul,Nat.reduceLeDiff,Nat.reduceLT,Nat.reduceEqDiff]
 simp only [ZZ,WW,Ze,ok_Ks,reduceCtorEq,Nat.reduceAdd,Nat.reduceMul,Nat.reduceLeDiff,Nat.reduceLT,Nat.reduceEqDiff,ddE_len]
 refine loop_intro (fun n fr L=>∃ (k:Nat),k≤l.length∧n=l.length - k∧fr=[oo,.p (.str s),oo,oo,oo,oo,.p (int (tipF (l.take k) s).1),.p (.str (tipF (l.take k) s).2),oo,oo,.p (.sl 12 (ddE l)),.p (int (l.length:Nat)),.p (int (k:Nat)),oo,oo,oo,oo,oo,oo,oo,oo,oo,oo,oo,oo,oo,oo,oo,oo]∧L=[]) (l.length) [oo,.p (.str s),oo,oo,oo,oo,.p (int (tipF (l.take 0) s).1),.p (.str (tipF (l.take 0) s).2),oo,oo,.p (.sl 12 (ddE l)),.p (int (l.length:Nat)),.p (int (0:Nat)),oo,oo,oo,oo,oo,oo,oo,oo,oo,oo,oo,oo,oo,oo,oo,oo] [] (by simp only [ddE_len,List.take_zero,tipF,List.foldl_nil,ZZ,WW,Ze,reduceCtorEq,Nat.reduceAdd,Nat.reduceMul,Nat.reduceLeDiff,Nat.reduceLT,Nat.reduceEqDiff];try trivial) (by (simp only [ZZ,WW,Ze,ok_Ks,reduceCtorEq,Nat.reduceAdd,Nat.reduceMul,Nat.reduceLeDiff,Nat.reduceLT,Nat.reduceEqDiff];try trivial)) ⟨0,by omega,by omega,rfl,rfl⟩ ?_
 rintro n fr L ⟨k,hk,rfl,rfl,rfl⟩
 simp only [ir_matter_tip_L0,ZZ,WW,Ze,reduceCtorEq,Nat.reduceAdd,Nat.reduceMul,Nat.reduceLeDiff,Nat.reduceLT,Nat.reduceEqDiff]
 refine br ?_ ?_
 ·intro h
  have hlt:k < l.length:=by have:=of_decide_eq_true h;omega
  obtain ⟨d,hd⟩:∃ d,l[k]?=some d:=⟨_,List.getElem?_eq_getElem hlt⟩
  have hg:=ddE_get hd
  have hn:=tipF_next s hd
  simp only [ZZ,WW,Ze,ok_Ks,reduceCtorEq,Nat.reduceAdd,Nat.reduceMul,Nat.reduceLeDiff,Nat.reduceLT,Nat.reduceEqDiff,hg,ddE_len,ddC]
  refine ⟨⟨by omega,by omega⟩,by omega,?_⟩
  refine br ?_ ?_
  ·intro h1
   have hn:tipF (l.take (k+1)) s=(d.no,d.sum):=by rw [hn,tipN,if_pos (of_decide_eq_true h1)]
   simp only [ZZ,WW,Ze,ok_Ks,reduceCtorEq,Nat.reduceAdd,Nat.reduceMul,Nat.reduceLeDiff,Nat.reduceLT,Nat.reduceEqDiff]
   refine drg0 ?_
   simp only [ZZ,WW,Ze,ok_Ks,reduceCtorEq,Nat.reduceAdd,Nat.reduceMul,Nat.reduceLeDiff,Nat.reduceLT,Nat.reduceEqDiff]
   refine cut_same zE_ ?_
   simp only [ZZ,WW,Ze,ok_Ks,reduceCtorEq,Nat.reduceAdd,Nat.reduceMul,Nat.reduceLeDiff,Nat.reduceLT,Nat.reduceEqDiff]
   ((repeat' (with_reducible apply And.intro))<;>try ((exact sc_)))
   refine end_round (l.length - (k+1)) [oo,.p (.str s),oo,oo,oo,oo,.p (int (tipF (l.take (k+1)) s).1),.p (.str (tipF (l.take (k+1)) s).2),oo,oo,.p (.sl 12 (ddE l)),.p (int (l.length:Nat)),.p (int ((k+1):Nat)),oo,oo,oo,oo,oo,oo,oo,oo,oo,oo,oo,oo,oo,oo,oo,oo] [] (by omega) (by rw [hn];(simp only [ZZ,WW,Ze,ok_Ks,reduceCtorEq,Nat.reduceAdd,Nat.reduceMul,Nat.reduceLeDiff,Nat.reduceLT,Nat.reduceEqDiff];try trivial)) (by (simp only [ZZ,WW,Ze,ok_Ks,reduceCtorEq,Nat.reduceAdd,Nat.reduceMul,Nat.reduceLeDiff,Nat.reduceLT,Nat.reduceEqDiff];try trivial)) ⟨k+1,by omega,rfl,rfl,rfl⟩
  ·intro h1
   have hn:tipF (l.take (k+1)) s=tipF (l.take k) s:=by rw [hn,tipN,if_neg (of_decide_eq_false h1)]
   simp only [ZZ,WW,Ze,ok_Ks,reduceCtorEq,Nat.reduceAdd,Nat.reduceMul,Nat.reduceLeDiff,Nat.reduceLT,Nat.reduceEqDiff]
   refine cut_same zE_ ?_
   simp only [ZZ,WW,Ze,ok_Ks,reduceCtorEq,Nat.reduceAdd,Nat.reduceMul,Nat.reduceLeDiff,Nat.reduceLT,Nat.reduceEqDiff]
   ((repeat' (with_reducible apply And.intro))<;>try ((exact sc_)))
   refine end_round (l.length - (k+1)) [oo,.p (.str s),oo,oo,oo,oo,.p (int (tipF (l.take (k+1)) s).1),.p (.str (tipF (l.take (k+1)) s).2),oo,oo,.p (.sl 12 (ddE l)),.p (int (l.length:Nat)),.p (int ((k+1):Nat)),oo,oo,oo,oo,oo,oo,oo,oo,oo,oo,oo,oo,oo,oo,oo,oo] [] (by omega) (by rw [hn];(simp only [ZZ,WW,Ze,ok_Ks,reduceCtorEq,Nat.reduceAdd,Nat.reduceMul,Nat.reduceLeDiff,Nat.reduceLT,Nat.reduceEqDiff];try trivial)) (by (simp only [ZZ,WW,Ze,ok_Ks,reduceCtorEq,Nat.reduceAdd,Nat.reduceMul,Nat.reduceLeDiff,Nat.reduceLT,Nat.reduceEqDiff];try trivial)) ⟨k+1,by omega,rfl,rfl,rfl⟩
 ·intro h
  have hge:l.length≤k:=by have:=of_decide_eq_false h;omega
  rw [List.take_of_length_le hge]
  simp only [ZZ,WW,Ze,ok_Ks,reduceCtorEq,Nat.reduceAdd,Nat.reduceMul,Nat.reduceLeDiff,Nat.reduceLT,Nat.reduceEqDiff]
set_option maxRecDepth 100000 in
theorem BSearchD_ok (l:List Dd) (s:List UInt8) (nn:Int) (hl:l.length≤1000000) (hs:OrdD l):PCall Tryz.prog E 94 [.sl 12 (ddE l),.agg [.str s,int nn],.clo fAd1 []] (fun y=>∃ (i:Nat) (b:Bool),y=.tup [int i,.bool b]∧i≤l.length∧(∀ a p,a < i→l[a]?=some p→stC p.site p.no s nn < 0)∧(∀ a p,i≤a→l[a]?=some p→0≤stC p.site p.no s nn)):=by
 have hfn:fnB Tryz.prog fAd1=true:=by kernel_rfl
 have tr:∀ (a p:Dd),cmpD a p < 0→stC p.site p.no s nn < 0→stC a.site a.no s nn < 0:=by
  intro a p h1 h2
  have h2:cmpD p ⟨s,nn,0,0,[],[],[],0,0,[],0,[]⟩ < 0:=h2
  show cmpD a ⟨s,nn,0,0,[],[],[],0,0,[],0,[]⟩ < 0
  generalize (⟨s,nn,0,0,[],[],[],0,0,[],0,[]⟩:Dd)=z at *
  have t:=cmpD_p.tr
  have an:=cmpD_p.anti
  have h3:=t a p z (by omega) (by omega)
  rcases Int.lt_or_eq_of_le h3 with h4|h4
  ·exact h4
  ·exfalso
   obtain ⟨e1,e2⟩:=cmpD_zero h4
   have h5:cmpD p z=cmpD p a:=by unfold cmpD;rw [e1,e2]
   have:=an p a
   omega
 have tr2:∀ (a p:Dd),cmpD p a < 0→0≤stC p.site p.no s nn→0≤stC a.site a.no s nn:=by
  intro a p h1 h2
  rcases Int.lt_or_le (stC a.site a.no s nn) 0 with h3|h3
  ·have:=tr p a h1 h3;omega
  ·exact h3
 have hss:∀ (i j:Nat) (p q:Dd),i < j→l[i]?=some p→l[j]?=some q→cmpD p q < 0:=by
  intro i j p q hij hp hq
  unfold OrdD at hs
  rw [List.pairwise_iff_getElem] at hs
  obtain ⟨hi,rfl⟩:=List.getElem?_eq_some_iff.1 hp
  obtain ⟨hj,rfl⟩:=List.getElem?_eq_some_iff.1 hq
  exact hs i j hi hj hij
 refine pcallF mixed Tryz.func94 ck_slices_BinarySearchFunc_api_Deed_api_Deed_api_Stamp ?_
 simp only [a0,l0,OS.ao,List.map_cons,List.map_nil,List.length_cons,List.length_nil,List.cons_append,List.nil_append,Nat.reduceSub,Nat.reduceAdd,List.replicate_succ,List.replicate_zero,ir_slices_BinarySearchFunc_api_Deed_api_Deed_api_Stamp,rs_slices_BinarySearchFunc_api_Deed_api_Deed_api_Stamp,ZZ,WW,Ze,reduceCtorEq,Nat.reduceAdd,Nat.reduceMul,Nat.reduceLeDiff,Nat.reduceLT,Nat.reduceEqDiff]
 simp only [ZZ,WW,Ze,ok_Ks,reduceCtorEq,Nat.reduceAdd,Nat.reduceMul,Nat.reduceLeDiff,Nat.reduceLT,Nat.reduceEqDiff,ddE_len]
 refine loop_intro (fun n fr L=>∃ (i:Nat) (j:Nat),j - i=n∧(i≤j)∧(j≤l.length)∧(∀ a p,a < i→l[a]?=some p→stC p.site p.no s nn < 0)∧(∀ a p,j≤a→l[a]?=some p→0≤stC p.site p.no s nn)∧fr=[.p (.sl 12 (ddE l)),oo,.p (.clo fAd1 []),oo,.adr (.l 4) 0,oo,oo,oo,.p (int (l.length:Nat)),.p (int (i:Nat)),.p (int (j:Nat)),oo,oo,oo,oo,oo,oo,oo,oo,oo,oo,oo,oo,oo,oo,oo,oo,oo,oo,oo,oo,oo,oo,oo,oo,oo,oo,oo,oo,oo,oo,oo,oo,oo,oo,oo,oo,oo,oo]∧L=[(.l 4,.box [.p (.str s),.p (int nn)] tSt)]) ((l.length) - 0) [.p (.sl 12 (ddE l)),oo,.p (.clo fAd1 []),oo,.adr (.l 4) 0,oo,oo,oo,.p (int (l.length:Nat)),.p (int (0:Nat)),.p (int ((l.length):Nat)),oo,oo,oo,oo,oo,oo,oo,oo,oo,oo,oo,oo,oo,oo,oo,oo,oo,oo,oo,oo,oo,oo,oo,oo,oo,oo,oo,oo,oo,oo,oo,oo,oo,oo,oo,oo,oo,oo] [(.l 4,.box [.p (.str s),.p (int nn)] tSt)] (by simp only [ZZ,WW,Ze,ok_Ks,reduceCtorEq,Nat.reduceAdd,Nat.reduceMul,Nat.reduceLeDiff,Nat.reduceLT,Nat.reduceEqDiff,ddE_len];try trivial) (by (simp only [ZZ,WW,Ze,ok_Ks,reduceCtorEq,Nat.reduceAdd,Nat.reduceMul,Nat.reduceLeDiff,Nat.reduceLT,Nat.reduceEqDiff];try trivial)) ⟨0,l.length,rfl,by omega,by omega,fun a p h=>absurd h (by omega),fun a p h hp=>absurd (List.getElem?_eq_some_iff.1 hp).1 (by omega),rfl,rfl⟩ ?_
 rintro n fr L ⟨i,j,rfl,hij,hjn,hlo,hhi,rfl,rfl⟩
 simp only [ir_slices_BinarySearchFunc_api_Deed_api_Deed_api_Stamp_L0,ZZ,WW,Ze,reduceCtorEq,Nat.reduceAdd,Nat.reduceMul,Nat.reduceLeDiff,Nat.reduceLT,Nat.reduceEqDiff]
 refine br ?_ ?_
 ·intro h
  have hlt:i < j:=by have:=of_decide_eq_true h;omega
  have hm:((IntKind.u64.wrap ((i:Int)+j)).fdiv (2 ^ min (Int.toNat 1) IntKind.u64.bits))=(((i+j) / 2:Nat):Int):=by
   have e1:IntKind.u64.wrap ((i:Int)+j)=((i+j:Nat):Int):=by simp [IntKind.wrap,IntKind.bits,IntKind.signed];omega
   rw [e1]
   have e2:(2:Int) ^ min (Int.toNat 1) IntKind.u64.bits=2:=by decide
   rw [e2,Int.fdiv_eq_ediv_of_nonneg _ (by omega)]
   omega
  obtain ⟨x,hx⟩:∃ x,l[(i+j) / 2]?=some x:=⟨_,List.getElem?_eq_getElem (by omega)⟩
  have hg:=ddE_get hx
  have hmn:(((((i+j) / 2:Nat):Int))).toNat=(i+j) / 2:=by omega
  simp only [ZZ,WW,Ze,ok_Ks,reduceCtorEq,Nat.reduceAdd,Nat.reduceMul,Nat.reduceLeDiff,Nat.reduceLT,Nat.reduceEqDiff,ddE_len,hm]
  generalize hh:(i+j) / 2=g at *
  have hg1:i≤g:=by omega
  have hg2:g < j:=by omega
  refine ⟨i64_of (by omega) (by omega),by omega,i64_of (by omega) (by omega),?_⟩
  refine drg0 ?_
  simp only [ZZ,WW,Ze,ok_Ks,reduceCtorEq,Nat.reduceAdd,Nat.reduceMul,Nat.reduceLeDiff,Nat.reduceLT,Nat.reduceEqDiff,hg,hfn,ddE_len]
  refine ⟨⟨by omega,by omega⟩,by omega,?_⟩
  refine use1 (added1_ok x s nn) rfl (.inl rfl) ?_
  simp only [ZZ,WW,Ze,ok_Ks,reduceCtorEq,Nat.reduceAdd,Nat.reduceMul,Nat.reduceLeDiff,Nat.reduceLT,Nat.reduceEqDiff]
  have hlow:∀ a p,l[a]?=some p→a≤g→stC x.site x.no s nn < 0→stC p.site p.no s nn < 0:=by
   intro a p hp ha hc
   rcases Nat.lt_or_ge a g with h1|h1
   ·exact tr p x (hss a g p x h1 hp hx) hc
   ·have:a=g:=by omega
    subst this
    rw [hx] at hp;cases hp;exact hc
  have hupp:∀ a p,l[a]?=some p→g≤a→0≤stC x.site x.no s nn→0≤stC p.site p.no s nn:=by
   intro a p hp ha hc
   rcases Nat.lt_or_ge g a with h1|h1
   ·exact tr2 p x (hss g a x p h1 hx hp) hc
   ·have:a=g:=by omega
    subst this
    rw [hx] at hp;cases hp;exact hc
  refine br ?_ ?_
  ·intro hc
   have hc:stC x.site x.no s nn < 0:=of_decide_eq_true hc
   simp only [ZZ,WW,Ze,ok_Ks,reduceCtorEq,Nat.reduceAdd,Nat.reduceMul,Nat.reduceLeDiff,Nat.reduceLT,Nat.reduceEqDiff]
   refine ⟨i64_of (by omega) (by omega),?_⟩
   refine end_round (j - (g+1)) [.p (.sl 12 (ddE l)),oo,.p (.clo fAd1 []),oo,.adr (.l 4) 0,oo,oo,oo,.p (int (l.length:Nat)),.p (int ((g+1):Nat)),.p (int (j:Nat)),oo,oo,oo,oo,oo,oo,oo,oo,oo,oo,oo,oo,oo,oo,oo,oo,oo,oo,oo,oo,oo,oo,oo,oo,oo,oo,oo,oo,oo,oo,oo,oo,oo,oo,oo,oo,oo,oo] [(.l 4,.box [.p (.str s),.p (int nn)] tSt)] (by omega) (by (simp only [ZZ,WW,Ze,ok_Ks,reduceCtorEq,Nat.reduceAdd,Nat.reduceMul,Nat.reduceLeDiff,Nat.reduceLT,Nat.reduceEqDiff];try trivial)) (by (simp only [ZZ,WW,Ze,ok_Ks,reduceCtorEq,Nat.reduceAdd,Nat.reduceMul,Nat.reduceLeDiff,Nat.reduceLT,Nat.reduceEqDiff];try trivial)) ⟨g+1,j,rfl,by omega,hjn,fun a p ha hp=>hlow a p hp (by omega) hc,hhi,rfl,rfl⟩
  ·intro hc
   have hc:¬ stC x.site x.no s nn < 0:=of_decide_eq_false hc
   simp only [ZZ,WW,Ze,ok_Ks,reduceCtorEq,Nat.reduceAdd,Nat.reduceMul,Nat.reduceLeDiff,Nat.reduceLT,Nat.reduceEqDiff]
   refine end_round ((g) - i) [.p (.sl 12 (ddE l)),oo,.p (.clo fAd1 []),oo,.adr (.l 4) 0,oo,oo,oo,.p (int (l.length:Nat)),.p (int (i:Nat)),.p (int ((g):Nat)),oo,oo,oo,oo,oo,oo,oo,oo,oo,oo,oo,oo,oo,oo,oo,oo,oo,oo,oo,oo,oo,oo,oo,oo,oo,oo,oo,oo,oo,oo,oo,oo,oo,oo,oo,oo,oo,oo] [(.l 4,.box [.p (.str s),.p (int nn)] tSt)] (by omega) (by (simp only [ZZ,WW,Ze,ok_Ks,reduceCtorEq,Nat.reduceAdd,Nat.reduceMul,Nat.reduceLeDiff,Nat.reduceLT,Nat.reduceEqDiff];try trivial)) (by (simp only [ZZ,WW,Ze,ok_Ks,reduceCtorEq,Nat.reduceAdd,Nat.reduceMul,Nat.reduceLeDiff,Nat.reduceLT,Nat.reduceEqDiff];try trivial)) ⟨i,g,rfl,by omega,by omega,hlo,fun a p ha hp=>hupp a p hp ha (by omega),rfl,rfl⟩
 ·intro h
  have hge:i=j:=by have:=of_decide_eq_false h;omega
  subst hge
  by_cases hin:i < l.length
  ·obtain ⟨x,hx⟩:∃ x,l[i]?=some x:=⟨_,List.getElem?_eq_getElem hin⟩
   have hg:=ddE_get hx
   have htl:decide ((i:Int) < l.length)=true:=by simp;omega
   simp only [ZZ,WW,Ze,ok_Ks,reduceCtorEq,Nat.reduceAdd,Nat.reduceMul,Nat.reduceLeDiff,Nat.reduceLT,Nat.reduceEqDiff,htl]
   refine drg1 (x1:=int (stC x.site x.no s nn)) ?_
   simp only [ZZ,WW,Ze,ok_Ks,reduceCtorEq,Nat.reduceAdd,Nat.reduceMul,Nat.reduceLeDiff,Nat.reduceLT,Nat.reduceEqDiff,ops_pcvg,ddE_len,hg,hfn,htl,ddC]
   exact ⟨⟨by omega,by omega⟩,hin,usep (added1_ok x s nn) rfl (.inl rfl),i,_,rfl,hjn,hlo,hhi⟩
  ·have hfl:decide ((i:Int) < l.length)=false:=by simp;omega
   have hgd:(ddE l).getD i []=[]:=by simp [List.getD,ddE];rw [List.getElem?_eq_none (by omega)];rfl
   simp only [ZZ,WW,Ze,ok_Ks,reduceCtorEq,Nat.reduceAdd,Nat.reduceMul,Nat.reduceLeDiff,Nat.reduceLT,Nat.reduceEqDiff,hfl]
   refine drg1 (x1:=int 0) ?_
   simp only [ZZ,WW,Ze,ok_Ks,reduceCtorEq,Nat.reduceAdd,Nat.reduceMul,Nat.reduceLeDiff,Nat.reduceLT,Nat.reduceEqDiff,ops_pcvg,ddE_len,hgd,hfn,hfl]
   exact ⟨fun h=>h.elim,fun h=>h.elim,fun h=>h.elim,i,_,rfl,hjn,hlo,hhi⟩
end
def siteE (l:List Dd) (s:List UInt8) (t:Int):Int:=firstE [(ckdF l).2,whenE (!keyB s) 5,whenE (decide ((l.length:Int)=2000)) 12,whenE (!inE t 0 5761439) 1]
theorem siteE_eq {l:List Dd} (h:(ckdF l).2=0) (s:List UInt8) (t:Int):siteE l s t=siteR l.length s t:=by
 unfold siteE siteR
 rw [h]
 have e:decide ((l.length:Int)=2000)=decide (l.length=2000):=by rw [decide_eq_decide];omega
 rw [e]
 by_cases h2:l.length=2000<;>cases keyB s<;>cases inE t 0 5761439<;>simp [firstE,whenE,h2]
theorem siteError_ok (l:List Dd) (s:List UInt8) (t:Int) (hB:DdsB l) (hl:l.length≤1000000000) (hs:s.length≤1000000000):PCall Tryz.prog ED 56 [.sl 12 (ddE l),.str s,int t] (·=int (siteE l s t)):=by
 refine pcallF mixed Tryz.func56 ck_matter_siteError ?_
 simp only [a0,l0,OS.ao,List.map_cons,List.map_nil,List.length_cons,List.length_nil,List.cons_append,List.nil_append,Nat.reduceSub,Nat.reduceAdd,List.replicate_succ,List.replicate_zero,ir_matter_siteError,rs_matter_siteError,ZZ,WW,Ze,reduceCtorEq,Nat.reduceAdd,Nat.reduceMul,Nat.reduceLeDiff,Nat.reduceLT,Nat.reduceEqDiff]
 refine use1 (listError_ok l hB hl) rfl (.inl rfl) ?_
 simp only [ZZ,WW,Ze,ok_Ks,reduceCtorEq,Nat.reduceAdd,Nat.reduceMul,Nat.reduceLeDiff,Nat.reduceLT,Nat.reduceEqDiff]
 refine use1 (upD (Key_ok s (by omega))) rfl (.inl rfl) ?_
 simp only [ZZ,WW,Ze,ok_Ks,reduceCtorEq,Nat.reduceAdd,Nat.reduceMul,Nat.reduceLeDiff,Nat.reduceLT,Nat.reduceEqDiff]
 refine use1 (When_ok (!keyB s) 5) rfl (.inl rfl) ?_
 simp only [ZZ,WW,Ze,ok_Ks,reduceCtorEq,Nat.reduceAdd,Nat.reduceMul,Nat.reduceLeDiff,Nat.reduceLT,Nat.reduceEqDiff,ddE_len]
 refine use1 (When_ok (decide ((l.length:Int)=2000)) 12) rfl (.inl rfl) ?_
 simp only [ZZ,WW,Ze,ok_Ks,reduceCtorEq,Nat.reduceAdd,Nat.reduceMul,Nat.reduceLeDiff,Nat.reduceLT,Nat.reduceEqDiff]
 refine use1 (upD (Moment_ok t)) rfl (.inl rfl) ?_
 simp only [ZZ,WW,Ze,ok_Ks,reduceCtorEq,Nat.reduceAdd,Nat.reduceMul,Nat.reduceLeDiff,Nat.reduceLT,Nat.reduceEqDiff]
 refine use1 (When_ok (!inE t 0 5761439) 1) rfl (.inl rfl) ?_
 simp only [ZZ,WW,Ze,ok_Ks,reduceCtorEq,Nat.reduceAdd,Nat.reduceMul,Nat.reduceLeDiff,Nat.reduceLT,Nat.reduceEqDiff]
 refine use1 (First_ok [(ckdF l).2,whenE (!keyB s) 5,whenE (decide ((l.length:Int)=2000)) 12,whenE (!inE t 0 5761439) 1] (by simp)) rfl (.inl rfl) ?_
 simp only [ZZ,WW,Ze,ok_Ks,reduceCtorEq,Nat.reduceAdd,Nat.reduceMul,Nat.reduceLeDiff,Nat.reduceLT,Nat.reduceEqDiff]
 rfl
end Go.Proofs.YtinffddgojhdfaaGreatDoor
