import Derived.Test.YtmpdnpljdcincaaGreatDoorZ19
set_option linter.unusedVariables false
set_option linter.unusedSimpArgs false
set_option linter.defProp false
namespace Go.Proofs.YtmpdnpljdcincaaGreatDoor
open Nat renaming le_refl→zD,reduceAdd→zd,reduceEqDiff→za,reduceLT→zf,reduceLeDiff→zb,reduceMul→ze
open List renaming getD→zu,getElem?_append_right→z8,getElem?_eq_getElem→zg,getElem?_map→zt,length_append→zp,length_map→zw,length_set→yq,length_take→zJ,map_append→zF,map_congr_left→zP,map_cons→zx,map_map→ya,mem_append→zz,mem_cons→zC,mem_of_getElem?→zm,mem_or_eq_of_mem_set→yf,mem_singleton→zy,not_mem_nil→yj
open Int renaming toNat_natCast→zZ
open Go.RowKit
abbrev qcH:IC:=(sR [qO 2 (.nilr 83 7)] (.seq (sR [qM 3 0,qO 4 (.isn (.t 3))] (jW 4 (sR [qO 2 (.nilr 83 7)] .ret))) (sR [qO 5 (.bsr 83 7 []),qM 6 0,qO 7 (.app 83 7 88 (.t 5) (.t 6)),qM 2 7] .ret)))
theorem qcJ:chkF Tryz.prog Tryz.f106 qcH [.t 2] 8=true:=by kernel_rfl
abbrev qdg:IC:=(sR [qO 2 (.nilr 41 1)] (.seq (sR [qM 3 0,qO 4 (.isn (.t 3))] (jW 4 (sR [qO 2 (.nilr 41 1)] .ret))) (sR [qO 5 (.bsr 41 1 []),qM 6 0,qO 7 (.app 41 1 24 (.t 5) (.t 6)),qM 2 7] .ret)))
theorem qdj:chkF Tryz.prog Tryz.f107 qdg [.t 2] 8=true:=by kernel_rfl
def qaZ:IC:=(sR [qO 3 (.box 34 (.t 1)),qO 4 (.alc 34 [.int .i64 0,.str [],.int .i64 0,.nl 7])] (sR [qF 7 3 3,qL 8 7,jC 9 106 [.t 8],qF 10 3 3,qS 1 10 9] (.seq (sR [qF 11 3 3,qL 12 11,qN 13 12,qB 14 .eql 13 (cI 0),qM 15 14,⟨some 16,.mov (.t 0),(some (15,false))⟩,⟨some 17,.call 43 [.t 16,.c (.int .i64 5)],(some (15,false))⟩,qO 18 (.pick (.t 15) (.c (.bool true)) (.t 17))] (jW 18 (.seq (sR [qM 19 0,jC 20 29 [.t 19,.c (.int .i64 4)]] (.block 0 (sR [qB 23 .eql 20 (cI 0),qM 22 23] (.cond (.t 22) (.reg [qM 24 0,qO 25 (.bsl 1 [.c (.int .i64 0),.c (.int .i64 1),.c (.int .i64 200),.c (.int .i64 201)]),jC 26 19 [.t 24,.t 25],qF 27 0 3,qS 1 27 26]) (sR [qB 29 .eql 20 (cI 1),qM 28 29] (.cond (.t 28) (.reg [qM 30 0,qO 31 (.bsl 1 [.c (.str []),.c (.str [97,98]),.c (.str [90,90])]),jC 32 45 [.t 30,.t 31],qF 33 1 3,qS 1 33 32]) (sR [qB 35 .eql 20 (cI 2),qM 34 35] (.cond (.t 34) (.reg [qM 36 0,qO 37 (.bsl 1 [.c (.int .i64 3),.c (.int .i64 9),.c (.int .i64 10)]),jC 38 19 [.t 36,.t 37],qF 39 2 3,qS 1 39 38]) (.reg [qF 21 3 3,⟨none,.st 1 (.t 21) (.c (.nl 7)),none⟩]))))))))) (.cut (sR [⟨none,.re,none⟩,qO 40 (.ld 4 true (.t 3)),qS 4 4 40] .ret))))) (.seq (.drg [qF 41 3 3,qO 42 (.ldl 1 false (.t 41)),qM 43 0,qF 44 3 3,qO 45 (.ldl 1 false (.t 44)),qN 46 45,qO 47 (.dcall true 29 [.t 43,.t 46]),qX 48 7 42 47,qM 5 48]) (.seq (sR [qM 49 0,jC 50 29 [.t 49,.c (.int .i64 8)]] (.block 1 (sR [qB 88 .eql 50 (cI 0),qM 87 88] (.cond (.t 87) (.reg [qM 89 5,qM 90 0,qO 91 (.bsl 1 [.c (.str []),.c (.str [105,97]),.c (.str [105,98])]),jC 92 45 [.t 90,.t 91],qO 93 (.nck (.t 89)),qF 94 0 93,qS 1 94 92]) (sR [qB 96 .eql 50 (cI 1),qM 95 96] (.cond (.t 95) (.reg [qM 97 5,qM 98 0,qM 99 5,qO 100 (.nck (.t 99)),qF 101 0 100,qL 102 101,qO 103 (.bsl 1 [.c (.str []),.c (.str [105,97]),.t 102]),jC 104 45 [.t 98,.t 103],qO 105 (.nck (.t 97)),qF 106 1 105,qS 1 106 104]) (sR [qB 108 .eql 50 (cI 2),qM 107 108] (.cond (.t 107) (.reg [qM 109 5,qM 110 0,jC 111 97 [.t 110,.c (.int .i64 0),.c (.int .i64 5)],qO 112 (.nck (.t 109)),qF 113 2 112,qS 1 113 111]) (sR [qB 115 .eql 50 (cI 3),qM 114 115] (.cond (.t 114) (.drg [qM 116 5,qO 117 (.nck (.t 116)),qF 118 3 117,qO 119 (.ldl 1 false (.t 118)),qM 120 0,qO 121 (.bsl 1 [.c (.int .i64 (-1)),.c (.int .i64 1)]),qO 122 (.dcall true 19 [.t 120,.t 121]),qT 123 .add 119 122,qO 124 (.nck (.t 116)),qF 125 3 124,qS 1 125 123]) (sR [qB 127 .eql 50 (cI 4),qM 126 127] (.cond (.t 126) (.drg [qM 128 5,qO 129 (.nck (.t 128)),qF 130 4 129,qO 131 (.ldl 1 false (.t 130)),qM 132 0,qO 133 (.bsl 1 [.c (.int .i64 (-1)),.c (.int .i64 1),.c (.int .i64 9999)]),qO 134 (.dcall true 19 [.t 132,.t 133]),qT 135 .add 131 134,qO 136 (.nck (.t 128)),qF 137 4 136,qS 1 137 135]) (sR [qB 139 .eql 50 (cI 5),qM 138 139] (.cond (.t 138) (.reg [qM 140 5,qM 141 0,qO 142 (.bsl 1 [.c (.int .i64 0),.c (.int .i64 1000),.c (.int .i64 1001)]),jC 143 19 [.t 141,.t 142],qO 144 (.nck (.t 140)),qF 145 6 144,qS 1 145 143]) (sR [qB 147 .eql 50 (cI 6),qM 146 147] (.cond (.t 146) (.reg [qM 148 5,qM 149 5,qO 150 (.nck (.t 149)),qF 151 5 150,qL 152 151,jC 153 107 [.t 152],qM 154 0,jC 155 46 [.c (.str [112]),.c (.int .i64 81)],qO 156 (.bsl 1 [.c (.str [120]),.c (.str [97,9,98]),.t 155]),jC 157 45 [.t 154,.t 156],⟨none,.fz (.t 157),none⟩,qO 158 (.bsl 1 [.t 157]),qO 159 (.bsl 1 [.t 158]),qO 160 (.app 41 1 24 (.t 153) (.t 159)),⟨none,.re,none⟩,qO 161 (.nck (.t 148)),qF 162 5 161,qS 1 162 160]) (sR [qM 51 0,qM 52 5,qO 53 (.nck (.t 52)),qF 54 5 53,qL 55 54,qN 56 55,jC 57 29 [.t 51,.t 56],qM 6 57] (sR [qM 58 5,qM 59 5,qO 60 (.nck (.t 59)),qF 61 5 60,qL 62 61,jC 63 107 [.t 62],⟨none,.re,none⟩,qO 64 (.nck (.t 58)),qF 65 5 64,qS 1 65 63,⟨none,.re,none⟩] (.drp [5,6,7,8,9,10,11,12,13,14,15,16,17,18,19,0,1,2,3,4,20,21] [⟨none,.fz (.t 83),none⟩,⟨none,.hole 78,none⟩,qM 71 5,qO 72 (.nck (.t 71)),qF 73 5 72,qO 74 (.ldl 1 false (.t 73)),qM 75 6,qX 76 1 74 75,qO 77 (.ldl 1 false (.t 76)),qO 78 (.fcl 0 101 [.t 77] 9 1),qM 79 0,qO 80 (.pcall 1 46 [.c (.str [112]),.c (.int .i64 80)]),qO 81 (.pcall 2 46 [.c (.str [112]),.c (.int .i64 81)]),qO 82 (.bsl 1 [.c (.str [109,111,114,101]),.c (.str [255]),.t 80,.t 81]),qO 83 (.dcall true 45 [.t 79,.t 82]),qO 84 (.bsl 1 [.t 83]),qO 85 (.app 9 1 16 (.t 78) (.t 84)),qM 66 5,qO 67 (.nck (.t 66)),qF 68 5 67,qO 69 (.ldl 1 false (.t 68)),qM 70 6,qX 86 1 69 70,qS 1 86 85]))))))))))))))))))) (.cut (sR [⟨none,.re,none⟩,qO 163 (.ld 4 true (.t 3)),qS 4 4 163] .ret)))))))
theorem qcn:chkF Tryz.prog Tryz.f44 qaZ [.c 4 4 true] 164=true:=by kernel_rfl
section
variable {E:Envt}
theorem qsU (es:List (List PV)) (hn:es.length≤1000000):FCall Tryz.prog E 106 [.sl 7 es] qbw 7 (·=es):=by
 unfold FCall
 refine qfF mixed Tryz.func106 qcJ ?_
 refine zV ?_
 intro b hb
 refine br ?_ ?_
 ·intro h
  have:=hb h
  refine zS ?_
  exact qjd 2 [] rfl rfl this.symm
 ·intro h
  refine zS ?_
  exact ⟨by omega,qjd 5 es rfl rfl rfl⟩
theorem qmy (es:List (List PV)) (hn:es.length≤1000000):FCall Tryz.prog E 107 [.sl 1 es] tPgs 1 (·=es):=by
 unfold FCall
 refine qfF mixed Tryz.func107 qdj ?_
 refine zV ?_
 intro b hb
 refine br ?_ ?_
 ·intro h
  have:=hb h
  refine zS ?_
  exact qjd 2 [] rfl rfl this.symm
 ·intro h
  refine zS ?_
  exact ⟨by omega,qjd 5 es rfl rfl rfl⟩
theorem qh5 (l:List Sht) (q:Nat) (x:Sht):(shE l).set q (shV x)=shE (l.set q x):=by simp [shE]
theorem qtI:∀ l:List PV,Zaz (l.map AV.p)=some (l.map wk1)
 |[]=>rfl
 |a :: l=>by simp only [zx,Zaz,Zay,qtI l]
theorem qiS:∀ L:List (List PV),Zba (L.map fun r=>r.map AV.p)=some (L.map fun r=>r.map wk1)
 |[]=>rfl
 |r :: L=>by simp only [zx,Zba,qtI,qiS L]
theorem qAx (l:List Sht):(shE l).map (fun r=>r.map wk1)=shE l:=by
 rw [shE,ya]
 exact zP fun x _=>rfl
theorem qxH (l:Tab):(tbE l).map (fun r=>r.map wk1)=tbE l:=by
 rw [tbE,ya]
 exact zP fun x _=>rfl
theorem qmW {fr fr1:List AV} {L L1:Objs} {K:List AV→Objs→Prop} (h:ReOk E fr L fr1 L1) (h2:∃ fr' L',ReOk E fr1 L1 fr' L'∧K fr' L'):∃ fr' L',ReOk E fr L fr' L'∧K fr' L':=by
 obtain ⟨a,b,c,d⟩:=h2
 exact ⟨a,b,h.trans c,d⟩
theorem qyi (pg:Tab) (j:Nat) (r:SRow):Zba (((tbE pg).map fun x=>x.map AV.p).set j [.p (.sl 1 (strE r))])=some (tbE (pg.set j r)):=by
 have h:((tbE pg).map fun x=>x.map AV.p).set j [.p (.sl 1 (strE r))]=(tbE (pg.set j r)).map fun x=>x.map AV.p:=by simp [tbE,List.map_set]
 rw [h,qiS,qxH]
theorem qyL (l:List Sht) (q:Nat) (y:Sht):Zba (((shE l).map fun x=>x.map AV.p).set q [.p (.str y.id),.p (.str y.top),.p (int y.kind),.p (int y.fr_),.p (int y.to_),.p (.sl 1 (tbE y.pages)),.p (int y.ver)])=some (shE (l.set q y)):=by
 have h:((shE l).map fun x=>x.map AV.p).set q [.p (.str y.id),.p (.str y.top),.p (int y.kind),.p (int y.fr_),.p (int y.to_),.p (.sl 1 (tbE y.pages)),.p (int y.ver)]=(shE (l.set q y)).map fun x=>x.map AV.p:=by simp [shE,shV,List.map_set]
 rw [h,qiS,qAx]
theorem qoX (k:Key) (X:List (List PV)):((X.map fun x=>x.map AV.p).map fun x=>x.map fun y=>AV.kill k y)=X.map fun x=>x.map AV.p:=by
 rw [ya]
 refine zP fun x _=>?_
 rw [Function.comp_apply,ya]
 exact zP fun y _=>rfl
theorem qvH (k:Key) (v:PV) (X:List (List PV)):((X.map fun x=>x.map AV.p).map fun x=>x.map fun y=>AV.thaw k v y)=X.map fun x=>x.map AV.p:=by
 rw [ya]
 refine zP fun x _=>?_
 rw [Function.comp_apply,ya]
 exact zP fun y _=>by simp only [Function.comp_apply,AV.thaw,thaw_P]
theorem qhw {p:Prd} (h:PdB p) (q:Nat) {y:Sht} (hy:ShB y):PdB ⟨p.no,p.pre,p.dig,p.shs.set q y⟩:=
 ⟨h.no,h.pre,h.dig,by show (p.shs.set q y).length≤1000;rw [yq];exact h.shs,fun x hx=>by
  rcases yf hx with hx|rfl
  ·exact h.all x hx
  ·exact hy⟩
set_option maxHeartbeats 8000000 in
set_option maxRecDepth 100000 in
theorem qhX (l:List Int) (k:Nat) (p:Prd) (hp:PdB p) (hpg:PgP p) (hk:k≤800000) (hl:l.length≤9223372036854775807) :
  qeV Tryz.prog E 44 T (stm l k) [.agg (pdV p)] (fun x cs'=>∃ p' k',x=.agg (pdV p')∧PdB p'∧cs'=stm l k'∧k'≤k+10):=by
 unfold qeV
 refine qep mixed Tryz.func44 qcn ?_
 simp only [a0,l0,OS.ao,XX,Nat.reduceSub,pdV,qaZ,ZZ,WW,Zd,reduceCtorEq,zd,ze,zb,zf,za]
 refine useF (qsU (shE p.shs) (by rw [qae];have:=hp.shs;omega)) rfl rfl ?_
 rintro es rfl
 have hsl:=hp.shs
 obtain ⟨no,pre,dig,shs⟩:=p
 have hb1:=hp.no
 have hb3:=hp.dig
 simp only at hsl hb1 hb3 ⊢
 simp only [pdV,ZZ,WW,Zd,reduceCtorEq,zd,ze,zb,zf,za]
 rcases Nat.eq_zero_or_pos shs.length with h0|h0
 ·have e0:decide ((shs.length:Int)=0)=true:=by rw [h0];rfl
  simp only [ZZ,WW,Zd,reduceCtorEq,zd,ze,zb,zf,za,qae,e0,Bool.not_true]
  refine qpZ (fun h=>by cases h) (fun _=>?_)
  refine zS ?_
  refine useS (qco l (k) 4 (by omega) hl (by decide)) rfl rfl rfl zE_ ?_
  rintro x cs' ⟨y,rfl,rfl⟩
  generalize qc2 y 4=c
  refine zS ?_
  refine br ?_ ?_
  ·intro _
   refine zS ?_
   refine useS (qcM l (k+1) [0,1,200,201] (by omega) hl (by simp) (by simp)) rfl rfl rfl zE_ ?_
   rintro x cs' ⟨u,rfl,hu,rfl⟩
   have hu:-1000000≤u∧u≤1000000:=by simp only [zC,yj,or_false] at hu;omega
   refine zS ?_
   refine qaj zE_ ?_
   refine zS ?_
   rw [qaW]
   refine ⟨_,_,qaN (k:=.l 9) rfl,?_⟩
   refine zS ?_
   exact qdH (stm l (k+1+1)) rfl ⟨⟨u,pre,dig,shs⟩,_,rfl,⟨hu,hp.pre,hp.dig,hp.shs,hp.all⟩,rfl,by omega⟩
  intro _
  refine zS ?_
  refine br ?_ ?_
  ·intro _
   refine zS ?_
   refine useS (qgX l (k+1) [[],[97,98],[90,90]] (by omega) hl (by simp) (by simp)) rfl rfl rfl zE_ ?_
   rintro x cs' ⟨u,rfl,hu,rfl⟩
   have hu:u.length≤1000:=by simp only [zC,yj,or_false] at hu;rcases hu with rfl|rfl|rfl<;>decide
   refine zS ?_
   refine qaj zE_ ?_
   refine zS ?_
   rw [qaW]
   refine ⟨_,_,qaN (k:=.l 9) rfl,?_⟩
   refine zS ?_
   exact qdH (stm l (k+1+1)) rfl ⟨⟨no,u,dig,shs⟩,_,rfl,⟨hp.no,hu,hp.dig,hp.shs,hp.all⟩,rfl,by omega⟩
  intro _
  refine zS ?_
  refine br ?_ ?_
  ·intro _
   refine zS ?_
   refine useS (qcM l (k+1) [3,9,10] (by omega) hl (by simp) (by simp)) rfl rfl rfl zE_ ?_
   rintro x cs' ⟨u,rfl,hu,rfl⟩
   have hu:-1000≤u∧u≤1000:=by simp only [zC,yj,or_false] at hu;omega
   refine zS ?_
   refine qaj zE_ ?_
   refine zS ?_
   rw [qaW]
   refine ⟨_,_,qaN (k:=.l 9) rfl,?_⟩
   refine zS ?_
   exact qdH (stm l (k+1+1)) rfl ⟨⟨no,pre,u,shs⟩,_,rfl,⟨hp.no,hp.pre,hu,hp.shs,hp.all⟩,rfl,by omega⟩
  intro _
  refine zS ?_
  refine qaj zE_ ?_
  refine zS ?_
  rw [qaW]
  refine ⟨_,_,qaN (k:=.l 9) rfl,?_⟩
  refine zS ?_
  exact qdH (stm l (k+1)) rfl ⟨⟨no,pre,dig,[]⟩,_,rfl,⟨hp.no,hp.pre,hp.dig,(by simp),fun x hx=>by cases hx⟩,rfl,by omega⟩
 have e0:decide ((shs.length:Int)=0)=false:=by rw [decide_eq_false_iff_not];omega
 simp only [ZZ,WW,Zd,reduceCtorEq,zd,ze,zb,zf,za,qae,e0,Bool.not_false]
 refine qpZ (fun _=>?_) (fun hc=>by cases hc)
 refine useS (qgo l k 5 (by omega) hl (by decide)) rfl rfl rfl zE_ ?_
 rintro x cs' ⟨f,rfl,rfl⟩
 refine zS ?_
 refine br ?_ ?_
 ·intro _
  refine zS ?_
  refine useS (qco l (k+1) 4 (by omega) hl (by decide)) rfl rfl rfl zE_ ?_
  rintro x cs' ⟨y,rfl,rfl⟩
  generalize qc2 y 4=c
  refine zS ?_
  refine br ?_ ?_
  ·intro _
   refine zS ?_
   refine useS (qcM l (k+1+1) [0,1,200,201] (by omega) hl (by simp) (by simp)) rfl rfl rfl zE_ ?_
   rintro x cs' ⟨u,rfl,hu,rfl⟩
   have hu:-1000000≤u∧u≤1000000:=by simp only [zC,yj,or_false] at hu;omega
   refine zS ?_
   refine qaj zE_ ?_
   refine zS ?_
   rw [qaW]
   refine ⟨_,_,qaN (k:=.l 9) rfl,?_⟩
   refine zS ?_
   exact qdH (stm l (k+1+1+1)) rfl ⟨⟨u,pre,dig,shs⟩,_,rfl,⟨hu,hp.pre,hp.dig,hp.shs,hp.all⟩,rfl,by omega⟩
  intro _
  refine zS ?_
  refine br ?_ ?_
  ·intro _
   refine zS ?_
   refine useS (qgX l (k+1+1) [[],[97,98],[90,90]] (by omega) hl (by simp) (by simp)) rfl rfl rfl zE_ ?_
   rintro x cs' ⟨u,rfl,hu,rfl⟩
   have hu:u.length≤1000:=by simp only [zC,yj,or_false] at hu;rcases hu with rfl|rfl|rfl<;>decide
   refine zS ?_
   refine qaj zE_ ?_
   refine zS ?_
   rw [qaW]
   refine ⟨_,_,qaN (k:=.l 9) rfl,?_⟩
   refine zS ?_
   exact qdH (stm l (k+1+1+1)) rfl ⟨⟨no,u,dig,shs⟩,_,rfl,⟨hp.no,hu,hp.dig,hp.shs,hp.all⟩,rfl,by omega⟩
  intro _
  refine zS ?_
  refine br ?_ ?_
  ·intro _
   refine zS ?_
   refine useS (qcM l (k+1+1) [3,9,10] (by omega) hl (by simp) (by simp)) rfl rfl rfl zE_ ?_
   rintro x cs' ⟨u,rfl,hu,rfl⟩
   have hu:-1000≤u∧u≤1000:=by simp only [zC,yj,or_false] at hu;omega
   refine zS ?_
   refine qaj zE_ ?_
   refine zS ?_
   rw [qaW]
   refine ⟨_,_,qaN (k:=.l 9) rfl,?_⟩
   refine zS ?_
   exact qdH (stm l (k+1+1+1)) rfl ⟨⟨no,pre,u,shs⟩,_,rfl,⟨hp.no,hp.pre,hu,hp.shs,hp.all⟩,rfl,by omega⟩
  intro _
  refine zS ?_
  refine qaj zE_ ?_
  refine zS ?_
  rw [qaW]
  refine ⟨_,_,qaN (k:=.l 9) rfl,?_⟩
  refine zS ?_
  exact qdH (stm l (k+1+1)) rfl ⟨⟨no,pre,dig,[]⟩,_,rfl,⟨hp.no,hp.pre,hp.dig,(by simp),fun x hx=>by cases hx⟩,rfl,by omega⟩
 intro _
 refine zS ?_
 refine drg0 ?_
 simp only [ZZ,WW,Zd,reduceCtorEq,zd,ze,zb,zf,za,qae]
 refine useD (qco l (k+1) shs.length (by omega) hl (by omega)) ⟨_,_,0,rfl,rfl⟩ rfl rfl rfl zE_ (fun _=>⟨0,rfl⟩) ?_
 rintro x cs' ⟨y,rfl,rfl⟩
 have y1:=qdd y shs.length
 have y2:=qde y shs.length (by omega)
 obtain ⟨q,hq⟩:∃ q:Nat,qc2 y shs.length=(q:Nat):=⟨(qc2 y shs.length).toNat,by omega⟩
 rw [hq] at y1 y2 ⊢
 clear hq
 obtain ⟨x,hx⟩:∃ x,shs[q]?=some x:=⟨_,zg (by omega)⟩
 have hg:=qa0 hx
 have hxB:=hp.all x (zm hx)
 have hxS:=hpg x (zm hx)
 obtain ⟨id,top,kd,fr0,to0,pg,ver⟩:=x
 simp only [shV] at hg
 have hql:q < shs.length:=by omega
 have hb4:=hxS.fr_
 have hb5:=hxS.to_
 simp only at hb4 hb5
 simp only [ZZ,WW,Zd,reduceCtorEq,zd,ze,zb,zf,za,hg,qae]
 refine ⟨⟨by omega,by omega⟩,?_⟩
 refine useS (qco l (k+1+1) 8 (by omega) hl (by decide)) rfl rfl rfl zE_ ?_
 rintro x cs' ⟨y,rfl,rfl⟩
 generalize qc2 y 8=c
 refine zS ?_
 refine br ?_ ?_
 ·intro _
  simp only [ZZ,WW,Zd,reduceCtorEq,zd,ze,zb,zf,za,hg,qae]
  refine useS (qgX l (k+1+1+1) [[],[105,97],[105,98]] (by omega) hl (by simp) (by simp)) rfl rfl rfl zE_ ?_
  rintro x cs' ⟨u,rfl,hu,rfl⟩
  have hu:u.length≤1000:=by simp only [zC,yj,or_false] at hu;rcases hu with rfl|rfl|rfl<;>decide
  simp only [ZZ,WW,Zd,reduceCtorEq,zd,ze,zb,zf,za,hg,qae]
  refine ⟨hql,?_⟩
  refine qaj zE_ ?_
  refine zS ?_
  rw [qaW]
  refine ⟨_,_,qaN (k:=.l 9) rfl,?_⟩
  refine zS ?_
  exact qdH (stm l (k+1+1+1+1)) rfl ⟨⟨no,pre,dig,shs.set q ⟨u,top,kd,fr0,to0,pg,ver⟩⟩,_,by simp only [← qh5];rfl,qhw hp q ⟨hu,hxB.top,hxB.kind,hxB.fr_,hxB.to_,hxB.pages,hxB.page,hxB.ver⟩,rfl,by omega⟩
 intro _
 refine zS ?_
 refine br ?_ ?_
 ·intro _
  simp only [ZZ,WW,Zd,reduceCtorEq,zd,ze,zb,zf,za,hg,qae]
  refine ⟨hql,?_⟩
  refine useS (qgX l (k+1+1+1) [[],[105,97],id] (by omega) hl (by simp) (by simp)) rfl rfl rfl zE_ ?_
  rintro x cs' ⟨u,rfl,hu,rfl⟩
  have hu:u.length≤1000:=by simp only [zC,yj,or_false] at hu;rcases hu with rfl|rfl|rfl<;>first|exact hxB.id|decide
  simp only [ZZ,WW,Zd,reduceCtorEq,zd,ze,zb,zf,za,hg,qae]
  refine ⟨hql,?_⟩
  refine qaj zE_ ?_
  refine zS ?_
  rw [qaW]
  refine ⟨_,_,qaN (k:=.l 9) rfl,?_⟩
  refine zS ?_
  exact qdH (stm l (k+1+1+1+1)) rfl ⟨⟨no,pre,dig,shs.set q ⟨id,u,kd,fr0,to0,pg,ver⟩⟩,_,by simp only [← qh5];rfl,qhw hp q ⟨hxB.id,hu,hxB.kind,hxB.fr_,hxB.to_,hxB.pages,hxB.page,hxB.ver⟩,rfl,by omega⟩
 intro _
 refine zS ?_
 refine br ?_ ?_
 ·intro _
  simp only [ZZ,WW,Zd,reduceCtorEq,zd,ze,zb,zf,za,hg,qae]
  refine useS (qr7 l (k+1+1+1) 0 5 (by omega) hl (by omega) (by omega) (by omega)) rfl rfl rfl zE_ ?_
  rintro x cs' ⟨u,rfl,hu1,hu2,rfl⟩
  simp only [ZZ,WW,Zd,reduceCtorEq,zd,ze,zb,zf,za,hg,qae]
  refine ⟨hql,?_⟩
  refine qaj zE_ ?_
  refine zS ?_
  rw [qaW]
  refine ⟨_,_,qaN (k:=.l 9) rfl,?_⟩
  refine zS ?_
  exact qdH (stm l (k+1+1+1+1)) rfl ⟨⟨no,pre,dig,shs.set q ⟨id,top,u,fr0,to0,pg,ver⟩⟩,_,by simp only [← qh5];rfl,qhw hp q ⟨hxB.id,hxB.top,show -1000≤u∧u≤1000 by omega,hxB.fr_,hxB.to_,hxB.pages,hxB.page,hxB.ver⟩,rfl,by omega⟩
 intro _
 refine zS ?_
 refine br ?_ ?_
 ·intro _
  simp only [ZZ,WW,Zd,reduceCtorEq,zd,ze,zb,zf,za,hg,qae]
  refine drg0 ?_
  simp only [ZZ,WW,Zd,reduceCtorEq,zd,ze,zb,zf,za,hg,qae]
  refine ⟨hql,?_⟩
  refine useD (qcM l (k+1+1+1) [-1,1] (by omega) hl (by simp) (by simp)) ⟨_,_,-1,rfl,by simp,rfl⟩ rfl rfl rfl zE_ (fun _=>⟨0,rfl⟩) ?_
  rintro x cs' ⟨u,rfl,hu,rfl⟩
  have hu:-10000≤u∧u≤10000:=by simp only [zC,yj,or_false] at hu;omega
  simp only [ZZ,WW,Zd,reduceCtorEq,zd,ze,zb,zf,za,hg,qae]
  refine ⟨qal (by omega) (by omega),?_⟩
  refine ⟨hql,?_⟩
  refine qaj zE_ ?_
  refine zS ?_
  rw [qaW]
  refine ⟨_,_,qaN (k:=.l 9) rfl,?_⟩
  refine zS ?_
  exact qdH (stm l (k+1+1+1+1)) rfl ⟨⟨no,pre,dig,shs.set q ⟨id,top,kd,fr0+u,to0,pg,ver⟩⟩,_,by simp only [← qh5];rfl,qhw hp q ⟨hxB.id,hxB.top,hxB.kind,show -100000000000≤fr0+u∧fr0+u≤100000000000 by omega,hxB.to_,hxB.pages,hxB.page,hxB.ver⟩,rfl,by omega⟩
 intro _
 refine zS ?_
 refine br ?_ ?_
 ·intro _
  simp only [ZZ,WW,Zd,reduceCtorEq,zd,ze,zb,zf,za,hg,qae]
  refine drg0 ?_
  simp only [ZZ,WW,Zd,reduceCtorEq,zd,ze,zb,zf,za,hg,qae]
  refine ⟨hql,?_⟩
  refine useD (qcM l (k+1+1+1) [-1,1,9999] (by omega) hl (by simp) (by simp)) ⟨_,_,-1,rfl,by simp,rfl⟩ rfl rfl rfl zE_ (fun _=>⟨0,rfl⟩) ?_
  rintro x cs' ⟨u,rfl,hu,rfl⟩
  have hu:-10000≤u∧u≤10000:=by simp only [zC,yj,or_false] at hu;omega
  simp only [ZZ,WW,Zd,reduceCtorEq,zd,ze,zb,zf,za,hg,qae]
  refine ⟨qal (by omega) (by omega),?_⟩
  refine ⟨hql,?_⟩
  refine qaj zE_ ?_
  refine zS ?_
  rw [qaW]
  refine ⟨_,_,qaN (k:=.l 9) rfl,?_⟩
  refine zS ?_
  exact qdH (stm l (k+1+1+1+1)) rfl ⟨⟨no,pre,dig,shs.set q ⟨id,top,kd,fr0,to0+u,pg,ver⟩⟩,_,by simp only [← qh5];rfl,qhw hp q ⟨hxB.id,hxB.top,hxB.kind,hxB.fr_,show -100000000000≤to0+u∧to0+u≤100000000000 by omega,hxB.pages,hxB.page,hxB.ver⟩,rfl,by omega⟩
 intro _
 refine zS ?_
 refine br ?_ ?_
 ·intro _
  simp only [ZZ,WW,Zd,reduceCtorEq,zd,ze,zb,zf,za,hg,qae]
  refine useS (qcM l (k+1+1+1) [0,1000,1001] (by omega) hl (by simp) (by simp)) rfl rfl rfl zE_ ?_
  rintro x cs' ⟨u,rfl,hu,rfl⟩
  have hu:-1000000≤u∧u≤1000000:=by simp only [zC,yj,or_false] at hu;omega
  simp only [ZZ,WW,Zd,reduceCtorEq,zd,ze,zb,zf,za,hg,qae]
  refine ⟨hql,?_⟩
  refine qaj zE_ ?_
  refine zS ?_
  rw [qaW]
  refine ⟨_,_,qaN (k:=.l 9) rfl,?_⟩
  refine zS ?_
  exact qdH (stm l (k+1+1+1+1)) rfl ⟨⟨no,pre,dig,shs.set q ⟨id,top,kd,fr0,to0,pg,u⟩⟩,_,by simp only [← qh5];rfl,qhw hp q ⟨hxB.id,hxB.top,hxB.kind,hxB.fr_,hxB.to_,hxB.pages,hxB.page,hu⟩,rfl,by omega⟩
 intro _
 refine zS ?_
 refine br ?_ ?_
 ·intro _
  simp only [ZZ,WW,Zd,reduceCtorEq,zd,ze,zb,zf,za,hg,qae]
  refine ⟨hql,?_⟩
  have hpl:=hxS.pages
  simp only at hpl
  refine useF (qmy (tbE pg) (by rw [qaC];omega)) rfl rfl ?_
  rintro es rfl
  refine zS ?_
  refine use1 (qeC [112] 81 (by omega) (by simp)) rfl (.inl rfl) ?_
  have g0:(Lib.repeatL [112] 81).length=81:=by rw [Lib.repeatL_length];rfl
  generalize Lib.repeatL [112] 81=r0 at g0 ⊢
  refine zS ?_
  refine useS (qgX l (k+1+1+1) [[120],[97,9,98],r0] (by omega) hl (by simp) (by simp)) rfl rfl rfl zE_ ?_
  rintro x cs' ⟨u,rfl,hu,rfl⟩
  have hu:u.length≤1000:=by simp only [zC,yj,or_false] at hu;rcases hu with rfl|rfl|rfl<;>first|omega|decide
  simp only [ZZ,WW,Zd,reduceCtorEq,zd,ze,zb,zf,za,qaC]
  refine ⟨by omega,?_⟩
  rw [qaW]
  refine ⟨_,_,qaN (k:=.l 153) rfl,?_⟩
  simp only [ZZ,WW,Zd,reduceCtorEq,zd,ze,zb,zf,za,hg,qae]
  refine ⟨hql,?_⟩
  refine qaj zE_ ?_
  refine zS ?_
  rw [qaW]
  refine ⟨_,_,qaN (k:=.l 9) rfl,?_⟩
  refine zS ?_
  have epg:tbE pg++[[PV.sl 1 [[PV.str u]]]]=tbE (pg++[[u]]):=by simp [tbE,strE]
  rw [epg]
  exact qdH (stm l (k+1+1+1+1)) rfl ⟨⟨no,pre,dig,shs.set q ⟨id,top,kd,fr0,to0,pg++[[u]],ver⟩⟩,_,by simp only [← qh5];rfl,qhw hp q ⟨hxB.id,hxB.top,hxB.kind,hxB.fr_,hxB.to_,(by show (pg++[[u]]).length≤100000;rw [zp,List.length_singleton];omega),(fun r hr=>(zz.1 hr).elim (hxB.page r) (fun h=>by rw [zy] at h;subst h;exact ⟨by simp,fun z hz=>by rw [zy] at hz;subst hz;omega⟩)),hxB.ver⟩,rfl,by omega⟩
 intro _
 simp only [ZZ,WW,Zd,reduceCtorEq,zd,ze,zb,zf,za,hg,qae,qaC]
 refine ⟨hql,?_⟩
 have hpl:=hxS.pages
 have hpp:=hxS.page
 simp only at hpl hpp
 refine useS (qco l (k+1+1+1) pg.length (by omega) hl (by omega)) rfl rfl rfl zE_ ?_
 rintro x cs' ⟨y,rfl,rfl⟩
 have z1:=qdd y pg.length
 have z2:=qde y pg.length (by omega)
 obtain ⟨j,hj⟩:∃ j:Nat,qc2 y pg.length=(j:Nat):=⟨(qc2 y pg.length).toNat,by omega⟩
 rw [hj] at z1 z2 ⊢
 clear hj
 obtain ⟨r,hr⟩:∃ r,pg[j]?=some r:=⟨_,zg (by omega)⟩
 have hgr:=qh4 hr
 have hrp:=hpp r (zm hr)
 simp only [ZZ,WW,Zd,reduceCtorEq,zd,ze,zb,zf,za,hg,qae,qaC]
 refine ⟨hql,?_⟩
 refine useF (qmy (tbE pg) (by rw [qaC];omega)) rfl rfl ?_
 rintro es rfl
 refine zS ?_
 rw [qaW]
 refine ⟨_,_,qh8 (k:=.l 9) rfl,?_⟩
 refine zS ?_
 refine ⟨by rw [zw,qae];exact hql,?_⟩
 have hgm:((shE shs).map fun x=>x.map AV.p).getD q []=[.p (.str id),.p (.str top),.p (int kd),.p (int fr0),.p (int to0),.p (.sl 1 (tbE pg)),.p (int ver)]:=by
  rw [zu,zt,shE,zt,hx];rfl
 simp only [ZZ,WW,Zd,reduceCtorEq,zd,ze,zb,zf,za,hgm]
 rw [qaW]
 refine ⟨_,_,qh8 (k:=.l 63) rfl,?_⟩
 refine zS ?_
 have hNg:((tbE pg).map fun x=>x.map AV.p).getD j []=[.p (.sl 1 (strE r))]:=by
  rw [zu,zt,tbE,zt,hr];rfl
 have hset:∀ R,(((shE shs).map fun x=>x.map AV.p).set q R).getD q []=R:=fun R=>by
  rw [zu,List.getElem?_set_self (by rw [zw,qae];exact hql)];rfl
 refine ⟨[.sl 1 (strE r),.str (Lib.repeatL [112] 80),.str (Lib.repeatL [112] 81)],?_⟩
 simp only [ZZ,WW,Zd,reduceCtorEq,zd,ze,zb,zf,za,List.map_set,qoX,hset,hNg,yq,zw,qae,qaC]
 refine ⟨hql,⟨by omega,by omega⟩,by omega,qBG (qvz (strE r) (by rw [qaf];omega)),usep (qeC [112] 80 (by omega) (by simp)) rfl (.inl rfl),usep (qeC [112] 81 (by omega) (by simp)) rfl (.inl rfl),?_⟩
 have g0:(Lib.repeatL [112] 80).length=80:=by rw [Lib.repeatL_length];rfl
 have g1:(Lib.repeatL [112] 81).length=81:=by rw [Lib.repeatL_length];rfl
 generalize Lib.repeatL [112] 80=r0 at g0 ⊢
 generalize Lib.repeatL [112] 81=r1 at g1 ⊢
 refine useD (qgX l (k+1+1+1+1) [[109,111,114,101],[255],r0,r1] (by omega) hl (by simp) (by simp)) ⟨_,_,[255],rfl,by simp,rfl⟩ rfl rfl rfl zE_ (fun _=>⟨0,rfl⟩) ?_
 rintro x cs' ⟨u,rfl,hu,rfl⟩
 have hu:u.length≤1000:=by simp only [zC,yj,or_false] at hu;rcases hu with rfl|rfl|rfl|rfl<;>first|omega|decide
 simp only [ZZ,WW,Zd,reduceCtorEq,zd,ze,zb,zf,za,List.map_set,qoX,hset,hNg,yq,zw,qae,qaC,qaf]
 refine ⟨by omega,hql,⟨by omega,by omega⟩,by omega,?_⟩
 refine qaj zE_ ?_
 refine zS ?_
 rw [qaW]
 refine qmW (qaN (k:=.l 78) rfl) ?_
 simp only [ZZ,WW,Zd,reduceCtorEq,zd,ze,zb,zf,za,List.map_set,qvH]
 have er:strE r++[[PV.str u]]=strE (r++[u]):=by simp [strE]
 rw [er]
 refine qmW (qdN (k:=.l 63) rfl (qyi pg j (r++[u]))) ?_
 refine zS ?_
 refine qmW (qaN (k:=.l 63) rfl) ?_
 simp only [ZZ,WW,Zd,reduceCtorEq,zd,ze,zb,zf,za,List.map_set,qvH]
 refine qmW (qdN (k:=.l 9) rfl (qyL shs q ⟨id,top,kd,fr0,to0,pg.set j (r++[u]),ver⟩)) ?_
 refine zS ?_
 refine ⟨_,_,qaN (k:=.l 9) rfl,?_⟩
 refine zS ?_
 exact qdH (stm l (k+1+1+1+1+1)) rfl ⟨⟨no,pre,dig,shs.set q ⟨id,top,kd,fr0,to0,pg.set j (r++[u]),ver⟩⟩,_,rfl,qhw hp q ⟨hxB.id,hxB.top,hxB.kind,hxB.fr_,hxB.to_,(by show (pg.set j (r++[u])).length≤100000;rw [yq];omega),(fun r' hr'=>(yf hr').elim (hxB.page r') (fun h=>by subst h;exact ⟨by simp;omega,fun z hz=>(zz.1 hz).elim ((hxB.page r (zm hr)).2 z) (fun h=>by rw [zy] at h;subst h;omega)⟩)),hxB.ver⟩,rfl,by omega⟩
end
def qdm:IC:=(sR [qT 10 .lss 9 8] (.seq (jE 10) (.seq (.block 1 (sR [qX 11 7 7 9,qO 12 (.ld 7 true (.t 11)),qO 5 (.alc 83 [.str [],.str [],.int .i64 0,.int .i64 0,.int .i64 0,.nl 1,.int .i64 0]),qS 7 5 12] (.seq (sR [qF 13 0 5,qL 14 13,qF 15 1 5,qL 16 15,qT 17 .eql 14 16] (jW 17 (.reg [qM 18 3,qO 19 (.bsr 32 1 [.c (.nl 7)]),qO 20 (.app 32 1 24 (.t 18) (.t 19)),qM 3 20]))) (.cut (.drp [4,5,6,7,8,9,10,11,12,0,1,2,3,13,14] [qM 25 3,qM 26 3,qN 27 26,qB 28 .sub 27 (cI 1),qX 29 1 25 28,qL 30 29,qO 31 (.ld 7 true (.t 5)),qO 32 (.bsl 7 [.t 31]),qO 33 (.app 83 7 88 (.t 30) (.t 32)),qM 21 3,qM 22 3,qN 23 22,qB 24 .sub 23 (cI 1),qX 34 1 21 24,qS 1 34 33]))))) (.reg [qB 35 .add 9 (cI 1),qM 9 35]))))
abbrev qig:IC:=(sR [qO 1 (.box 34 (.t 0)),qO 2 (.mov (.c (.nl 1)))] (sR [qO 3 (.nilr 32 1)] (.seq (sR [qF 6 3 1,qL 7 6,qN 8 7,jI 9 0] (.block 0 (.loop qdm))) (sR [qM 36 3,qM 2 36] .ret))))
theorem qis:chkF Tryz.prog Tryz.f72 qig [.t 2] 37=true:=by kernel_rfl
def qcQ:IC:=(sR [qT 10 .lss 9 8] (.seq (jE 10) (.seq (.block 1 (sR [qX 11 7 7 9,qO 12 (.ld 7 true (.t 11)),qO 5 (.alc 83 [.str [],.str [],.int .i64 0,.int .i64 0,.int .i64 0,.nl 1,.int .i64 0]),qS 7 5 12] (.seq (sR [qF 13 0 5,qL 14 13,qF 15 1 5,qL 16 15,qT 17 .eql 14 16] (jW 17 (.reg [qM 18 3,qO 19 (.bsr 32 1 [.c (.nl 7)]),qO 20 (.app 32 1 24 (.t 18) (.t 19)),qM 3 20]))) (.cut (.drp [4,5,6,7,8,9,10,11,12,0,1,2,3,13,14] [qM 25 3,qM 26 3,qN 27 26,qB 28 .sub 27 (cI 1),qX 29 1 25 28,qL 30 29,qO 31 (.ld 7 true (.t 5)),qO 32 (.bsl 7 [.t 31]),qO 33 (.app 83 7 88 (.t 30) (.t 32)),qM 21 3,qM 22 3,qN 23 22,qB 24 .sub 23 (cI 1),qX 34 1 21 24,qS 1 34 33]))))) (.reg [qB 35 .add 9 (cI 1),qM 9 35]))))
abbrev qg9:IC:=(sR [qO 1 (.box 34 (.t 0)),qO 2 (.mov (.c (.nl 1)))] (sR [qO 3 (.nilr 32 1)] (.seq (sR [qF 6 3 1,qL 7 6,qN 8 7,jI 9 0] (.block 0 (.loop qcQ))) (sR [qM 36 3,qM 2 36] .ret))))
theorem qhl:chkF Tryz.prog Tryz.f80 qg9 [.t 2] 37=true:=by kernel_rfl
abbrev tShs:Nat:=32
abbrev tRw:Nat:=41
def rvS (T:List (List Sht)):List (List PV):=T.map fun g=>[.sl 7 (shE g)]
theorem qjA (T:List (List Sht)):(rvS T).length=T.length:=by simp [rvS]
theorem qtx {T:List (List Sht)} {k:Nat} {g:List Sht} (h:T[k]?=some g):(rvS T).getD k []=[.sl 7 (shE g)]:=qao h
theorem qos (T:List (List Sht)):Zba ((rvS T).map (·.map AV.p))=some (rvS T):=by
 rw [qiS,rvS,ya]
 congr 1
theorem qgQ (T:List (List Sht)):((rvS T).map (·.map AV.p)).length=T.length:=by simp [rvS]
theorem qrp (T:List (List Sht)) (x:List AV):((rvS T).map (·.map AV.p)++[x]).getD T.length []=x:=by
 rw [zu,z8 (by rw [qgQ];exact zD _),qgQ,Nat.sub_self]
 rfl
theorem qro (T:List (List Sht)) (x y:List AV):((rvS T).map (·.map AV.p)++[x]).set T.length y=(rvS T).map (·.map AV.p)++[y]:=by
 rw [List.set_append_right _ _ (by rw [qgQ];exact zD _),qgQ,Nat.sub_self]
 rfl
abbrev grpA (I:List (List Sht)):List (List AV):=(rvS I).map (·.map AV.p)++[[.row (.l 1000)]]
abbrev grpO (I:List (List Sht)) (cur:List Sht):Objs:=[(.l 3,.rowv (grpA I) tShs 1),(.l 1000,.row (shE cur) qbw 7 true)]
theorem qnz (I:List (List Sht)) (cur:List Sht):(grpA I).map (fun x=>x.map fun y=>AV.thaw (.l 1000) (.sl 7 (shE cur)) y)=(rvS (I++[cur])).map (·.map AV.p):=by
 rw [zF,qvH]
 simp [rvS,AV.thaw]
theorem qdO (d:Nat) (I:List (List Sht)) (hk:d≠1000):(grpA I).map (fun x=>x.map fun y=>AV.kill (.l d) y)=grpA I:=by
 rw [zF,qoX]
 simp [AV.kill,Ne.symm hk]
theorem qfz (I:List (List Sht)):(grpA I).map (fun x=>x.map fun y=>AV.kill (.l 1000) y)=(rvS I).map (·.map AV.p)++[[oo]]:=by
 rw [zF,qoX]
 simp [AV.kill]
theorem qe3 (I:List (List Sht)):(grpA I).length=I.length+1:=by rw [zp,qgQ];rfl
theorem qhF (I:List (List Sht)):(grpA I).getD I.length []=[AV.row (.l 1000)]:=qrp I _
theorem qfC (I:List (List Sht)):((rvS I).map (·.map AV.p)++[[AV.any]]).length=I.length+1:=by rw [zp,qgQ];rfl
theorem qfD (I:List (List Sht)):((rvS I).map (·.map AV.p)++[[AV.any]]).getD I.length []=[AV.any]:=qrp I _
theorem qfB (I:List (List Sht)):((rvS I).map (·.map AV.p)++[[AV.any]]).set I.length [AV.row (.l 1000)]=grpA I:=qro I _ _
theorem sub1 (n:Nat):(((n+1:Nat):Int) - 1)=(n:Nat):=by omega
theorem qo2 (I:List (List Sht)) (cur:List Sht):(grpA I++[[AV.p (.nl 7)]]).map (fun x=>x.map fun y=>AV.thaw (.l 1000) (.sl 7 (shE cur)) y)=(rvS (I++[cur])).map (·.map AV.p)++[[AV.p (.nl 7)]]:=by
 rw [zF,qnz]
 rfl
theorem qxV (I:List (List Sht)) (cur:List Sht):((rvS (I++[cur])).map (·.map AV.p)++[[AV.p (.nl 7)]])[I.length+1]?=some [AV.p (.nl 7)]:=by
 rw [z8 (by rw [qgQ,zp];exact zD _),qgQ,zp]
 simp
theorem quw (I:List (List Sht)) (cur:List Sht):(((rvS (I++[cur])).map (·.map AV.p)++[[AV.p (.nl 7)]]).map (fun x=>x.map fun y=>AV.kill (.l 1000) y)).set (I.length+1) [AV.row (.l 1000)]=grpA (I++[cur]):=by
 rw [zF,qoX]
 have:=qro (I++[cur]) ([AV.p (.nl 7)].map fun y=>AV.kill (.l 1000) y) [AV.row (.l 1000)]
 rw [zp] at this
 exact this
theorem qkL {T:List (List Sht)} {x:Sht} (h:decide (x.id=x.top)=true):grpS T x=T++[[x]]:=by rw [grpS,if_pos h]
theorem qrL {I:List (List Sht)} {cur:List Sht} {x:Sht} (h:decide (x.id=x.top)=false):grpS (I++[cur]) x=I++[cur++[x]]:=by
 rw [grpS,if_neg (by rw [h];simp)]
 simp
section
variable {E:Envt}
set_option maxHeartbeats 4000000 in
theorem qqA (no:Int) (pre:List UInt8) (dig:Int) (l:List Sht) (hl:l.length≤1000000) (hG:qqW l):FCall Tryz.prog E 72 [.agg [int no,.str pre,int dig,.sl 7 (shE l)]] tShs 1 (·=rvS (grpF l)):=by
 unfold FCall
 refine qfF mixed Tryz.func72 qis ?_
 refine zV ?_
 simp only [ZZ,WW,Zd,reduceCtorEq,zd,ze,zb,zf,za,qae]
 rw [show grpF l=grpK l l.length from rfl]
 obtain ⟨L1,q1,q2⟩:∃ L1,ReOk E (oo::oo::oo::.row (.l 3)::oo::oo::oo::.p (.sl 7 (shE l))::.p (int (l.length:Nat))::.p (int (0:Nat))::oE (oD (oB (oo::[])))) [(.l 3,.row [] tShs 1 true)] (oo::oo::oo::.row (.l 3)::oo::oo::oo::.p (.sl 7 (shE l))::.p (int (l.length:Nat))::.p (int (0:Nat))::oE (oD (oB (oo::[])))) L1∧((0 < l.length∧((grpK l 0=[]∧L1=[(.l 3,.rowv [] tShs 1)])∨∃ I cur,grpK l 0=I++[cur]∧L1=grpO I cur))∨(0=l.length∧L1=[(.l 3,.row (rvS (grpK l 0)) tShs 1 true)])):=by
  by_cases h0:0 < l.length
  ·exact ⟨_,qh8 (k:=.l 3) rfl,.inl ⟨h0,.inl ⟨rfl,rfl⟩⟩⟩
  ·exact ⟨_,ReOk.refl,.inr ⟨by omega,rfl⟩⟩
 refine qfR (fun m fr L=>∃ k,k≤l.length∧m=l.length - k∧fr=(oo::oo::oo::.row (.l 3)::oo::oo::oo::.p (.sl 7 (shE l))::.p (int (l.length:Nat))::.p (int (k:Nat))::oE (oD (oB (oo::[]))))∧((k < l.length∧((grpK l k=[]∧L=[(.l 3,.rowv [] tShs 1)])∨∃ I cur,grpK l k=I++[cur]∧L=grpO I cur))∨(k=l.length∧L=[(.l 3,.row (rvS (grpK l k)) tShs 1 true)]))) l.length _ L1 (ReOk.trans (qax zF_ zE_) q1) ⟨0,by omega,by omega,rfl,q2⟩ ?_
 clear q1 q2 L1
 rintro m fr L ⟨k,hk,rfl,rfl,hj⟩
 simp only [qdm,ZZ,WW,Zd,reduceCtorEq,zd,ze,zb,zf,za]
 refine br ?_ ?_
 rotate_left
 ·intro h
  have hge:k=l.length:=by have:=of_decide_eq_false h;omega
  rcases hj with ⟨e,_⟩|⟨_,rfl⟩
  ·omega
  subst hge
  refine zS ?_
  exact qjd 3 _ rfl rfl rfl
 intro h
 have hlt:k < l.length:=by have:=of_decide_eq_true h;omega
 rcases hj with ⟨_,hj⟩|⟨e,_⟩
 rotate_left
 ·omega
 obtain ⟨x,hx⟩:∃ x,l[k]?=some x:=⟨_,zg hlt⟩
 have hg:=qa0 hx
 simp only [shV] at hg
 have hxD:l.getD k sh0=x:=by simp [zu,hx]
 have hst:grpK l (k+1)=grpS (grpK l k) x:=by rw [grpK,hxD]
 have hpl:=qhE l k
 have hne:¬ decide (x.id=x.top)=true→grpK l k≠[]:=by
  intro hc
  cases k with
  |zero=>exact absurd (by rw [decide_eq_true_eq,← hxD];exact hG (by omega)) hc
  |succ j=>exact qqr hG j (by omega)
 have hcb:∀ g∈grpK l k,g.length≤k:=fun g hm=>by
  have:=qhC _ g hm
  rw [qfA hG k (by omega),zJ] at this
  omega
 generalize hP:grpK l k=T at *
 have hend:∀ (I:List (List Sht)) (cur:List Sht),grpS T x=I++[cur]→∀ fr L,ReOk E fr L (oo::oo::oo::.row (.l 3)::oo::oo::oo::.p (.sl 7 (shE l))::.p (int (l.length:Nat))::.p (int (k+1:Nat))::oE (oD (oB (oo::[])))) (grpO I cur)→EndR E (fun m fr L=>∃ k,k≤l.length∧m=l.length - k∧fr=(oo::oo::oo::.row (.l 3)::oo::oo::oo::.p (.sl 7 (shE l))::.p (int (l.length:Nat))::.p (int (k:Nat))::oE (oD (oB (oo::[]))))∧((k < l.length∧((grpK l k=[]∧L=[(.l 3,.rowv [] tShs 1)])∨∃ I cur,grpK l k=I++[cur]∧L=grpO I cur))∨(k=l.length∧L=[(.l 3,.row (rvS (grpK l k)) tShs 1 true)]))) (l.length - k) fr L:=by
  intro I cur he fr L hr
  by_cases hkl:k+1 < l.length
  ·exact qe4 (l.length - (k+1)) _ (grpO I cur) (by omega) hr ⟨k+1,by omega,rfl,rfl,.inl ⟨hkl,.inr ⟨I,cur,by rw [hst,he],rfl⟩⟩⟩
  ·refine qe4 (l.length - (k+1)) _ _ (by omega) (ReOk.trans hr ?_) ⟨k+1,by omega,rfl,rfl,.inr ⟨by omega,by rw [hst,he]⟩⟩
   refine ReOk.trans (qaN (k:=.l 1000) rfl) ?_
   simp only [ZZ,WW,Zd,reduceCtorEq,zd,ze,zb,zf,za,qnz]
   refine ReOk.trans (qdN (k:=.l 3) rfl (qos _)) ?_
   refine zS ?_
   exact qax zF_ zE_
 rcases hj with ⟨rfl,rfl⟩|⟨I,cur,rfl,rfl⟩
 ·have hb:decide (x.id=x.top)=true:=Classical.byContradiction fun hc=>hne hc rfl
  obtain ⟨I,hI⟩:∃ I:List (List Sht),I=[]:=⟨[],rfl⟩
  obtain ⟨cur,hcu⟩:∃ cur:List Sht,cur=[]:=⟨[],rfl⟩
  have hIl:I.length≤k:=by rw [hI];simp
  have hcl:cur.length≤k:=by rw [hcu];simp
  simp only [ZZ,WW,Zd,reduceCtorEq,zd,ze,zb,zf,za,hg,qae,hb]
  ((with_reducible and_intros)<;>try exact sc_)
  refine qaF (oo::oo::oo::.row (.l 3)::oo::.adr (.l 5) 0::oo::.p (.sl 7 (shE l))::.p (int (l.length:Nat))::.p (int (k:Nat))::oE (oD (oB (oo::[])))) [(.l 3,.rowv (grpA I) tShs 1),(.l 1000,.row (shE cur) qbw 7 true),(.l 5,.box [.p (.str x.id),.p (.str x.top),.p (int x.kind),.p (int x.fr_),.p (int x.to_),.p (.sl 1 (tbE x.pages)),.p (int x.ver)] qbw)] ?_ ?_
  ·refine ReOk.trans (qcN (k:=.l 3) 0 1000 qbw 7 7 (by simp) rfl rfl) ?_
   refine zS ?_
   subst hI hcu
   exact qax zF_ (by simp only [ZZ,WW,Zd,reduceCtorEq,zd,ze,zb,zf,za];exact ⟨rfl,rfl⟩)
  refine drg0 ?_
  simp only [ZZ,WW,Zd,reduceCtorEq,zd,ze,zb,zf,za,qe3,sub1,zZ,qhF,qfz,qfC,qfD,qfB,qae]
  ((with_reducible and_intros)<;>try exact sc_)
  exact hend I (cur++[x]) (by rw [qkL hb,hI,hcu];rfl) _ _ (qax zF_ (by simp only [ZZ,WW,Zd,reduceCtorEq,zd,ze,zb,zf,za];rw [← qh6];rfl))
 ·have hIl:I.length≤k:=by rw [zp] at hpl;simp at hpl;omega
  have hcl:cur.length≤k:=hcb cur (by simp)
  simp only [ZZ,WW,Zd,reduceCtorEq,zd,ze,zb,zf,za,hg,qae,qdO 5 I (by decide),qdO 3 I (by decide)]
  ((with_reducible and_intros)<;>try exact sc_)
  refine br ?_ ?_
  ·intro hb
   simp only [ZZ,WW,Zd,reduceCtorEq,zd,ze,zb,zf,za,qe3,qdO 19 I (by decide),qdO 3 I (by decide)]
   ((with_reducible and_intros)<;>try exact sc_)
   refine qaF (oo::oo::oo::.row (.l 3)::oo::.adr (.l 5) 0::oo::.p (.sl 7 (shE l))::.p (int (l.length:Nat))::.p (int (k:Nat))::oE (oD (oB (oo::[])))) [(.l 3,.rowv (grpA (I++[cur])) tShs 1),(.l 1000,.row (shE []) qbw 7 true),(.l 5,.box [.p (.str x.id),.p (.str x.top),.p (int x.kind),.p (int x.fr_),.p (int x.to_),.p (.sl 1 (tbE x.pages)),.p (int x.ver)] qbw)] ?_ ?_
   ·refine ReOk.trans (qaN (k:=.l 1000) rfl) ?_
    simp only [ZZ,WW,Zd,reduceCtorEq,zd,ze,zb,zf,za,qdO 3 I (by decide),qo2]
    refine ReOk.trans (qcN (k:=.l 3) (I.length+1) 1000 qbw 7 7 (by simp) rfl (qxV I cur)) ?_
    simp only [ZZ,WW,Zd,reduceCtorEq,zd,ze,zb,zf,za,quw]
    exact qax zF_ (by simp only [ZZ,WW,Zd,reduceCtorEq,zd,ze,zb,zf,za];rfl)
   have hIl2:(I++[cur]).length≤k+1:=by rw [zp];simp;omega
   generalize hI2:I++[cur]=I2 at *
   obtain ⟨cu2,hcu⟩:∃ cur:List Sht,cur=[]:=⟨[],rfl⟩
   rw [← hcu]
   have hcl2:cu2.length=0:=by rw [hcu];rfl
   refine drg0 ?_
   simp only [ZZ,WW,Zd,reduceCtorEq,zd,ze,zb,zf,za,qe3,sub1,zZ,qhF,qfz,qfC,qfD,qfB,qae]
   ((with_reducible and_intros)<;>try exact sc_)
   exact hend I2 (cu2++[x]) (by rw [qkL hb,hcu];rfl) _ _ (qax zF_ (by simp only [ZZ,WW,Zd,reduceCtorEq,zd,ze,zb,zf,za];rw [← qh6];rfl))
  ·intro hb
   refine zS ?_
   refine qaF _ _ ReOk.refl ?_
   refine drg0 ?_
   simp only [ZZ,WW,Zd,reduceCtorEq,zd,ze,zb,zf,za,qe3,sub1,zZ,qhF,qfz,qfC,qfD,qfB,qae]
   ((with_reducible and_intros)<;>try exact sc_)
   exact hend I (cur++[x]) (by rw [qrL hb]) _ _ (qax zF_ (by simp only [ZZ,WW,Zd,reduceCtorEq,zd,ze,zb,zf,za];rw [← qh6];rfl))
set_option maxHeartbeats 4000000 in
theorem qqu (no:Int) (pre:List UInt8) (dig:Int) (l:List Sht) (hl:l.length≤1000000) (hG:qqW l):FCall Tryz.prog E 80 [.agg [int no,.str pre,int dig,.sl 7 (shE l)]] tShs 1 (·=rvS (grpF l)):=by
 unfold FCall
 refine qfF mixed Tryz.func80 qhl ?_
 refine zV ?_
 simp only [ZZ,WW,Zd,reduceCtorEq,zd,ze,zb,zf,za,qae]
 rw [show grpF l=grpK l l.length from rfl]
 obtain ⟨L1,q1,q2⟩:∃ L1,ReOk E (oo::oo::oo::.row (.l 3)::oo::oo::oo::.p (.sl 7 (shE l))::.p (int (l.length:Nat))::.p (int (0:Nat))::oE (oD (oB (oo::[])))) [(.l 3,.row [] tShs 1 true)] (oo::oo::oo::.row (.l 3)::oo::oo::oo::.p (.sl 7 (shE l))::.p (int (l.length:Nat))::.p (int (0:Nat))::oE (oD (oB (oo::[])))) L1∧((0 < l.length∧((grpK l 0=[]∧L1=[(.l 3,.rowv [] tShs 1)])∨∃ I cur,grpK l 0=I++[cur]∧L1=grpO I cur))∨(0=l.length∧L1=[(.l 3,.row (rvS (grpK l 0)) tShs 1 true)])):=by
  by_cases h0:0 < l.length
  ·exact ⟨_,qh8 (k:=.l 3) rfl,.inl ⟨h0,.inl ⟨rfl,rfl⟩⟩⟩
  ·exact ⟨_,ReOk.refl,.inr ⟨by omega,rfl⟩⟩
 refine qfR (fun m fr L=>∃ k,k≤l.length∧m=l.length - k∧fr=(oo::oo::oo::.row (.l 3)::oo::oo::oo::.p (.sl 7 (shE l))::.p (int (l.length:Nat))::.p (int (k:Nat))::oE (oD (oB (oo::[]))))∧((k < l.length∧((grpK l k=[]∧L=[(.l 3,.rowv [] tShs 1)])∨∃ I cur,grpK l k=I++[cur]∧L=grpO I cur))∨(k=l.length∧L=[(.l 3,.row (rvS (grpK l k)) tShs 1 true)]))) l.length _ L1 (ReOk.trans (qax zF_ zE_) q1) ⟨0,by omega,by omega,rfl,q2⟩ ?_
 clear q1 q2 L1
 rintro m fr L ⟨k,hk,rfl,rfl,hj⟩
 simp only [qcQ,ZZ,WW,Zd,reduceCtorEq,zd,ze,zb,zf,za]
 refine br ?_ ?_
 rotate_left
 ·intro h
  have hge:k=l.length:=by have:=of_decide_eq_false h;omega
  rcases hj with ⟨e,_⟩|⟨_,rfl⟩
  ·omega
  subst hge
  refine zS ?_
  exact qjd 3 _ rfl rfl rfl
 intro h
 have hlt:k < l.length:=by have:=of_decide_eq_true h;omega
 rcases hj with ⟨_,hj⟩|⟨e,_⟩
 rotate_left
 ·omega
 obtain ⟨x,hx⟩:∃ x,l[k]?=some x:=⟨_,zg hlt⟩
 have hg:=qa0 hx
 simp only [shV] at hg
 have hxD:l.getD k sh0=x:=by simp [zu,hx]
 have hst:grpK l (k+1)=grpS (grpK l k) x:=by rw [grpK,hxD]
 have hpl:=qhE l k
 have hne:¬ decide (x.id=x.top)=true→grpK l k≠[]:=by
  intro hc
  cases k with
  |zero=>exact absurd (by rw [decide_eq_true_eq,← hxD];exact hG (by omega)) hc
  |succ j=>exact qqr hG j (by omega)
 have hcb:∀ g∈grpK l k,g.length≤k:=fun g hm=>by
  have:=qhC _ g hm
  rw [qfA hG k (by omega),zJ] at this
  omega
 generalize hP:grpK l k=T at *
 have hend:∀ (I:List (List Sht)) (cur:List Sht),grpS T x=I++[cur]→∀ fr L,ReOk E fr L (oo::oo::oo::.row (.l 3)::oo::oo::oo::.p (.sl 7 (shE l))::.p (int (l.length:Nat))::.p (int (k+1:Nat))::oE (oD (oB (oo::[])))) (grpO I cur)→EndR E (fun m fr L=>∃ k,k≤l.length∧m=l.length - k∧fr=(oo::oo::oo::.row (.l 3)::oo::oo::oo::.p (.sl 7 (shE l))::.p (int (l.length:Nat))::.p (int (k:Nat))::oE (oD (oB (oo::[]))))∧((k < l.length∧((grpK l k=[]∧L=[(.l 3,.rowv [] tShs 1)])∨∃ I cur,grpK l k=I++[cur]∧L=grpO I cur))∨(k=l.length∧L=[(.l 3,.row (rvS (grpK l k)) tShs 1 true)]))) (l.length - k) fr L:=by
  intro I cur he fr L hr
  by_cases hkl:k+1 < l.length
  ·exact qe4 (l.length - (k+1)) _ (grpO I cur) (by omega) hr ⟨k+1,by omega,rfl,rfl,.inl ⟨hkl,.inr ⟨I,cur,by rw [hst,he],rfl⟩⟩⟩
  ·refine qe4 (l.length - (k+1)) _ _ (by omega) (ReOk.trans hr ?_) ⟨k+1,by omega,rfl,rfl,.inr ⟨by omega,by rw [hst,he]⟩⟩
   refine ReOk.trans (qaN (k:=.l 1000) rfl) ?_
   simp only [ZZ,WW,Zd,reduceCtorEq,zd,ze,zb,zf,za,qnz]
   refine ReOk.trans (qdN (k:=.l 3) rfl (qos _)) ?_
   refine zS ?_
   exact qax zF_ zE_
 rcases hj with ⟨rfl,rfl⟩|⟨I,cur,rfl,rfl⟩
 ·have hb:decide (x.id=x.top)=true:=Classical.byContradiction fun hc=>hne hc rfl
  obtain ⟨I,hI⟩:∃ I:List (List Sht),I=[]:=⟨[],rfl⟩
  obtain ⟨cur,hcu⟩:∃ cur:List Sht,cur=[]:=⟨[],rfl⟩
  have hIl:I.length≤k:=by rw [hI];simp
  have hcl:cur.length≤k:=by rw [hcu];simp
  simp only [ZZ,WW,Zd,reduceCtorEq,zd,ze,zb,zf,za,hg,qae,hb]
  ((with_reducible and_intros)<;>try exact sc_)
  refine qaF (oo::oo::oo::.row (.l 3)::oo::.adr (.l 5) 0::oo::.p (.sl 7 (shE l))::.p (int (l.length:Nat))::.p (int (k:Nat))::oE (oD (oB (oo::[])))) [(.l 3,.rowv (grpA I) tShs 1),(.l 1000,.row (shE cur) qbw 7 true),(.l 5,.box [.p (.str x.id),.p (.str x.top),.p (int x.kind),.p (int x.fr_),.p (int x.to_),.p (.sl 1 (tbE x.pages)),.p (int x.ver)] qbw)] ?_ ?_
  ·refine ReOk.trans (qcN (k:=.l 3) 0 1000 qbw 7 7 (by simp) rfl rfl) ?_
   refine zS ?_
   subst hI hcu
   exact qax zF_ (by simp only [ZZ,WW,Zd,reduceCtorEq,zd,ze,zb,zf,za];exact ⟨rfl,rfl⟩)
  refine drg0 ?_
  simp only [ZZ,WW,Zd,reduceCtorEq,zd,ze,zb,zf,za,qe3,sub1,zZ,qhF,qfz,qfC,qfD,qfB,qae]
  ((with_reducible and_intros)<;>try exact sc_)
  exact hend I (cur++[x]) (by rw [qkL hb,hI,hcu];rfl) _ _ (qax zF_ (by simp only [ZZ,WW,Zd,reduceCtorEq,zd,ze,zb,zf,za];rw [← qh6];rfl))
 ·have hIl:I.length≤k:=by rw [zp] at hpl;simp at hpl;omega
  have hcl:cur.length≤k:=hcb cur (by simp)
  simp only [ZZ,WW,Zd,reduceCtorEq,zd,ze,zb,zf,za,hg,qae,qdO 5 I (by decide),qdO 3 I (by decide)]
  ((with_reducible and_intros)<;>try exact sc_)
  refine br ?_ ?_
  ·intro hb
   simp only [ZZ,WW,Zd,reduceCtorEq,zd,ze,zb,zf,za,qe3,qdO 19 I (by decide),qdO 3 I (by decide)]
   ((with_reducible and_intros)<;>try exact sc_)
   refine qaF (oo::oo::oo::.row (.l 3)::oo::.adr (.l 5) 0::oo::.p (.sl 7 (shE l))::.p (int (l.length:Nat))::.p (int (k:Nat))::oE (oD (oB (oo::[])))) [(.l 3,.rowv (grpA (I++[cur])) tShs 1),(.l 1000,.row (shE []) qbw 7 true),(.l 5,.box [.p (.str x.id),.p (.str x.top),.p (int x.kind),.p (int x.fr_),.p (int x.to_),.p (.sl 1 (tbE x.pages)),.p (int x.ver)] qbw)] ?_ ?_
   ·refine ReOk.trans (qaN (k:=.l 1000) rfl) ?_
    simp only [ZZ,WW,Zd,reduceCtorEq,zd,ze,zb,zf,za,qdO 3 I (by decide),qo2]
    refine ReOk.trans (qcN (k:=.l 3) (I.length+1) 1000 qbw 7 7 (by simp) rfl (qxV I cur)) ?_
    simp only [ZZ,WW,Zd,reduceCtorEq,zd,ze,zb,zf,za,quw]
    exact qax zF_ (by simp only [ZZ,WW,Zd,reduceCtorEq,zd,ze,zb,zf,za];rfl)
   have hIl2:(I++[cur]).length≤k+1:=by rw [zp];simp;omega
   generalize hI2:I++[cur]=I2 at *
   obtain ⟨cu2,hcu⟩:∃ cur:List Sht,cur=[]:=⟨[],rfl⟩
   rw [← hcu]
   have hcl2:cu2.length=0:=by rw [hcu];rfl
   refine drg0 ?_
   simp only [ZZ,WW,Zd,reduceCtorEq,zd,ze,zb,zf,za,qe3,sub1,zZ,qhF,qfz,qfC,qfD,qfB,qae]
   ((with_reducible and_intros)<;>try exact sc_)
   exact hend I2 (cu2++[x]) (by rw [qkL hb,hcu];rfl) _ _ (qax zF_ (by simp only [ZZ,WW,Zd,reduceCtorEq,zd,ze,zb,zf,za];rw [← qh6];rfl))
  ·intro hb
   refine zS ?_
   refine qaF _ _ ReOk.refl ?_
   refine drg0 ?_
   simp only [ZZ,WW,Zd,reduceCtorEq,zd,ze,zb,zf,za,qe3,sub1,zZ,qhF,qfz,qfC,qfD,qfB,qae]
   ((with_reducible and_intros)<;>try exact sc_)
   exact hend I (cur++[x]) (by rw [qrL hb]) _ _ (qax zF_ (by simp only [ZZ,WW,Zd,reduceCtorEq,zd,ze,zb,zf,za];rw [← qh6];rfl))
end
end Go.Proofs.YtmpdnpljdcincaaGreatDoor
namespace Go.Proofs.YtmpdnpljdcincaaGreatDoor
open Nat renaming reduceAdd→zd,reduceEqDiff→za,reduceLT→zf,reduceLeDiff→zb,reduceMul→ze
open List renaming getElem?_eq_getElem→zg,getElem?_eq_some_iff→zk,map_append→zF,take_succ_eq_append_getElem→zo
abbrev qer:IC:=(sR [qO 4 (.mov (.c (.nl 1)))] (.seq (sR [qM 5 1,qB 6 .lss 5 (cI 0)] (jW 6 (.reg [qO 7 (.dead),⟨none,.dead,none⟩]))) (.cut (.seq (sR [qM 8 1,qM 9 0,qO 10 (.cap0 (.t 9)),qM 11 0,qN 12 11,qT 13 .sub 10 12,qT 14 .sub 8 13,qM 1 14] (sR [qM 15 1,qB 16 .gtr 15 (cI 0)] (jW 16 (.reg [qM 17 0,qM 18 0,qO 19 (.cap0 (.t 18)),qO 20 (.vsn (.t 17) (.t 19)),qM 21 1,qO 22 (.apz 9 1 16 [.str []] (.t 20) (.t 21)),qM 23 0,qN 24 23,qO 25 (.trn 1 (.t 22) (.t 24)),qM 0 25])))) (.cut (sR [qM 26 0,qM 4 26] .ret))))))
theorem qew:chkF Tryz.prog Tryz.f137 qer [.t 4] 27=true:=by kernel_rfl
def qbn:IC:=(sR [qT 28 .lss 27 26] (.seq (.cond (.t 28) .skip (.exit 2)) (.seq (.block 3 (sR [qX 29 1 25 27,qL 30 29,qM 8 30] (.reg [qM 31 6,qM 32 8,qO 33 (.app 9 1 16 (.t 31) (.t 32)),qM 6 33]))) (.reg [qB 34 .add 27 (cI 1),qM 27 34]))))
def qbo:IC:=(sR [qT 12 .lss 11 10] (.seq (jE 12) (.seq (.block 1 (sR [qX 13 1 9 11,qL 14 13,qM 5 14] (sR [qM 15 3,qM 16 5,qN 17 16,qT 18 .add 15 17,qM 3 18] (sR [qM 19 3,qB 20 .lss 19 (cI 0)] (jW 20 (.reg [qO 21 (.dead),⟨none,.dead,none⟩])))))) (.cut (.reg [qB 22 .add 11 (cI 1),qM 11 22])))))
abbrev qdT:IC:=(sR [qO 2 (.mov (.c (.nl 1)))] (sR [jI 3 0] (.seq (sR [qM 9 0,qN 10 9,jI 11 0] (.block 0 (.loop qbo))) (sR [qM 23 3,jC 24 137 [.c (.nl 1),.t 23],qM 6 24] (.seq (sR [qM 25 0,qN 26 25,jI 27 0] (.block 2 (.loop qbn))) (sR [qM 35 6,qM 2 35] .ret))))))
theorem qd4:chkF Tryz.prog Tryz.f91 qdT [.t 2] 36=true:=by kernel_rfl
section
variable {E:Envt}
theorem qxw (n:Nat) (hn:n≤1000000000):FCall Tryz.prog E 137 [.nl 1,int n] tStr 1 (·=[]):=by
 unfold FCall
 refine qfF mixed Tryz.func137 qew ?_
 refine zV ?_
 refine br ?_ ?_
 ·intro h
  have:=of_decide_eq_true h
  omega
 ·intro h
  refine zS ?_
  refine qaj zE_ ?_
  refine zS ?_
  ((with_reducible and_intros)<;>try exact sc_)
  refine br ?_ ?_
  ·intro h2
   have h2:=of_decide_eq_true h2
   refine zS ?_
   ((with_reducible and_intros)<;>try exact sc_)
   refine qaj zE_ ?_
   refine zS ?_
   exact qjd 22 [] rfl rfl rfl
  ·intro h2
   refine zS ?_
   refine qaj zE_ ?_
   refine zS ?_
   exact qBk rfl rfl
def lenT (ls:List (List (List UInt8))):Nat:=(ls.map List.length).sum
theorem qoW {ls:List (List (List UInt8))} {k:Nat} {x:List (List UInt8)} (h:ls[k]?=some x):lenT (ls.take (k+1))=lenT (ls.take k)+x.length:=by
 obtain ⟨hk,hx⟩:=zk.1 h
 unfold lenT
 rw [zo hk,zF,List.sum_append,hx]
 simp
theorem qsF {ls:List (List (List UInt8))} {k:Nat} {x:List (List UInt8)} (h:ls[k]?=some x):(ls.take (k+1)).flatten=(ls.take k).flatten++x:=by
 obtain ⟨hk,hx⟩:=zk.1 h
 rw [zo hk,List.flatten_append,hx]
 simp
theorem qnm (ls:List (List (List UInt8))) (k:Nat):lenT (ls.take k)≤lenT ls:=by
 unfold lenT
 conv=>rhs;rw [← List.take_append_drop k ls,zF,List.sum_append]
 omega
theorem quK (ls:List (List (List UInt8))):ls.flatten.length=lenT ls:=by simp [lenT,List.length_flatten]
theorem qsT (ls:List (List (List UInt8))) (hn:ls.length≤1000000) (hs:lenT ls≤1000000000):FCall Tryz.prog E 91 [.sl 1 (ls.map fun l=>[PV.sl 1 (strE l)])] tStr 1 (·=strE ls.flatten):=by
 unfold FCall
 refine qfF mixed Tryz.func91 qd4 ?_
 refine zV ?_
 have hln:(ls.map fun l=>[PV.sl 1 (strE l)]).length=ls.length:=by simp
 have hget:∀ k s,ls[k]?=some s→(ls.map fun l=>[PV.sl 1 (strE l)]).getD k []=[.sl 1 (strE s)]:=fun k s hs=>qao hs
 generalize (ls.map fun l=>[PV.sl 1 (strE l)])=es at hln hget ⊢
 simp only [hln]
 refine qac (fun n fr L=>∃ (k:Nat),k≤ls.length∧n=ls.length - k∧fr=(.p (.sl 1 es)::oo::.p (.nl 1)::.p (int (lenT (ls.take k):Nat))::oC (oo::(.p (.sl 1 es)::.p (int (ls.length:Nat))::.p (int (k:Nat))::oE (oD []))))∧L=[]) ls.length _ [] zF_ zE_ ⟨0,by omega,by omega,rfl,rfl⟩ ?_
 rintro n fr L ⟨k,hk,rfl,rfl,rfl⟩
 simp only [qbo,ZZ,WW,Zd,reduceCtorEq,zd,ze,zb,zf,za]
 have hle:=qnm ls k
 refine br ?_ ?_
 ·intro h
  have hlt:k < ls.length:=by have:=of_decide_eq_true h;omega
  obtain ⟨s,hs⟩:∃ x,ls[k]?=some x:=⟨_,zg hlt⟩
  have hg:=hget k s hs
  have hnx:=qoW hs
  have hle':=qnm ls (k+1)
  simp only [ZZ,WW,Zd,reduceCtorEq,zd,ze,zb,zf,za,hg,qaf,hln]
  ((with_reducible and_intros)<;>try exact sc_)
  refine br ?_ ?_
  ·intro h2
   have:=of_decide_eq_true h2
   omega
  ·intro h2
   refine zS ?_
   refine qaj zE_ ?_
   refine zS ?_
   refine ⟨qal (by omega) (by omega),?_⟩
   refine qab (ls.length - (k+1)) _ [] (by omega) (by rw [hnx];simp only [Int.natCast_add,ZZ,WW,Zd,reduceCtorEq,zd,ze,zb,zf,za];try trivial) zE_ ⟨k+1,by omega,rfl,rfl,rfl⟩
 ·intro h
  have hge:k=ls.length:=by have:=of_decide_eq_false h;omega
  subst hge
  rw [List.take_length]
  refine zS ?_
  refine qBH (qxw (lenT ls) hs) rfl ?_
  rintro es' rfl
  simp only [ZZ,WW,Zd,reduceCtorEq,zd,ze,zb,zf,za,hln]
  refine qac (fun n fr L=>∃ (k:Nat),k≤ls.length∧n=ls.length - k∧fr=(.p (.sl 1 es)::oo::.p (.nl 1)::oo::oo::oo::.row (.l 24)::oE (oB (.p (.sl 1 es)::.p (int (ls.length:Nat))::.p (int (k:Nat))::oD [])))∧L=[(.l 24,.row (strE (ls.take k).flatten) tStr 1 true)]) ls.length _ [(.l 24,.row [] tStr 1 true)] zF_ zE_ ⟨0,by omega,by omega,rfl,rfl⟩ ?_
  rintro n fr L ⟨k,hk,rfl,rfl,rfl⟩
  simp only [qbn,ZZ,WW,Zd,reduceCtorEq,zd,ze,zb,zf,za]
  have hle:=qnm ls k
  refine br ?_ ?_
  ·intro h
   have hlt:k < ls.length:=by have:=of_decide_eq_true h;omega
   obtain ⟨s,hs⟩:∃ x,ls[k]?=some x:=⟨_,zg hlt⟩
   have hg:=hget k s hs
   have hnx:=qoW hs
   have hfx:=qsF hs
   have hle':=qnm ls (k+1)
   have hfl:(strE (ls.take k).flatten).length=lenT (ls.take k):=by rw [qaf,quK]
   simp only [ZZ,WW,Zd,reduceCtorEq,zd,ze,zb,zf,za,hg,hln]
   simp only [hfl,qaf]
   ((with_reducible and_intros)<;>try exact sc_)
   refine qab (ls.length - (k+1)) _ _ (by omega) zF_ (by rw [hfx,qeq];simp only [ZZ,WW,Zd,reduceCtorEq,zd,ze,zb,zf,za]) ⟨k+1,by omega,rfl,rfl,rfl⟩
  ·intro h
   have hge:k=ls.length:=by have:=of_decide_eq_false h;omega
   subst hge
   rw [List.take_length]
   refine zS ?_
   exact qjd 24 _ rfl rfl rfl
end
end Go.Proofs.YtmpdnpljdcincaaGreatDoor
