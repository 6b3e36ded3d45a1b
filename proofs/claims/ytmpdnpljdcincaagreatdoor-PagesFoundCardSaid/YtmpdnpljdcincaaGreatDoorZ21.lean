import Derived.Test.YtmpdnpljdcincaaGreatDoorZ20
import Derived.Test.YtmpdnpljdcincaaGreatDoorZ10
import Derived.Test.YtmpdnpljdcincaaGreatDoorZ13
import Derived.Test.YtmpdnpljdcincaaGreatDoorZ5
import Derived.Test.YtmpdnpljdcincaaGreatDoorZ11
import Derived.Test.YtmpdnpljdcincaaGreatDoorZ8
set_option linter.unusedVariables false
set_option linter.unusedSimpArgs false
set_option linter.defProp false
namespace Go.Proofs.YtmpdnpljdcincaaGreatDoor
open Nat renaming le_refl→zM,reduceAdd→zd,reduceEqDiff→za,reduceLT→zf,reduceLeDiff→zb,reduceMul→ze,reduceSub→zx
open List renaming append_assoc→yt,cons_append→zp,getD→zD,getElem?_append_right→yn,getElem?_eq_getElem→zh,getElem?_map→zA,length_append→zC,length_cons→zj,length_map→zE,length_nil→zr,length_set→yq,length_take→zN,map_append→zT,map_congr_left→zX,map_cons→zo,map_map→ye,map_nil→zw,mem_append→zI,mem_cons→zL,mem_of_getElem?→zy,mem_or_eq_of_mem_set→yh,mem_singleton→zH,nil_append→zq,not_mem_nil→ym,replicate_succ→zi,replicate_zero→zm
open Int renaming toNat_natCast→yf
open Go.RowKit
def qbu:IC:=(sR [qO 2 (.nilr 83 7)] (.seq (sR [qM 3 0,qO 4 (.isn (.t 3))] (.cond (.t 4) (sR [qO 2 (.nilr 83 7)] .ret) .skip)) (sR [qO 5 (.bsr 83 7 []),qM 6 0,qO 7 (.app 83 7 88 (.t 5) (.t 6)),qM 2 7] .ret)))
def qbs:List IRes:=[.t 2]
theorem qdR:chkF Tryz.prog Tryz.f106 qbu qbs 8=true:=by kernel_rfl
def qbR:IC:=(sR [qO 2 (.nilr 41 1)] (.seq (sR [qM 3 0,qO 4 (.isn (.t 3))] (.cond (.t 4) (sR [qO 2 (.nilr 41 1)] .ret) .skip)) (sR [qO 5 (.bsr 41 1 []),qM 6 0,qO 7 (.app 41 1 24 (.t 5) (.t 6)),qM 2 7] .ret)))
def qbO:List IRes:=[.t 2]
theorem qeJ:chkF Tryz.prog Tryz.f107 qbR qbO 8=true:=by kernel_rfl
def qbg:IC:=(sR [qO 3 (.box 34 (.t 1)),qO 4 (.alc 34 [.int .i64 0,.str [],.int .i64 0,.nl 7])] (sR [qF 7 3 3,qL 8 7,qO 9 (.call 106 [.t 8]),qF 10 3 3,qS 1 10 9] (.seq (sR [qF 11 3 3,qL 12 11,qN 13 12,qB 14 .eql 13 (cI 0),qM 15 14,⟨some 16,.mov (.t 0),(some (15,false))⟩,⟨some 17,.call 43 [.t 16,.c (.int .i64 5)],(some (15,false))⟩,qO 18 (.pick (.t 15) (.c (.bool true)) (.t 17))] (.cond (.t 18) (.seq (sR [qM 19 0,qO 20 (.call 29 [.t 19,.c (.int .i64 4)])] (.block 0 (sR [qB 23 .eql 20 (cI 0),qM 22 23] (.cond (.t 22) (.reg [qM 24 0,qO 25 (.bsl 1 [.c (.int .i64 0),.c (.int .i64 1),.c (.int .i64 200),.c (.int .i64 201)]),qO 26 (.call 19 [.t 24,.t 25]),qF 27 0 3,qS 1 27 26]) (sR [qB 29 .eql 20 (cI 1),qM 28 29] (.cond (.t 28) (.reg [qM 30 0,qO 31 (.bsl 1 [.c (.str []),.c (.str [97,98]),.c (.str [90,90])]),qO 32 (.call 45 [.t 30,.t 31]),qF 33 1 3,qS 1 33 32]) (sR [qB 35 .eql 20 (cI 2),qM 34 35] (.cond (.t 34) (.reg [qM 36 0,qO 37 (.bsl 1 [.c (.int .i64 3),.c (.int .i64 9),.c (.int .i64 10)]),qO 38 (.call 19 [.t 36,.t 37]),qF 39 2 3,qS 1 39 38]) (.reg [qF 21 3 3,⟨none,.st 1 (.t 21) (.c (.nl 7)),none⟩]))))))))) (.cut (sR [⟨none,.re,none⟩,qO 40 (.ld 4 true (.t 3)),qS 4 4 40] .ret))) .skip)) (.seq (.drg [qF 41 3 3,qO 42 (.ldl 1 false (.t 41)),qM 43 0,qF 44 3 3,qO 45 (.ldl 1 false (.t 44)),qN 46 45,qO 47 (.dcall true 29 [.t 43,.t 46]),qX 48 7 42 47,qM 5 48]) (.seq (sR [qM 49 0,qO 50 (.call 29 [.t 49,.c (.int .i64 8)])] (.block 1 (sR [qB 88 .eql 50 (cI 0),qM 87 88] (.cond (.t 87) (.reg [qM 89 5,qM 90 0,qO 91 (.bsl 1 [.c (.str []),.c (.str [105,97]),.c (.str [105,98])]),qO 92 (.call 45 [.t 90,.t 91]),qO 93 (.nck (.t 89)),qF 94 0 93,qS 1 94 92]) (sR [qB 96 .eql 50 (cI 1),qM 95 96] (.cond (.t 95) (.reg [qM 97 5,qM 98 0,qM 99 5,qO 100 (.nck (.t 99)),qF 101 0 100,qL 102 101,qO 103 (.bsl 1 [.c (.str []),.c (.str [105,97]),.t 102]),qO 104 (.call 45 [.t 98,.t 103]),qO 105 (.nck (.t 97)),qF 106 1 105,qS 1 106 104]) (sR [qB 108 .eql 50 (cI 2),qM 107 108] (.cond (.t 107) (.reg [qM 109 5,qM 110 0,qO 111 (.call 97 [.t 110,.c (.int .i64 0),.c (.int .i64 5)]),qO 112 (.nck (.t 109)),qF 113 2 112,qS 1 113 111]) (sR [qB 115 .eql 50 (cI 3),qM 114 115] (.cond (.t 114) (.drg [qM 116 5,qO 117 (.nck (.t 116)),qF 118 3 117,qO 119 (.ldl 1 false (.t 118)),qM 120 0,qO 121 (.bsl 1 [.c (.int .i64 (-1)),.c (.int .i64 1)]),qO 122 (.dcall true 19 [.t 120,.t 121]),qT 123 .add 119 122,qO 124 (.nck (.t 116)),qF 125 3 124,qS 1 125 123]) (sR [qB 127 .eql 50 (cI 4),qM 126 127] (.cond (.t 126) (.drg [qM 128 5,qO 129 (.nck (.t 128)),qF 130 4 129,qO 131 (.ldl 1 false (.t 130)),qM 132 0,qO 133 (.bsl 1 [.c (.int .i64 (-1)),.c (.int .i64 1),.c (.int .i64 9999)]),qO 134 (.dcall true 19 [.t 132,.t 133]),qT 135 .add 131 134,qO 136 (.nck (.t 128)),qF 137 4 136,qS 1 137 135]) (sR [qB 139 .eql 50 (cI 5),qM 138 139] (.cond (.t 138) (.reg [qM 140 5,qM 141 0,qO 142 (.bsl 1 [.c (.int .i64 0),.c (.int .i64 1000),.c (.int .i64 1001)]),qO 143 (.call 19 [.t 141,.t 142]),qO 144 (.nck (.t 140)),qF 145 6 144,qS 1 145 143]) (sR [qB 147 .eql 50 (cI 6),qM 146 147] (.cond (.t 146) (.reg [qM 148 5,qM 149 5,qO 150 (.nck (.t 149)),qF 151 5 150,qL 152 151,qO 153 (.call 107 [.t 152]),qM 154 0,qO 155 (.call 46 [.c (.str [112]),.c (.int .i64 81)]),qO 156 (.bsl 1 [.c (.str [120]),.c (.str [97,9,98]),.t 155]),qO 157 (.call 45 [.t 154,.t 156]),⟨none,.fz (.t 157),none⟩,qO 158 (.bsl 1 [.t 157]),qO 159 (.bsl 1 [.t 158]),qO 160 (.app 41 1 24 (.t 153) (.t 159)),⟨none,.re,none⟩,qO 161 (.nck (.t 148)),qF 162 5 161,qS 1 162 160]) (sR [qM 51 0,qM 52 5,qO 53 (.nck (.t 52)),qF 54 5 53,qL 55 54,qN 56 55,qO 57 (.call 29 [.t 51,.t 56]),qM 6 57] (sR [qM 58 5,qM 59 5,qO 60 (.nck (.t 59)),qF 61 5 60,qL 62 61,qO 63 (.call 107 [.t 62]),⟨none,.re,none⟩,qO 64 (.nck (.t 58)),qF 65 5 64,qS 1 65 63,⟨none,.re,none⟩] (.drp [5,6,7,8,9,10,11,12,13,14,15,16,17,18,19,0,1,2,3,4,20,21] [⟨none,.fz (.t 83),none⟩,⟨none,.hole 78,none⟩,qM 71 5,qO 72 (.nck (.t 71)),qF 73 5 72,qO 74 (.ldl 1 false (.t 73)),qM 75 6,qX 76 1 74 75,qO 77 (.ldl 1 false (.t 76)),qO 78 (.fcl 0 101 [.t 77] 9 1),qM 79 0,qO 80 (.pcall 1 46 [.c (.str [112]),.c (.int .i64 80)]),qO 81 (.pcall 2 46 [.c (.str [112]),.c (.int .i64 81)]),qO 82 (.bsl 1 [.c (.str [109,111,114,101]),.c (.str [255]),.t 80,.t 81]),qO 83 (.dcall true 45 [.t 79,.t 82]),qO 84 (.bsl 1 [.t 83]),qO 85 (.app 9 1 16 (.t 78) (.t 84)),qM 66 5,qO 67 (.nck (.t 66)),qF 68 5 67,qO 69 (.ldl 1 false (.t 68)),qM 70 6,qX 86 1 69 70,qS 1 86 85]))))))))))))))))))) (.cut (sR [⟨none,.re,none⟩,qO 163 (.ld 4 true (.t 3)),qS 4 4 163] .ret)))))))
def qbb:List IRes:=[.c 4 4 true]
theorem qdn:chkF Tryz.prog Tryz.f44 qbg qbb 164=true:=by kernel_rfl
section
variable {E:Envt}
theorem qtM (es:List (List PV)) (hn:es.length≤1000000):FCall Tryz.prog E 106 [.sl 7 es] qcg 7 (·=es):=by
 unfold FCall
 refine qjt mixed Tryz.func106 qdR ?_
 simp only [a0,l0,OS.ao,zo,zw,zj,zr,zp,zq,zx,zd,zi,zm,qbu,qbs,ZZ,WW,Ze,reduceCtorEq,zd,ze,zb,zf,za]
 intro b hb
 refine br ?_ ?_
 ·intro h
  have:=hb h
  refine zS ?_
  exact ql7 2 [] rfl rfl this.symm
 ·intro h
  refine zS ?_
  exact ⟨by omega,ql7 5 es rfl rfl rfl⟩
theorem qn7 (es:List (List PV)) (hn:es.length≤1000000):FCall Tryz.prog E 107 [.sl 1 es] tPgs 1 (·=es):=by
 unfold FCall
 refine qjt mixed Tryz.func107 qeJ ?_
 simp only [a0,l0,OS.ao,zo,zw,zj,zr,zp,zq,zx,zd,zi,zm,qbR,qbO,ZZ,WW,Ze,reduceCtorEq,zd,ze,zb,zf,za]
 intro b hb
 refine br ?_ ?_
 ·intro h
  have:=hb h
  refine zS ?_
  exact ql7 2 [] rfl rfl this.symm
 ·intro h
  refine zS ?_
  exact ⟨by omega,ql7 5 es rfl rfl rfl⟩
theorem qkj (l:List Sht) (q:Nat) (x:Sht):(shE l).set q (shV x)=shE (l.set q x):=by simp [shE]
theorem qux:∀ l:List PV,Zba (l.map AV.p)=some (l.map wk1)
 |[]=>rfl
 |a :: l=>by simp only [zo,Zba,Zaz,qux l]
theorem qmk:∀ L:List (List PV),Zbb (L.map fun r=>r.map AV.p)=some (L.map fun r=>r.map wk1)
 |[]=>rfl
 |r :: L=>by simp only [zo,Zbb,qux,qmk L]
theorem qAQ (l:List Sht):(shE l).map (fun r=>r.map wk1)=shE l:=by
 rw [shE,ye]
 exact zX fun x _=>rfl
theorem qAF (l:Tab):(tbE l).map (fun r=>r.map wk1)=tbE l:=by
 rw [tbE,ye]
 exact zX fun x _=>rfl
theorem qop {fr fr1:List AV} {L L1:Objs} {K:List AV→Objs→Prop} (h:ReOk E fr L fr1 L1) (h2:∃ fr' L',ReOk E fr1 L1 fr' L'∧K fr' L'):∃ fr' L',ReOk E fr L fr' L'∧K fr' L':=by
 obtain ⟨a,b,c,d⟩:=h2
 exact ⟨a,b,h.trans c,d⟩
theorem qyv (pg:Tab) (j:Nat) (r:SRow):Zbb (((tbE pg).map fun x=>x.map AV.p).set j [.p (.sl 1 (strE r))])=some (tbE (pg.set j r)):=by
 have h:((tbE pg).map fun x=>x.map AV.p).set j [.p (.sl 1 (strE r))]=(tbE (pg.set j r)).map fun x=>x.map AV.p:=by simp [tbE,List.map_set]
 rw [h,qmk,qAF]
theorem qy4 (l:List Sht) (q:Nat) (y:Sht):Zbb (((shE l).map fun x=>x.map AV.p).set q [.p (.str y.id),.p (.str y.top),.p (int y.kind),.p (int y.fr_),.p (int y.to_),.p (.sl 1 (tbE y.pages)),.p (int y.ver)])=some (shE (l.set q y)):=by
 have h:((shE l).map fun x=>x.map AV.p).set q [.p (.str y.id),.p (.str y.top),.p (int y.kind),.p (int y.fr_),.p (int y.to_),.p (.sl 1 (tbE y.pages)),.p (int y.ver)]=(shE (l.set q y)).map fun x=>x.map AV.p:=by simp [shE,shV,List.map_set]
 rw [h,qmk,qAQ]
theorem qu1 (k:Key) (X:List (List PV)):((X.map fun x=>x.map AV.p).map fun x=>x.map fun y=>AV.kill k y)=X.map fun x=>x.map AV.p:=by
 rw [ye]
 refine zX fun x _=>?_
 rw [Function.comp_apply,ye]
 exact zX fun y _=>rfl
theorem qyu (k:Key) (v:PV) (X:List (List PV)):((X.map fun x=>x.map AV.p).map fun x=>x.map fun y=>AV.thaw k v y)=X.map fun x=>x.map AV.p:=by
 rw [ye]
 refine zX fun x _=>?_
 rw [Function.comp_apply,ye]
 exact zX fun y _=>by simp only [Function.comp_apply,AV.thaw,thaw_P]
theorem qjL {p:Prd} (h:PdB p) (q:Nat) {y:Sht} (hy:ShB y):PdB ⟨p.no,p.pre,p.dig,p.shs.set q y⟩:=
 ⟨h.no,h.pre,h.dig,by show (p.shs.set q y).length≤1000;rw [yq];exact h.shs,fun x hx=>by
  rcases yh hx with hx|rfl
  ·exact h.all x hx
  ·exact hy⟩
set_option maxHeartbeats 8000000 in
set_option maxRecDepth 100000 in
theorem qkb (l:List Int) (k:Nat) (p:Prd) (hp:PdB p) (hpg:PgP p) (hk:k≤800000) (hl:l.length≤9223372036854775807) :
  qfU Tryz.prog E 44 T (stm l k) [.agg (pdV p)] (fun x cs'=>∃ p' k',x=.agg (pdV p')∧PdB p'∧cs'=stm l k'∧k'≤k+10):=by
 unfold qfU
 refine qfP mixed Tryz.func44 qdn ?_
 simp only [a0,l0,OS.ao,zo,zw,zj,zr,zp,zq,zx,zd,zi,zm,pdV,qbg,qbb,ZZ,WW,Ze,reduceCtorEq,zd,ze,zb,zf,za]
 refine useF (qtM (shE p.shs) (by rw [qae];have:=hp.shs;omega)) rfl rfl ?_
 rintro es rfl
 have hsl:=hp.shs
 obtain ⟨no,pre,dig,shs⟩:=p
 have hb1:=hp.no
 have hb3:=hp.dig
 simp only at hsl hb1 hb3 ⊢
 simp only [pdV,ZZ,WW,Ze,reduceCtorEq,zd,ze,zb,zf,za]
 rcases Nat.eq_zero_or_pos shs.length with h0|h0
 ·have e0:decide ((shs.length:Int)=0)=true:=by rw [h0];rfl
  simp only [ZZ,WW,Ze,reduceCtorEq,zd,ze,zb,zf,za,qae,e0,Bool.not_true]
  refine qpD (fun h=>by cases h) (fun _=>?_)
  refine zS ?_
  refine useS (qdT l (k) 4 (by omega) hl (by decide)) rfl rfl rfl zE_ ?_
  rintro x cs' ⟨y,rfl,rfl⟩
  generalize qeL y 4=c
  refine zS ?_
  refine br ?_ ?_
  ·intro _
   refine zS ?_
   refine useS (qdS l (k+1) [0,1,200,201] (by omega) hl (by simp) (by simp)) rfl rfl rfl zE_ ?_
   rintro x cs' ⟨u,rfl,hu,rfl⟩
   have hu:-1000000≤u∧u≤1000000:=by simp only [zL,ym,or_false] at hu;omega
   refine zS ?_
   refine qaq zE_ ?_
   refine zS ?_
   rw [qbc]
   refine ⟨_,_,qbA (k:=.l 9) rfl,?_⟩
   refine zS ?_
   exact qeF (stm l (k+1+1)) rfl ⟨⟨u,pre,dig,shs⟩,_,rfl,⟨hu,hp.pre,hp.dig,hp.shs,hp.all⟩,rfl,by omega⟩
  intro _
  refine zS ?_
  refine br ?_ ?_
  ·intro _
   refine zS ?_
   refine useS (qhU l (k+1) [[],[97,98],[90,90]] (by omega) hl (by simp) (by simp)) rfl rfl rfl zE_ ?_
   rintro x cs' ⟨u,rfl,hu,rfl⟩
   have hu:u.length≤1000:=by simp only [zL,ym,or_false] at hu;rcases hu with rfl|rfl|rfl<;>decide
   refine zS ?_
   refine qaq zE_ ?_
   refine zS ?_
   rw [qbc]
   refine ⟨_,_,qbA (k:=.l 9) rfl,?_⟩
   refine zS ?_
   exact qeF (stm l (k+1+1)) rfl ⟨⟨no,u,dig,shs⟩,_,rfl,⟨hp.no,hu,hp.dig,hp.shs,hp.all⟩,rfl,by omega⟩
  intro _
  refine zS ?_
  refine br ?_ ?_
  ·intro _
   refine zS ?_
   refine useS (qdS l (k+1) [3,9,10] (by omega) hl (by simp) (by simp)) rfl rfl rfl zE_ ?_
   rintro x cs' ⟨u,rfl,hu,rfl⟩
   have hu:-1000≤u∧u≤1000:=by simp only [zL,ym,or_false] at hu;omega
   refine zS ?_
   refine qaq zE_ ?_
   refine zS ?_
   rw [qbc]
   refine ⟨_,_,qbA (k:=.l 9) rfl,?_⟩
   refine zS ?_
   exact qeF (stm l (k+1+1)) rfl ⟨⟨no,pre,u,shs⟩,_,rfl,⟨hp.no,hp.pre,hu,hp.shs,hp.all⟩,rfl,by omega⟩
  intro _
  refine zS ?_
  refine qaq zE_ ?_
  refine zS ?_
  rw [qbc]
  refine ⟨_,_,qbA (k:=.l 9) rfl,?_⟩
  refine zS ?_
  exact qeF (stm l (k+1)) rfl ⟨⟨no,pre,dig,[]⟩,_,rfl,⟨hp.no,hp.pre,hp.dig,(by simp),fun x hx=>by cases hx⟩,rfl,by omega⟩
 have e0:decide ((shs.length:Int)=0)=false:=by rw [decide_eq_false_iff_not];omega
 simp only [ZZ,WW,Ze,reduceCtorEq,zd,ze,zb,zf,za,qae,e0,Bool.not_false]
 refine qpD (fun _=>?_) (fun hc=>by cases hc)
 refine useS (qhI l k 5 (by omega) hl (by decide)) rfl rfl rfl zE_ ?_
 rintro x cs' ⟨f,rfl,rfl⟩
 refine zS ?_
 refine br ?_ ?_
 ·intro _
  refine zS ?_
  refine useS (qdT l (k+1) 4 (by omega) hl (by decide)) rfl rfl rfl zE_ ?_
  rintro x cs' ⟨y,rfl,rfl⟩
  generalize qeL y 4=c
  refine zS ?_
  refine br ?_ ?_
  ·intro _
   refine zS ?_
   refine useS (qdS l (k+1+1) [0,1,200,201] (by omega) hl (by simp) (by simp)) rfl rfl rfl zE_ ?_
   rintro x cs' ⟨u,rfl,hu,rfl⟩
   have hu:-1000000≤u∧u≤1000000:=by simp only [zL,ym,or_false] at hu;omega
   refine zS ?_
   refine qaq zE_ ?_
   refine zS ?_
   rw [qbc]
   refine ⟨_,_,qbA (k:=.l 9) rfl,?_⟩
   refine zS ?_
   exact qeF (stm l (k+1+1+1)) rfl ⟨⟨u,pre,dig,shs⟩,_,rfl,⟨hu,hp.pre,hp.dig,hp.shs,hp.all⟩,rfl,by omega⟩
  intro _
  refine zS ?_
  refine br ?_ ?_
  ·intro _
   refine zS ?_
   refine useS (qhU l (k+1+1) [[],[97,98],[90,90]] (by omega) hl (by simp) (by simp)) rfl rfl rfl zE_ ?_
   rintro x cs' ⟨u,rfl,hu,rfl⟩
   have hu:u.length≤1000:=by simp only [zL,ym,or_false] at hu;rcases hu with rfl|rfl|rfl<;>decide
   refine zS ?_
   refine qaq zE_ ?_
   refine zS ?_
   rw [qbc]
   refine ⟨_,_,qbA (k:=.l 9) rfl,?_⟩
   refine zS ?_
   exact qeF (stm l (k+1+1+1)) rfl ⟨⟨no,u,dig,shs⟩,_,rfl,⟨hp.no,hu,hp.dig,hp.shs,hp.all⟩,rfl,by omega⟩
  intro _
  refine zS ?_
  refine br ?_ ?_
  ·intro _
   refine zS ?_
   refine useS (qdS l (k+1+1) [3,9,10] (by omega) hl (by simp) (by simp)) rfl rfl rfl zE_ ?_
   rintro x cs' ⟨u,rfl,hu,rfl⟩
   have hu:-1000≤u∧u≤1000:=by simp only [zL,ym,or_false] at hu;omega
   refine zS ?_
   refine qaq zE_ ?_
   refine zS ?_
   rw [qbc]
   refine ⟨_,_,qbA (k:=.l 9) rfl,?_⟩
   refine zS ?_
   exact qeF (stm l (k+1+1+1)) rfl ⟨⟨no,pre,u,shs⟩,_,rfl,⟨hp.no,hp.pre,hu,hp.shs,hp.all⟩,rfl,by omega⟩
  intro _
  refine zS ?_
  refine qaq zE_ ?_
  refine zS ?_
  rw [qbc]
  refine ⟨_,_,qbA (k:=.l 9) rfl,?_⟩
  refine zS ?_
  exact qeF (stm l (k+1+1)) rfl ⟨⟨no,pre,dig,[]⟩,_,rfl,⟨hp.no,hp.pre,hp.dig,(by simp),fun x hx=>by cases hx⟩,rfl,by omega⟩
 intro _
 refine zS ?_
 refine drg0 ?_
 simp only [ZZ,WW,Ze,reduceCtorEq,zd,ze,zb,zf,za,qae]
 refine useD (qdT l (k+1) shs.length (by omega) hl (by omega)) ⟨_,_,0,rfl,rfl⟩ rfl rfl rfl zE_ (fun _=>⟨0,rfl⟩) ?_
 rintro x cs' ⟨y,rfl,rfl⟩
 have y1:=qfl y shs.length
 have y2:=qfm y shs.length (by omega)
 obtain ⟨q,hq⟩:∃ q:Nat,qeL y shs.length=(q:Nat):=⟨(qeL y shs.length).toNat,by omega⟩
 rw [hq] at y1 y2 ⊢
 clear hq
 obtain ⟨x,hx⟩:∃ x,shs[q]?=some x:=⟨_,zh (by omega)⟩
 have hg:=qbY hx
 have hxB:=hp.all x (zy hx)
 have hxS:=hpg x (zy hx)
 obtain ⟨id,top,kd,fr0,to0,pg,ver⟩:=x
 simp only [shV] at hg
 have hql:q < shs.length:=by omega
 have hb4:=hxS.fr_
 have hb5:=hxS.to_
 simp only at hb4 hb5
 simp only [ZZ,WW,Ze,reduceCtorEq,zd,ze,zb,zf,za,hg,qae]
 refine ⟨⟨by omega,by omega⟩,?_⟩
 refine useS (qdT l (k+1+1) 8 (by omega) hl (by decide)) rfl rfl rfl zE_ ?_
 rintro x cs' ⟨y,rfl,rfl⟩
 generalize qeL y 8=c
 refine zS ?_
 refine br ?_ ?_
 ·intro _
  simp only [ZZ,WW,Ze,reduceCtorEq,zd,ze,zb,zf,za,hg,qae]
  refine useS (qhU l (k+1+1+1) [[],[105,97],[105,98]] (by omega) hl (by simp) (by simp)) rfl rfl rfl zE_ ?_
  rintro x cs' ⟨u,rfl,hu,rfl⟩
  have hu:u.length≤1000:=by simp only [zL,ym,or_false] at hu;rcases hu with rfl|rfl|rfl<;>decide
  simp only [ZZ,WW,Ze,reduceCtorEq,zd,ze,zb,zf,za,hg,qae]
  refine ⟨hql,?_⟩
  refine qaq zE_ ?_
  refine zS ?_
  rw [qbc]
  refine ⟨_,_,qbA (k:=.l 9) rfl,?_⟩
  refine zS ?_
  exact qeF (stm l (k+1+1+1+1)) rfl ⟨⟨no,pre,dig,shs.set q ⟨u,top,kd,fr0,to0,pg,ver⟩⟩,_,by simp only [← qkj];rfl,qjL hp q ⟨hu,hxB.top,hxB.kind,hxB.fr_,hxB.to_,hxB.pages,hxB.page,hxB.ver⟩,rfl,by omega⟩
 intro _
 refine zS ?_
 refine br ?_ ?_
 ·intro _
  simp only [ZZ,WW,Ze,reduceCtorEq,zd,ze,zb,zf,za,hg,qae]
  refine ⟨hql,?_⟩
  refine useS (qhU l (k+1+1+1) [[],[105,97],id] (by omega) hl (by simp) (by simp)) rfl rfl rfl zE_ ?_
  rintro x cs' ⟨u,rfl,hu,rfl⟩
  have hu:u.length≤1000:=by simp only [zL,ym,or_false] at hu;rcases hu with rfl|rfl|rfl<;>first|exact hxB.id|decide
  simp only [ZZ,WW,Ze,reduceCtorEq,zd,ze,zb,zf,za,hg,qae]
  refine ⟨hql,?_⟩
  refine qaq zE_ ?_
  refine zS ?_
  rw [qbc]
  refine ⟨_,_,qbA (k:=.l 9) rfl,?_⟩
  refine zS ?_
  exact qeF (stm l (k+1+1+1+1)) rfl ⟨⟨no,pre,dig,shs.set q ⟨id,u,kd,fr0,to0,pg,ver⟩⟩,_,by simp only [← qkj];rfl,qjL hp q ⟨hxB.id,hu,hxB.kind,hxB.fr_,hxB.to_,hxB.pages,hxB.page,hxB.ver⟩,rfl,by omega⟩
 intro _
 refine zS ?_
 refine br ?_ ?_
 ·intro _
  simp only [ZZ,WW,Ze,reduceCtorEq,zd,ze,zb,zf,za,hg,qae]
  refine useS (qpr l (k+1+1+1) 0 5 (by omega) hl (by omega) (by omega) (by omega)) rfl rfl rfl zE_ ?_
  rintro x cs' ⟨u,rfl,hu1,hu2,rfl⟩
  simp only [ZZ,WW,Ze,reduceCtorEq,zd,ze,zb,zf,za,hg,qae]
  refine ⟨hql,?_⟩
  refine qaq zE_ ?_
  refine zS ?_
  rw [qbc]
  refine ⟨_,_,qbA (k:=.l 9) rfl,?_⟩
  refine zS ?_
  exact qeF (stm l (k+1+1+1+1)) rfl ⟨⟨no,pre,dig,shs.set q ⟨id,top,u,fr0,to0,pg,ver⟩⟩,_,by simp only [← qkj];rfl,qjL hp q ⟨hxB.id,hxB.top,show -1000≤u∧u≤1000 by omega,hxB.fr_,hxB.to_,hxB.pages,hxB.page,hxB.ver⟩,rfl,by omega⟩
 intro _
 refine zS ?_
 refine br ?_ ?_
 ·intro _
  simp only [ZZ,WW,Ze,reduceCtorEq,zd,ze,zb,zf,za,hg,qae]
  refine drg0 ?_
  simp only [ZZ,WW,Ze,reduceCtorEq,zd,ze,zb,zf,za,hg,qae]
  refine ⟨hql,?_⟩
  refine useD (qdS l (k+1+1+1) [-1,1] (by omega) hl (by simp) (by simp)) ⟨_,_,-1,rfl,by simp,rfl⟩ rfl rfl rfl zE_ (fun _=>⟨0,rfl⟩) ?_
  rintro x cs' ⟨u,rfl,hu,rfl⟩
  have hu:-10000≤u∧u≤10000:=by simp only [zL,ym,or_false] at hu;omega
  simp only [ZZ,WW,Ze,reduceCtorEq,zd,ze,zb,zf,za,hg,qae]
  refine ⟨qat (by omega) (by omega),?_⟩
  refine ⟨hql,?_⟩
  refine qaq zE_ ?_
  refine zS ?_
  rw [qbc]
  refine ⟨_,_,qbA (k:=.l 9) rfl,?_⟩
  refine zS ?_
  exact qeF (stm l (k+1+1+1+1)) rfl ⟨⟨no,pre,dig,shs.set q ⟨id,top,kd,fr0+u,to0,pg,ver⟩⟩,_,by simp only [← qkj];rfl,qjL hp q ⟨hxB.id,hxB.top,hxB.kind,show -100000000000≤fr0+u∧fr0+u≤100000000000 by omega,hxB.to_,hxB.pages,hxB.page,hxB.ver⟩,rfl,by omega⟩
 intro _
 refine zS ?_
 refine br ?_ ?_
 ·intro _
  simp only [ZZ,WW,Ze,reduceCtorEq,zd,ze,zb,zf,za,hg,qae]
  refine drg0 ?_
  simp only [ZZ,WW,Ze,reduceCtorEq,zd,ze,zb,zf,za,hg,qae]
  refine ⟨hql,?_⟩
  refine useD (qdS l (k+1+1+1) [-1,1,9999] (by omega) hl (by simp) (by simp)) ⟨_,_,-1,rfl,by simp,rfl⟩ rfl rfl rfl zE_ (fun _=>⟨0,rfl⟩) ?_
  rintro x cs' ⟨u,rfl,hu,rfl⟩
  have hu:-10000≤u∧u≤10000:=by simp only [zL,ym,or_false] at hu;omega
  simp only [ZZ,WW,Ze,reduceCtorEq,zd,ze,zb,zf,za,hg,qae]
  refine ⟨qat (by omega) (by omega),?_⟩
  refine ⟨hql,?_⟩
  refine qaq zE_ ?_
  refine zS ?_
  rw [qbc]
  refine ⟨_,_,qbA (k:=.l 9) rfl,?_⟩
  refine zS ?_
  exact qeF (stm l (k+1+1+1+1)) rfl ⟨⟨no,pre,dig,shs.set q ⟨id,top,kd,fr0,to0+u,pg,ver⟩⟩,_,by simp only [← qkj];rfl,qjL hp q ⟨hxB.id,hxB.top,hxB.kind,hxB.fr_,show -100000000000≤to0+u∧to0+u≤100000000000 by omega,hxB.pages,hxB.page,hxB.ver⟩,rfl,by omega⟩
 intro _
 refine zS ?_
 refine br ?_ ?_
 ·intro _
  simp only [ZZ,WW,Ze,reduceCtorEq,zd,ze,zb,zf,za,hg,qae]
  refine useS (qdS l (k+1+1+1) [0,1000,1001] (by omega) hl (by simp) (by simp)) rfl rfl rfl zE_ ?_
  rintro x cs' ⟨u,rfl,hu,rfl⟩
  have hu:-1000000≤u∧u≤1000000:=by simp only [zL,ym,or_false] at hu;omega
  simp only [ZZ,WW,Ze,reduceCtorEq,zd,ze,zb,zf,za,hg,qae]
  refine ⟨hql,?_⟩
  refine qaq zE_ ?_
  refine zS ?_
  rw [qbc]
  refine ⟨_,_,qbA (k:=.l 9) rfl,?_⟩
  refine zS ?_
  exact qeF (stm l (k+1+1+1+1)) rfl ⟨⟨no,pre,dig,shs.set q ⟨id,top,kd,fr0,to0,pg,u⟩⟩,_,by simp only [← qkj];rfl,qjL hp q ⟨hxB.id,hxB.top,hxB.kind,hxB.fr_,hxB.to_,hxB.pages,hxB.page,hu⟩,rfl,by omega⟩
 intro _
 refine zS ?_
 refine br ?_ ?_
 ·intro _
  simp only [ZZ,WW,Ze,reduceCtorEq,zd,ze,zb,zf,za,hg,qae]
  refine ⟨hql,?_⟩
  have hpl:=hxS.pages
  simp only at hpl
  refine useF (qn7 (tbE pg) (by rw [qax];omega)) rfl rfl ?_
  rintro es rfl
  refine zS ?_
  refine use1 (qgr [112] 81 (by omega) (by simp)) rfl (.inl rfl) ?_
  have g0:(Lib.repeatL [112] 81).length=81:=by rw [Lib.repeatL_length];rfl
  generalize Lib.repeatL [112] 81=r0 at g0 ⊢
  refine zS ?_
  refine useS (qhU l (k+1+1+1) [[120],[97,9,98],r0] (by omega) hl (by simp) (by simp)) rfl rfl rfl zE_ ?_
  rintro x cs' ⟨u,rfl,hu,rfl⟩
  have hu:u.length≤1000:=by simp only [zL,ym,or_false] at hu;rcases hu with rfl|rfl|rfl<;>first|omega|decide
  simp only [ZZ,WW,Ze,reduceCtorEq,zd,ze,zb,zf,za,qax]
  refine ⟨by omega,?_⟩
  rw [qbc]
  refine ⟨_,_,qbA (k:=.l 153) rfl,?_⟩
  simp only [ZZ,WW,Ze,reduceCtorEq,zd,ze,zb,zf,za,hg,qae]
  refine ⟨hql,?_⟩
  refine qaq zE_ ?_
  refine zS ?_
  rw [qbc]
  refine ⟨_,_,qbA (k:=.l 9) rfl,?_⟩
  refine zS ?_
  have epg:tbE pg++[[PV.sl 1 [[PV.str u]]]]=tbE (pg++[[u]]):=by simp [tbE,strE]
  rw [epg]
  exact qeF (stm l (k+1+1+1+1)) rfl ⟨⟨no,pre,dig,shs.set q ⟨id,top,kd,fr0,to0,pg++[[u]],ver⟩⟩,_,by simp only [← qkj];rfl,qjL hp q ⟨hxB.id,hxB.top,hxB.kind,hxB.fr_,hxB.to_,(by show (pg++[[u]]).length≤100000;rw [zC,List.length_singleton];omega),(fun r hr=>(zI.1 hr).elim (hxB.page r) (fun h=>by rw [zH] at h;subst h;exact ⟨by simp,fun z hz=>by rw [zH] at hz;subst hz;omega⟩)),hxB.ver⟩,rfl,by omega⟩
 intro _
 simp only [ZZ,WW,Ze,reduceCtorEq,zd,ze,zb,zf,za,hg,qae,qax]
 refine ⟨hql,?_⟩
 have hpl:=hxS.pages
 have hpp:=hxS.page
 simp only at hpl hpp
 refine useS (qdT l (k+1+1+1) pg.length (by omega) hl (by omega)) rfl rfl rfl zE_ ?_
 rintro x cs' ⟨y,rfl,rfl⟩
 have z1:=qfl y pg.length
 have z2:=qfm y pg.length (by omega)
 obtain ⟨j,hj⟩:∃ j:Nat,qeL y pg.length=(j:Nat):=⟨(qeL y pg.length).toNat,by omega⟩
 rw [hj] at z1 z2 ⊢
 clear hj
 obtain ⟨r,hr⟩:∃ r,pg[j]?=some r:=⟨_,zh (by omega)⟩
 have hgr:=qi7 hr
 have hrp:=hpp r (zy hr)
 simp only [ZZ,WW,Ze,reduceCtorEq,zd,ze,zb,zf,za,hg,qae,qax]
 refine ⟨hql,?_⟩
 refine useF (qn7 (tbE pg) (by rw [qax];omega)) rfl rfl ?_
 rintro es rfl
 refine zS ?_
 rw [qbc]
 refine ⟨_,_,qmU (k:=.l 9) rfl,?_⟩
 refine zS ?_
 refine ⟨by rw [zE,qae];exact hql,?_⟩
 have hgm:((shE shs).map fun x=>x.map AV.p).getD q []=[.p (.str id),.p (.str top),.p (int kd),.p (int fr0),.p (int to0),.p (.sl 1 (tbE pg)),.p (int ver)]:=by
  rw [zD,zA,shE,zA,hx];rfl
 simp only [ZZ,WW,Ze,reduceCtorEq,zd,ze,zb,zf,za,hgm]
 rw [qbc]
 refine ⟨_,_,qmU (k:=.l 63) rfl,?_⟩
 refine zS ?_
 have hNg:((tbE pg).map fun x=>x.map AV.p).getD j []=[.p (.sl 1 (strE r))]:=by
  rw [zD,zA,tbE,zA,hr];rfl
 have hset:∀ R,(((shE shs).map fun x=>x.map AV.p).set q R).getD q []=R:=fun R=>by
  rw [zD,List.getElem?_set_self (by rw [zE,qae];exact hql)];rfl
 refine ⟨[.sl 1 (strE r),.str (Lib.repeatL [112] 80),.str (Lib.repeatL [112] 81)],?_⟩
 simp only [ZZ,WW,Ze,reduceCtorEq,zd,ze,zb,zf,za,List.map_set,qu1,hset,hNg,yq,zE,qae,qax]
 refine ⟨hql,⟨by omega,by omega⟩,by omega,qBS (qjM (strE r) (by rw [qai];omega)),usep (qgr [112] 80 (by omega) (by simp)) rfl (.inl rfl),usep (qgr [112] 81 (by omega) (by simp)) rfl (.inl rfl),?_⟩
 have g0:(Lib.repeatL [112] 80).length=80:=by rw [Lib.repeatL_length];rfl
 have g1:(Lib.repeatL [112] 81).length=81:=by rw [Lib.repeatL_length];rfl
 generalize Lib.repeatL [112] 80=r0 at g0 ⊢
 generalize Lib.repeatL [112] 81=r1 at g1 ⊢
 refine useD (qhU l (k+1+1+1+1) [[109,111,114,101],[255],r0,r1] (by omega) hl (by simp) (by simp)) ⟨_,_,[255],rfl,by simp,rfl⟩ rfl rfl rfl zE_ (fun _=>⟨0,rfl⟩) ?_
 rintro x cs' ⟨u,rfl,hu,rfl⟩
 have hu:u.length≤1000:=by simp only [zL,ym,or_false] at hu;rcases hu with rfl|rfl|rfl|rfl<;>first|omega|decide
 simp only [ZZ,WW,Ze,reduceCtorEq,zd,ze,zb,zf,za,List.map_set,qu1,hset,hNg,yq,zE,qae,qax,qai]
 refine ⟨by omega,hql,⟨by omega,by omega⟩,by omega,?_⟩
 refine qaq zE_ ?_
 refine zS ?_
 rw [qbc]
 refine qop (qbA (k:=.l 78) rfl) ?_
 simp only [ZZ,WW,Ze,reduceCtorEq,zd,ze,zb,zf,za,List.map_set,qyu]
 have er:strE r++[[PV.str u]]=strE (r++[u]):=by simp [strE]
 rw [er]
 refine qop (qhh (k:=.l 63) rfl (qyv pg j (r++[u]))) ?_
 refine zS ?_
 refine qop (qbA (k:=.l 63) rfl) ?_
 simp only [ZZ,WW,Ze,reduceCtorEq,zd,ze,zb,zf,za,List.map_set,qyu]
 refine qop (qhh (k:=.l 9) rfl (qy4 shs q ⟨id,top,kd,fr0,to0,pg.set j (r++[u]),ver⟩)) ?_
 refine zS ?_
 refine ⟨_,_,qbA (k:=.l 9) rfl,?_⟩
 refine zS ?_
 exact qeF (stm l (k+1+1+1+1+1)) rfl ⟨⟨no,pre,dig,shs.set q ⟨id,top,kd,fr0,to0,pg.set j (r++[u]),ver⟩⟩,_,rfl,qjL hp q ⟨hxB.id,hxB.top,hxB.kind,hxB.fr_,hxB.to_,(by show (pg.set j (r++[u])).length≤100000;rw [yq];omega),(fun r' hr'=>(yh hr').elim (hxB.page r') (fun h=>by subst h;exact ⟨by simp;omega,fun z hz=>(zI.1 hz).elim ((hxB.page r (zy hr)).2 z) (fun h=>by rw [zH] at h;subst h;omega)⟩)),hxB.ver⟩,rfl,by omega⟩
end
def qeS:IC:=(sR [qT 10 .lss 9 8] (.seq (.cond (.t 10) .skip (.exit 0)) (.seq (.block 1 (sR [qX 11 7 7 9,qO 12 (.ld 7 true (.t 11)),qO 5 (.alc 83 [.str [],.str [],.int .i64 0,.int .i64 0,.int .i64 0,.nl 1,.int .i64 0]),qS 7 5 12] (.seq (sR [qF 13 0 5,qL 14 13,qF 15 1 5,qL 16 15,qT 17 .eql 14 16] (.cond (.t 17) (.reg [qM 18 3,qO 19 (.bsr 32 1 [.c (.nl 7)]),qO 20 (.app 32 1 24 (.t 18) (.t 19)),qM 3 20]) .skip)) (.cut (.drp [4,5,6,7,8,9,10,11,12,0,1,2,3,13,14] [qM 25 3,qM 26 3,qN 27 26,qB 28 .sub 27 (cI 1),qX 29 1 25 28,qL 30 29,qO 31 (.ld 7 true (.t 5)),qO 32 (.bsl 7 [.t 31]),qO 33 (.app 83 7 88 (.t 30) (.t 32)),qM 21 3,qM 22 3,qN 23 22,qB 24 .sub 23 (cI 1),qX 34 1 21 24,qS 1 34 33]))))) (.reg [qB 35 .add 9 (cI 1),qM 9 35]))))
def qgO:IC:=(sR [qO 1 (.box 34 (.t 0)),qO 2 (.mov (.c (.nl 1)))] (sR [qO 3 (.nilr 32 1)] (.seq (sR [qF 6 3 1,qL 7 6,qN 8 7,qO 9 (.mov (cI 0))] (.block 0 (.loop qeS))) (sR [qM 36 3,qM 2 36] .ret))))
def qgv:List IRes:=[.t 2]
theorem qks:chkF Tryz.prog Tryz.f72 qgO qgv 37=true:=by kernel_rfl
def qd1:IC:=(sR [qT 10 .lss 9 8] (.seq (.cond (.t 10) .skip (.exit 0)) (.seq (.block 1 (sR [qX 11 7 7 9,qO 12 (.ld 7 true (.t 11)),qO 5 (.alc 83 [.str [],.str [],.int .i64 0,.int .i64 0,.int .i64 0,.nl 1,.int .i64 0]),qS 7 5 12] (.seq (sR [qF 13 0 5,qL 14 13,qF 15 1 5,qL 16 15,qT 17 .eql 14 16] (.cond (.t 17) (.reg [qM 18 3,qO 19 (.bsr 32 1 [.c (.nl 7)]),qO 20 (.app 32 1 24 (.t 18) (.t 19)),qM 3 20]) .skip)) (.cut (.drp [4,5,6,7,8,9,10,11,12,0,1,2,3,13,14] [qM 25 3,qM 26 3,qN 27 26,qB 28 .sub 27 (cI 1),qX 29 1 25 28,qL 30 29,qO 31 (.ld 7 true (.t 5)),qO 32 (.bsl 7 [.t 31]),qO 33 (.app 83 7 88 (.t 30) (.t 32)),qM 21 3,qM 22 3,qN 23 22,qB 24 .sub 23 (cI 1),qX 34 1 21 24,qS 1 34 33]))))) (.reg [qB 35 .add 9 (cI 1),qM 9 35]))))
def qfJ:IC:=(sR [qO 1 (.box 34 (.t 0)),qO 2 (.mov (.c (.nl 1)))] (sR [qO 3 (.nilr 32 1)] (.seq (sR [qF 6 3 1,qL 7 6,qN 8 7,qO 9 (.mov (cI 0))] (.block 0 (.loop qd1))) (sR [qM 36 3,qM 2 36] .ret))))
def qfu:List IRes:=[.t 2]
theorem qjA:chkF Tryz.prog Tryz.f80 qfJ qfu 37=true:=by kernel_rfl
abbrev tShs:Nat:=32
abbrev tRw:Nat:=41
def rvS (T:List (List Sht)):List (List PV):=T.map fun g=>[.sl 7 (shE g)]
theorem qls (T:List (List Sht)):(rvS T).length=T.length:=by simp [rvS]
theorem quj {T:List (List Sht)} {k:Nat} {g:List Sht} (h:T[k]?=some g):(rvS T).getD k []=[.sl 7 (shE g)]:=qaC h
theorem qpN (T:List (List Sht)):Zbb ((rvS T).map (·.map AV.p))=some (rvS T):=by
 rw [qmk,rvS,ye]
 congr 1
theorem qi9 (T:List (List Sht)):((rvS T).map (·.map AV.p)).length=T.length:=by simp [rvS]
theorem qsr (T:List (List Sht)) (x:List AV):((rvS T).map (·.map AV.p)++[x]).getD T.length []=x:=by
 rw [zD,yn (by rw [qi9];exact zM _),qi9,Nat.sub_self]
 rfl
theorem qsq (T:List (List Sht)) (x y:List AV):((rvS T).map (·.map AV.p)++[x]).set T.length y=(rvS T).map (·.map AV.p)++[y]:=by
 rw [List.set_append_right _ _ (by rw [qi9];exact zM _),qi9,Nat.sub_self]
 rfl
abbrev grpA (I:List (List Sht)):List (List AV):=(rvS I).map (·.map AV.p)++[[.row (.l 1000)]]
abbrev grpO (I:List (List Sht)) (cur:List Sht):Objs:=[(.l 3,.rowv (grpA I) tShs 1),(.l 1000,.row (shE cur) qcg 7 true)]
theorem qoW (I:List (List Sht)) (cur:List Sht):(grpA I).map (fun x=>x.map fun y=>AV.thaw (.l 1000) (.sl 7 (shE cur)) y)=(rvS (I++[cur])).map (·.map AV.p):=by
 rw [zT,qyu]
 simp [rvS,AV.thaw]
theorem qfk (d:Nat) (I:List (List Sht)) (hk:d≠1000):(grpA I).map (fun x=>x.map fun y=>AV.kill (.l d) y)=grpA I:=by
 rw [zT,qu1]
 simp [AV.kill,Ne.symm hk]
theorem qh2 (I:List (List Sht)):(grpA I).map (fun x=>x.map fun y=>AV.kill (.l 1000) y)=(rvS I).map (·.map AV.p)++[[oo]]:=by
 rw [zT,qu1]
 simp [AV.kill]
theorem qhw (I:List (List Sht)):(grpA I).length=I.length+1:=by rw [zC,qi9];rfl
theorem qjY (I:List (List Sht)):(grpA I).getD I.length []=[AV.row (.l 1000)]:=qsr I _
theorem qh5 (I:List (List Sht)):((rvS I).map (·.map AV.p)++[[AV.any]]).length=I.length+1:=by rw [zC,qi9];rfl
theorem qh6 (I:List (List Sht)):((rvS I).map (·.map AV.p)++[[AV.any]]).getD I.length []=[AV.any]:=qsr I _
theorem qh4 (I:List (List Sht)):((rvS I).map (·.map AV.p)++[[AV.any]]).set I.length [AV.row (.l 1000)]=grpA I:=qsq I _ _
theorem sub1 (n:Nat):(((n+1:Nat):Int) - 1)=(n:Nat):=by omega
theorem qqk (I:List (List Sht)) (cur:List Sht):(grpA I++[[AV.p (.nl 7)]]).map (fun x=>x.map fun y=>AV.thaw (.l 1000) (.sl 7 (shE cur)) y)=(rvS (I++[cur])).map (·.map AV.p)++[[AV.p (.nl 7)]]:=by
 rw [zT,qoW]
 rfl
theorem qyf (I:List (List Sht)) (cur:List Sht):((rvS (I++[cur])).map (·.map AV.p)++[[AV.p (.nl 7)]])[I.length+1]?=some [AV.p (.nl 7)]:=by
 rw [yn (by rw [qi9,zC];exact zM _),qi9,zC]
 simp
theorem qve (I:List (List Sht)) (cur:List Sht):(((rvS (I++[cur])).map (·.map AV.p)++[[AV.p (.nl 7)]]).map (fun x=>x.map fun y=>AV.kill (.l 1000) y)).set (I.length+1) [AV.row (.l 1000)]=grpA (I++[cur]):=by
 rw [zT,qu1]
 have:=qsq (I++[cur]) ([AV.p (.nl 7)].map fun y=>AV.kill (.l 1000) y) [AV.row (.l 1000)]
 rw [zC] at this
 exact this
theorem qmp {T:List (List Sht)} {x:Sht} (h:decide (x.id=x.top)=true):grpS T x=T++[[x]]:=by rw [grpS,if_pos h]
theorem qsM {I:List (List Sht)} {cur:List Sht} {x:Sht} (h:decide (x.id=x.top)=false):grpS (I++[cur]) x=I++[cur++[x]]:=by
 rw [grpS,if_neg (by rw [h];simp)]
 simp
section
variable {E:Envt}
set_option maxHeartbeats 4000000 in
theorem qrF (no:Int) (pre:List UInt8) (dig:Int) (l:List Sht) (hl:l.length≤1000000) (hG:qr1 l):FCall Tryz.prog E 72 [.agg [int no,.str pre,int dig,.sl 7 (shE l)]] tShs 1 (·=rvS (grpF l)):=by
 unfold FCall
 refine qjt mixed Tryz.func72 qks ?_
 simp only [a0,l0,OS.ao,zo,zw,zj,zr,zp,zq,zx,zd,zi,zm,qgO,qgv,ZZ,WW,Ze,reduceCtorEq,zd,ze,zb,zf,za]
 simp only [ZZ,WW,Ze,reduceCtorEq,zd,ze,zb,zf,za,qae]
 rw [show grpF l=grpK l l.length from rfl]
 obtain ⟨L1,q1,q2⟩:∃ L1,ReOk E (oo::oo::oo::.row (.l 3)::oo::oo::oo::.p (.sl 7 (shE l))::.p (int (l.length:Nat))::.p (int (0:Nat))::oE (oD (oB (oo::[])))) [(.l 3,.row [] tShs 1 true)] (oo::oo::oo::.row (.l 3)::oo::oo::oo::.p (.sl 7 (shE l))::.p (int (l.length:Nat))::.p (int (0:Nat))::oE (oD (oB (oo::[])))) L1∧((0 < l.length∧((grpK l 0=[]∧L1=[(.l 3,.rowv [] tShs 1)])∨∃ I cur,grpK l 0=I++[cur]∧L1=grpO I cur))∨(0=l.length∧L1=[(.l 3,.row (rvS (grpK l 0)) tShs 1 true)])):=by
  by_cases h0:0 < l.length
  ·exact ⟨_,qmU (k:=.l 3) rfl,.inl ⟨h0,.inl ⟨rfl,rfl⟩⟩⟩
  ·exact ⟨_,ReOk.refl,.inr ⟨by omega,rfl⟩⟩
 refine qoP (fun m fr L=>∃ k,k≤l.length∧m=l.length - k∧fr=(oo::oo::oo::.row (.l 3)::oo::oo::oo::.p (.sl 7 (shE l))::.p (int (l.length:Nat))::.p (int (k:Nat))::oE (oD (oB (oo::[]))))∧((k < l.length∧((grpK l k=[]∧L=[(.l 3,.rowv [] tShs 1)])∨∃ I cur,grpK l k=I++[cur]∧L=grpO I cur))∨(k=l.length∧L=[(.l 3,.row (rvS (grpK l k)) tShs 1 true)]))) l.length _ L1 (ReOk.trans (qbN (by (simp only [ZZ,WW,Ze,reduceCtorEq,zd,ze,zb,zf,za];try trivial)) zE_) q1) ⟨0,by omega,by omega,rfl,q2⟩ ?_
 clear q1 q2 L1
 rintro m fr L ⟨k,hk,rfl,rfl,hj⟩
 simp only [qeS,ZZ,WW,Ze,reduceCtorEq,zd,ze,zb,zf,za]
 refine br ?_ ?_
 rotate_left
 ·intro h
  have hge:k=l.length:=by have:=of_decide_eq_false h;omega
  rcases hj with ⟨e,_⟩|⟨_,rfl⟩
  ·omega
  subst hge
  refine zS ?_
  exact ql7 3 _ rfl rfl rfl
 intro h
 have hlt:k < l.length:=by have:=of_decide_eq_true h;omega
 rcases hj with ⟨_,hj⟩|⟨e,_⟩
 rotate_left
 ·omega
 obtain ⟨x,hx⟩:∃ x,l[k]?=some x:=⟨_,zh hlt⟩
 have hg:=qbY hx
 simp only [shV] at hg
 have hxD:l.getD k sh0=x:=by simp [zD,hx]
 have hst:grpK l (k+1)=grpS (grpK l k) x:=by rw [grpK,hxD]
 have hpl:=qjX l k
 have hne:¬ decide (x.id=x.top)=true→grpK l k≠[]:=by
  intro hc
  cases k with
  |zero=>exact absurd (by rw [decide_eq_true_eq,← hxD];exact hG (by omega)) hc
  |succ j=>exact qrx hG j (by omega)
 have hcb:∀ g∈grpK l k,g.length≤k:=fun g hm=>by
  have:=qjV _ g hm
  rw [qh3 hG k (by omega),zN] at this
  omega
 generalize hP:grpK l k=T at *
 have hend:∀ (I:List (List Sht)) (cur:List Sht),grpS T x=I++[cur]→∀ fr L,ReOk E fr L (oo::oo::oo::.row (.l 3)::oo::oo::oo::.p (.sl 7 (shE l))::.p (int (l.length:Nat))::.p (int (k+1:Nat))::oE (oD (oB (oo::[])))) (grpO I cur)→EndR E (fun m fr L=>∃ k,k≤l.length∧m=l.length - k∧fr=(oo::oo::oo::.row (.l 3)::oo::oo::oo::.p (.sl 7 (shE l))::.p (int (l.length:Nat))::.p (int (k:Nat))::oE (oD (oB (oo::[]))))∧((k < l.length∧((grpK l k=[]∧L=[(.l 3,.rowv [] tShs 1)])∨∃ I cur,grpK l k=I++[cur]∧L=grpO I cur))∨(k=l.length∧L=[(.l 3,.row (rvS (grpK l k)) tShs 1 true)]))) (l.length - k) fr L:=by
  intro I cur he fr L hr
  by_cases hkl:k+1 < l.length
  ·exact qkh (l.length - (k+1)) _ (grpO I cur) (by omega) hr ⟨k+1,by omega,rfl,rfl,.inl ⟨hkl,.inr ⟨I,cur,by rw [hst,he],rfl⟩⟩⟩
  ·refine qkh (l.length - (k+1)) _ _ (by omega) (ReOk.trans hr ?_) ⟨k+1,by omega,rfl,rfl,.inr ⟨by omega,by rw [hst,he]⟩⟩
   refine ReOk.trans (qbA (k:=.l 1000) rfl) ?_
   simp only [ZZ,WW,Ze,reduceCtorEq,zd,ze,zb,zf,za,qoW]
   refine ReOk.trans (qhh (k:=.l 3) rfl (qpN _)) ?_
   refine zS ?_
   exact qbN (by (simp only [ZZ,WW,Ze,reduceCtorEq,zd,ze,zb,zf,za];try trivial)) zE_
 rcases hj with ⟨rfl,rfl⟩|⟨I,cur,rfl,rfl⟩
 ·have hb:decide (x.id=x.top)=true:=Classical.byContradiction fun hc=>hne hc rfl
  obtain ⟨I,hI⟩:∃ I:List (List Sht),I=[]:=⟨[],rfl⟩
  obtain ⟨cur,hcu⟩:∃ cur:List Sht,cur=[]:=⟨[],rfl⟩
  have hIl:I.length≤k:=by rw [hI];simp
  have hcl:cur.length≤k:=by rw [hcu];simp
  simp only [ZZ,WW,Ze,reduceCtorEq,zd,ze,zb,zf,za,hg,qae,hb]
  ((with_reducible and_intros)<;>try exact sc_)
  refine qbh (oo::oo::oo::.row (.l 3)::oo::.adr (.l 5) 0::oo::.p (.sl 7 (shE l))::.p (int (l.length:Nat))::.p (int (k:Nat))::oE (oD (oB (oo::[])))) [(.l 3,.rowv (grpA I) tShs 1),(.l 1000,.row (shE cur) qcg 7 true),(.l 5,.box [.p (.str x.id),.p (.str x.top),.p (int x.kind),.p (int x.fr_),.p (int x.to_),.p (.sl 1 (tbE x.pages)),.p (int x.ver)] qcg)] ?_ ?_
  ·refine ReOk.trans (qjU (k:=.l 3) 0 1000 qcg 7 7 (by simp) rfl rfl) ?_
   refine zS ?_
   subst hI hcu
   exact qbN (by (simp only [ZZ,WW,Ze,reduceCtorEq,zd,ze,zb,zf,za];try trivial)) (by simp only [ZZ,WW,Ze,reduceCtorEq,zd,ze,zb,zf,za];exact ⟨rfl,rfl⟩)
  refine drg0 ?_
  simp only [ZZ,WW,Ze,reduceCtorEq,zd,ze,zb,zf,za,qhw,sub1,yf,qjY,qh2,qh5,qh6,qh4,qae]
  ((with_reducible and_intros)<;>try exact sc_)
  exact hend I (cur++[x]) (by rw [qmp hb,hI,hcu];rfl) _ _ (qbN (by (simp only [ZZ,WW,Ze,reduceCtorEq,zd,ze,zb,zf,za];try trivial)) (by simp only [ZZ,WW,Ze,reduceCtorEq,zd,ze,zb,zf,za];rw [← qkk];rfl))
 ·have hIl:I.length≤k:=by rw [zC] at hpl;simp at hpl;omega
  have hcl:cur.length≤k:=hcb cur (by simp)
  simp only [ZZ,WW,Ze,reduceCtorEq,zd,ze,zb,zf,za,hg,qae,qfk 5 I (by decide),qfk 3 I (by decide)]
  ((with_reducible and_intros)<;>try exact sc_)
  refine br ?_ ?_
  ·intro hb
   simp only [ZZ,WW,Ze,reduceCtorEq,zd,ze,zb,zf,za,qhw,qfk 19 I (by decide),qfk 3 I (by decide)]
   ((with_reducible and_intros)<;>try exact sc_)
   refine qbh (oo::oo::oo::.row (.l 3)::oo::.adr (.l 5) 0::oo::.p (.sl 7 (shE l))::.p (int (l.length:Nat))::.p (int (k:Nat))::oE (oD (oB (oo::[])))) [(.l 3,.rowv (grpA (I++[cur])) tShs 1),(.l 1000,.row (shE []) qcg 7 true),(.l 5,.box [.p (.str x.id),.p (.str x.top),.p (int x.kind),.p (int x.fr_),.p (int x.to_),.p (.sl 1 (tbE x.pages)),.p (int x.ver)] qcg)] ?_ ?_
   ·refine ReOk.trans (qbA (k:=.l 1000) rfl) ?_
    simp only [ZZ,WW,Ze,reduceCtorEq,zd,ze,zb,zf,za,qfk 3 I (by decide),qqk]
    refine ReOk.trans (qjU (k:=.l 3) (I.length+1) 1000 qcg 7 7 (by simp) rfl (qyf I cur)) ?_
    simp only [ZZ,WW,Ze,reduceCtorEq,zd,ze,zb,zf,za,qve]
    exact qbN (by (simp only [ZZ,WW,Ze,reduceCtorEq,zd,ze,zb,zf,za];try trivial)) (by simp only [ZZ,WW,Ze,reduceCtorEq,zd,ze,zb,zf,za];rfl)
   have hIl2:(I++[cur]).length≤k+1:=by rw [zC];simp;omega
   generalize hI2:I++[cur]=I2 at *
   obtain ⟨cu2,hcu⟩:∃ cur:List Sht,cur=[]:=⟨[],rfl⟩
   rw [← hcu]
   have hcl2:cu2.length=0:=by rw [hcu];rfl
   refine drg0 ?_
   simp only [ZZ,WW,Ze,reduceCtorEq,zd,ze,zb,zf,za,qhw,sub1,yf,qjY,qh2,qh5,qh6,qh4,qae]
   ((with_reducible and_intros)<;>try exact sc_)
   exact hend I2 (cu2++[x]) (by rw [qmp hb,hcu];rfl) _ _ (qbN (by (simp only [ZZ,WW,Ze,reduceCtorEq,zd,ze,zb,zf,za];try trivial)) (by simp only [ZZ,WW,Ze,reduceCtorEq,zd,ze,zb,zf,za];rw [← qkk];rfl))
  ·intro hb
   refine zS ?_
   refine qbh _ _ ReOk.refl ?_
   refine drg0 ?_
   simp only [ZZ,WW,Ze,reduceCtorEq,zd,ze,zb,zf,za,qhw,sub1,yf,qjY,qh2,qh5,qh6,qh4,qae]
   ((with_reducible and_intros)<;>try exact sc_)
   exact hend I (cur++[x]) (by rw [qsM hb]) _ _ (qbN (by (simp only [ZZ,WW,Ze,reduceCtorEq,zd,ze,zb,zf,za];try trivial)) (by simp only [ZZ,WW,Ze,reduceCtorEq,zd,ze,zb,zf,za];rw [← qkk];rfl))
set_option maxHeartbeats 4000000 in
theorem qry (no:Int) (pre:List UInt8) (dig:Int) (l:List Sht) (hl:l.length≤1000000) (hG:qr1 l):FCall Tryz.prog E 80 [.agg [int no,.str pre,int dig,.sl 7 (shE l)]] tShs 1 (·=rvS (grpF l)):=by
 unfold FCall
 refine qjt mixed Tryz.func80 qjA ?_
 simp only [a0,l0,OS.ao,zo,zw,zj,zr,zp,zq,zx,zd,zi,zm,qfJ,qfu,ZZ,WW,Ze,reduceCtorEq,zd,ze,zb,zf,za]
 simp only [ZZ,WW,Ze,reduceCtorEq,zd,ze,zb,zf,za,qae]
 rw [show grpF l=grpK l l.length from rfl]
 obtain ⟨L1,q1,q2⟩:∃ L1,ReOk E (oo::oo::oo::.row (.l 3)::oo::oo::oo::.p (.sl 7 (shE l))::.p (int (l.length:Nat))::.p (int (0:Nat))::oE (oD (oB (oo::[])))) [(.l 3,.row [] tShs 1 true)] (oo::oo::oo::.row (.l 3)::oo::oo::oo::.p (.sl 7 (shE l))::.p (int (l.length:Nat))::.p (int (0:Nat))::oE (oD (oB (oo::[])))) L1∧((0 < l.length∧((grpK l 0=[]∧L1=[(.l 3,.rowv [] tShs 1)])∨∃ I cur,grpK l 0=I++[cur]∧L1=grpO I cur))∨(0=l.length∧L1=[(.l 3,.row (rvS (grpK l 0)) tShs 1 true)])):=by
  by_cases h0:0 < l.length
  ·exact ⟨_,qmU (k:=.l 3) rfl,.inl ⟨h0,.inl ⟨rfl,rfl⟩⟩⟩
  ·exact ⟨_,ReOk.refl,.inr ⟨by omega,rfl⟩⟩
 refine qoP (fun m fr L=>∃ k,k≤l.length∧m=l.length - k∧fr=(oo::oo::oo::.row (.l 3)::oo::oo::oo::.p (.sl 7 (shE l))::.p (int (l.length:Nat))::.p (int (k:Nat))::oE (oD (oB (oo::[]))))∧((k < l.length∧((grpK l k=[]∧L=[(.l 3,.rowv [] tShs 1)])∨∃ I cur,grpK l k=I++[cur]∧L=grpO I cur))∨(k=l.length∧L=[(.l 3,.row (rvS (grpK l k)) tShs 1 true)]))) l.length _ L1 (ReOk.trans (qbN (by (simp only [ZZ,WW,Ze,reduceCtorEq,zd,ze,zb,zf,za];try trivial)) zE_) q1) ⟨0,by omega,by omega,rfl,q2⟩ ?_
 clear q1 q2 L1
 rintro m fr L ⟨k,hk,rfl,rfl,hj⟩
 simp only [qd1,ZZ,WW,Ze,reduceCtorEq,zd,ze,zb,zf,za]
 refine br ?_ ?_
 rotate_left
 ·intro h
  have hge:k=l.length:=by have:=of_decide_eq_false h;omega
  rcases hj with ⟨e,_⟩|⟨_,rfl⟩
  ·omega
  subst hge
  refine zS ?_
  exact ql7 3 _ rfl rfl rfl
 intro h
 have hlt:k < l.length:=by have:=of_decide_eq_true h;omega
 rcases hj with ⟨_,hj⟩|⟨e,_⟩
 rotate_left
 ·omega
 obtain ⟨x,hx⟩:∃ x,l[k]?=some x:=⟨_,zh hlt⟩
 have hg:=qbY hx
 simp only [shV] at hg
 have hxD:l.getD k sh0=x:=by simp [zD,hx]
 have hst:grpK l (k+1)=grpS (grpK l k) x:=by rw [grpK,hxD]
 have hpl:=qjX l k
 have hne:¬ decide (x.id=x.top)=true→grpK l k≠[]:=by
  intro hc
  cases k with
  |zero=>exact absurd (by rw [decide_eq_true_eq,← hxD];exact hG (by omega)) hc
  |succ j=>exact qrx hG j (by omega)
 have hcb:∀ g∈grpK l k,g.length≤k:=fun g hm=>by
  have:=qjV _ g hm
  rw [qh3 hG k (by omega),zN] at this
  omega
 generalize hP:grpK l k=T at *
 have hend:∀ (I:List (List Sht)) (cur:List Sht),grpS T x=I++[cur]→∀ fr L,ReOk E fr L (oo::oo::oo::.row (.l 3)::oo::oo::oo::.p (.sl 7 (shE l))::.p (int (l.length:Nat))::.p (int (k+1:Nat))::oE (oD (oB (oo::[])))) (grpO I cur)→EndR E (fun m fr L=>∃ k,k≤l.length∧m=l.length - k∧fr=(oo::oo::oo::.row (.l 3)::oo::oo::oo::.p (.sl 7 (shE l))::.p (int (l.length:Nat))::.p (int (k:Nat))::oE (oD (oB (oo::[]))))∧((k < l.length∧((grpK l k=[]∧L=[(.l 3,.rowv [] tShs 1)])∨∃ I cur,grpK l k=I++[cur]∧L=grpO I cur))∨(k=l.length∧L=[(.l 3,.row (rvS (grpK l k)) tShs 1 true)]))) (l.length - k) fr L:=by
  intro I cur he fr L hr
  by_cases hkl:k+1 < l.length
  ·exact qkh (l.length - (k+1)) _ (grpO I cur) (by omega) hr ⟨k+1,by omega,rfl,rfl,.inl ⟨hkl,.inr ⟨I,cur,by rw [hst,he],rfl⟩⟩⟩
  ·refine qkh (l.length - (k+1)) _ _ (by omega) (ReOk.trans hr ?_) ⟨k+1,by omega,rfl,rfl,.inr ⟨by omega,by rw [hst,he]⟩⟩
   refine ReOk.trans (qbA (k:=.l 1000) rfl) ?_
   simp only [ZZ,WW,Ze,reduceCtorEq,zd,ze,zb,zf,za,qoW]
   refine ReOk.trans (qhh (k:=.l 3) rfl (qpN _)) ?_
   refine zS ?_
   exact qbN (by (simp only [ZZ,WW,Ze,reduceCtorEq,zd,ze,zb,zf,za];try trivial)) zE_
 rcases hj with ⟨rfl,rfl⟩|⟨I,cur,rfl,rfl⟩
 ·have hb:decide (x.id=x.top)=true:=Classical.byContradiction fun hc=>hne hc rfl
  obtain ⟨I,hI⟩:∃ I:List (List Sht),I=[]:=⟨[],rfl⟩
  obtain ⟨cur,hcu⟩:∃ cur:List Sht,cur=[]:=⟨[],rfl⟩
  have hIl:I.length≤k:=by rw [hI];simp
  have hcl:cur.length≤k:=by rw [hcu];simp
  simp only [ZZ,WW,Ze,reduceCtorEq,zd,ze,zb,zf,za,hg,qae,hb]
  ((with_reducible and_intros)<;>try exact sc_)
  refine qbh (oo::oo::oo::.row (.l 3)::oo::.adr (.l 5) 0::oo::.p (.sl 7 (shE l))::.p (int (l.length:Nat))::.p (int (k:Nat))::oE (oD (oB (oo::[])))) [(.l 3,.rowv (grpA I) tShs 1),(.l 1000,.row (shE cur) qcg 7 true),(.l 5,.box [.p (.str x.id),.p (.str x.top),.p (int x.kind),.p (int x.fr_),.p (int x.to_),.p (.sl 1 (tbE x.pages)),.p (int x.ver)] qcg)] ?_ ?_
  ·refine ReOk.trans (qjU (k:=.l 3) 0 1000 qcg 7 7 (by simp) rfl rfl) ?_
   refine zS ?_
   subst hI hcu
   exact qbN (by (simp only [ZZ,WW,Ze,reduceCtorEq,zd,ze,zb,zf,za];try trivial)) (by simp only [ZZ,WW,Ze,reduceCtorEq,zd,ze,zb,zf,za];exact ⟨rfl,rfl⟩)
  refine drg0 ?_
  simp only [ZZ,WW,Ze,reduceCtorEq,zd,ze,zb,zf,za,qhw,sub1,yf,qjY,qh2,qh5,qh6,qh4,qae]
  ((with_reducible and_intros)<;>try exact sc_)
  exact hend I (cur++[x]) (by rw [qmp hb,hI,hcu];rfl) _ _ (qbN (by (simp only [ZZ,WW,Ze,reduceCtorEq,zd,ze,zb,zf,za];try trivial)) (by simp only [ZZ,WW,Ze,reduceCtorEq,zd,ze,zb,zf,za];rw [← qkk];rfl))
 ·have hIl:I.length≤k:=by rw [zC] at hpl;simp at hpl;omega
  have hcl:cur.length≤k:=hcb cur (by simp)
  simp only [ZZ,WW,Ze,reduceCtorEq,zd,ze,zb,zf,za,hg,qae,qfk 5 I (by decide),qfk 3 I (by decide)]
  ((with_reducible and_intros)<;>try exact sc_)
  refine br ?_ ?_
  ·intro hb
   simp only [ZZ,WW,Ze,reduceCtorEq,zd,ze,zb,zf,za,qhw,qfk 19 I (by decide),qfk 3 I (by decide)]
   ((with_reducible and_intros)<;>try exact sc_)
   refine qbh (oo::oo::oo::.row (.l 3)::oo::.adr (.l 5) 0::oo::.p (.sl 7 (shE l))::.p (int (l.length:Nat))::.p (int (k:Nat))::oE (oD (oB (oo::[])))) [(.l 3,.rowv (grpA (I++[cur])) tShs 1),(.l 1000,.row (shE []) qcg 7 true),(.l 5,.box [.p (.str x.id),.p (.str x.top),.p (int x.kind),.p (int x.fr_),.p (int x.to_),.p (.sl 1 (tbE x.pages)),.p (int x.ver)] qcg)] ?_ ?_
   ·refine ReOk.trans (qbA (k:=.l 1000) rfl) ?_
    simp only [ZZ,WW,Ze,reduceCtorEq,zd,ze,zb,zf,za,qfk 3 I (by decide),qqk]
    refine ReOk.trans (qjU (k:=.l 3) (I.length+1) 1000 qcg 7 7 (by simp) rfl (qyf I cur)) ?_
    simp only [ZZ,WW,Ze,reduceCtorEq,zd,ze,zb,zf,za,qve]
    exact qbN (by (simp only [ZZ,WW,Ze,reduceCtorEq,zd,ze,zb,zf,za];try trivial)) (by simp only [ZZ,WW,Ze,reduceCtorEq,zd,ze,zb,zf,za];rfl)
   have hIl2:(I++[cur]).length≤k+1:=by rw [zC];simp;omega
   generalize hI2:I++[cur]=I2 at *
   obtain ⟨cu2,hcu⟩:∃ cur:List Sht,cur=[]:=⟨[],rfl⟩
   rw [← hcu]
   have hcl2:cu2.length=0:=by rw [hcu];rfl
   refine drg0 ?_
   simp only [ZZ,WW,Ze,reduceCtorEq,zd,ze,zb,zf,za,qhw,sub1,yf,qjY,qh2,qh5,qh6,qh4,qae]
   ((with_reducible and_intros)<;>try exact sc_)
   exact hend I2 (cu2++[x]) (by rw [qmp hb,hcu];rfl) _ _ (qbN (by (simp only [ZZ,WW,Ze,reduceCtorEq,zd,ze,zb,zf,za];try trivial)) (by simp only [ZZ,WW,Ze,reduceCtorEq,zd,ze,zb,zf,za];rw [← qkk];rfl))
  ·intro hb
   refine zS ?_
   refine qbh _ _ ReOk.refl ?_
   refine drg0 ?_
   simp only [ZZ,WW,Ze,reduceCtorEq,zd,ze,zb,zf,za,qhw,sub1,yf,qjY,qh2,qh5,qh6,qh4,qae]
   ((with_reducible and_intros)<;>try exact sc_)
   exact hend I (cur++[x]) (by rw [qsM hb]) _ _ (qbN (by (simp only [ZZ,WW,Ze,reduceCtorEq,zd,ze,zb,zf,za];try trivial)) (by simp only [ZZ,WW,Ze,reduceCtorEq,zd,ze,zb,zf,za];rw [← qkk];rfl))
end
def padD:Nat→Nat→List UInt8
 |0,_=>[]
 |d+1,u=>padD d (u / 10)++[UInt8.ofNat (48+u % 10)]
theorem qp2:∀ d,padD d 0=Lib.repeatL [48] d
 |0=>rfl
 |d+1=>by
  have h:∀ k,Lib.repeatL [48] k++[48]=Lib.repeatL [48] (k+1):=by
   intro k
   induction k with
   |zero=>rfl
   |succ k ih=>rw [Lib.repeatL,yt,ih];rfl
  have:padD (d+1) 0=padD d 0++[48]:=rfl
  rw [this,qp2 d,h]
theorem qmu {u:Nat} (h:10≤u):Lib.decDigits u=Lib.decDigits (u / 10)++[UInt8.ofNat (48+u % 10)]:=by
 rw [Lib.decDigits,dif_neg (by omega)]
theorem qnb {u:Nat} (h:u < 10):Lib.decDigits u=[UInt8.ofNat (48+u)]:=by
 rw [Lib.decDigits,dif_pos h]
theorem quJ:∀ (d u:Nat),u < 10 ^ (d+1)→Lib.decDigits (10 ^ (d+1)+u)=49 :: padD (d+1) u∧(Lib.decDigits u).length≤d+1∧Lib.repeatL [48] (d+1 - (Lib.decDigits u).length)++Lib.decDigits u=padD (d+1) u
 |0,u,h=>by
  have hu:u < 10:=by simpa using h
  refine ⟨?_,?_,?_⟩
  ·rw [qmu (by omega),show (10 ^ (0+1)+u) / 10=1 from by omega,qnb (by decide),show (10 ^ (0+1)+u) % 10=u from by omega]
   simp [padD,Nat.mod_eq_of_lt hu]
  ·rw [qnb hu];simp
  ·rw [qnb hu];simp [Lib.repeatL,padD,Nat.mod_eq_of_lt hu]
 |d+1,u,h=>by
  have hp:10 ^ (d+1+1)=10 * 10 ^ (d+1):=by rw [Nat.pow_succ];omega
  have h10:1≤10 ^ (d+1):=Nat.one_le_pow _ _ (by decide)
  obtain ⟨i1,i2,i3⟩:=quJ d (u / 10) (by omega)
  refine ⟨?_,?_,?_⟩
  ·rw [qmu (by omega),show (10 ^ (d+1+1)+u) / 10=10 ^ (d+1)+u / 10 from by omega,show (10 ^ (d+1+1)+u) % 10=u % 10 from by omega,i1]
   rfl
  ·by_cases hu:u < 10
   ·rw [qnb hu];simp
   ·rw [qmu (by omega),zC];simp;omega
  ·by_cases hu:u < 10
   ·rw [qnb hu]
    have:u / 10=0:=by omega
    simp [padD,this,Nat.mod_eq_of_lt hu,← qp2]
   ·rw [qmu (by omega),zC,List.length_singleton,← yt,show d+1+1 - ((Lib.decDigits (u / 10)).length+1)=d+1 - (Lib.decDigits (u / 10)).length from by omega,i3]
    rfl
theorem qx1 {p:List UInt8} {d n:Int} (hd:qd8 p d=0) (h1:1≤n) (h2:n < powF d):nofG Lib.itoa p d n=(qmB Lib.itoa p d n,0):=by
 obtain ⟨g1,g2,_⟩:=qh1 hd
 have hb:=qjk g2
 have hnf:nfF p d=0:=by rw [qro];exact hd
 have hc:(decide (n < 1) || decide (powF d≤n))=false:=by rw [Bool.or_eq_false_iff,decide_eq_false_iff_not,decide_eq_false_iff_not];omega
 unfold nofG
 rw [if_pos hnf,hc,if_neg (by simp)]
 obtain ⟨e,he⟩:∃ e,d.toNat=e+1:=⟨d.toNat - 1,by omega⟩
 obtain ⟨u,rfl⟩:=Int.eq_ofNat_of_zero_le (show 0≤n by omega)
 have hpw:powF d=((10 ^ (e+1):Nat):Int):=by unfold powF;rw [he];simp
 rw [hpw] at h2 ⊢
 obtain ⟨i1,i2,i3⟩:=quJ e u (by omega)
 have e1:Lib.itoa ((u:Nat):Int)=Lib.decDigits u:=by unfold Lib.itoa;rw [if_neg (by omega),yf]
 have e2:Lib.itoa (((10 ^ (e+1):Nat):Int)+(u:Nat))=Lib.decDigits (10 ^ (e+1)+u):=by
  rw [← Int.natCast_add]
  unfold Lib.itoa
  rw [if_neg (by omega),yf]
 have e3:(max 0 (d - ((Lib.decDigits u).length:Int))).toNat=e+1 - (Lib.decDigits u).length:=by omega
 unfold qmB
 rw [e2,i1,e1,e3,yt,i3]
 rfl
def E8:Envt where
 ok w:=E0.ok w∧E2.ok w
 bl b:=E0.bl b∨E2.bl b
 mono w w' hb h:=⟨E0.mono w w' (fun b hbb=>hb b (.inl hbb)) h.1,E2.mono w w' (fun b hbb=>hb b (.inr hbb)) h.2⟩
theorem up80 {f:FuncId} {args:List PV} {φ:PV→Prop} (h:PCall Tryz.prog E0 f args φ):PCall Tryz.prog E8 f args φ:=fun w U vs hU hE hEb hA=>h w U vs hU hE.1 (fun c hc=>hEb c (.inl hc)) hA
theorem up82 {f:FuncId} {args:List PV} {φ:PV→Prop} (h:PCall Tryz.prog E2 f args φ):PCall Tryz.prog E8 f args φ:=fun w U vs hU hE hEb hA=>h w U vs hU hE.2 (fun c hc=>hEb c (.inr hc)) hA
theorem up8T {f:FuncId} {t:TypeId} {cs args:List PV} {e z:Nat} {ψ:List (List PV)→List PV→List PV→Prop} (h:STup Tryz.prog E0 f t cs args e z ψ):STup Tryz.prog E8 f t cs args e z ψ:=fun w U vs v0 hU hE hEb hA hO=>h w U vs v0 hU hE.1 (fun c hc=>hEb c (.inl hc)) hA hO
end Go.Proofs.YtmpdnpljdcincaaGreatDoor
