import Derived.Test.YtehfjlpenlffmaaGreatDoorZ19
import Derived.Test.YtehfjlpenlffmaaGreatDoorZ16
import Derived.Test.YtehfjlpenlffmaaGreatDoorZ4
import Derived.Test.YtehfjlpenlffmaaGreatDoorLayBitsLen
import Derived.Test.YtehfjlpenlffmaaGreatDoorZ15
import Derived.Test.YtehfjlpenlffmaaGreatDoorZ17
import Derived.Test.YtehfjlpenlffmaaGreatDoorZ18
set_option linter.unusedVariables false
set_option linter.unusedSimpArgs false
set_option linter.defProp false
namespace Go.Proofs.YtehfjlpenlffmaaGreatDoor
open Nat renaming reduceSub→zp,reduceAdd→zd,reduceMul→ze,reduceLeDiff→zb,reduceLT→zf,reduceEqDiff→za
open List renaming getD→zt,map_cons→zj,map_nil→zo,length_cons→zi,length_nil→zn,cons_append→zl,nil_append→zm,replicate_succ→zh,replicate_zero→zk
open Go.RowKit
def qgk:IC:=(.seq (.reg [qO 1 (.box 36 (.t 0)),qO 2 (.alc 103 [.int .i64 0,.int .i64 0])]) (.seq (.drg [qO 3 (.fla 3 (.t 1)),qO 4 (.ld 1 false (.t 3)),qO 5 (.ixa 7 (.t 4) (.c (.int .i64 0))),qO 6 (.fla 3 (.t 5)),qO 7 (.ld 1 false (.t 6)),qO 8 (.fla 3 (.t 1)),qO 9 (.ld 1 false (.t 8)),qO 10 (.fla 3 (.t 1)),qO 11 (.ld 1 false (.t 10)),qO 12 (.len (.t 11)),qO 13 (.bin .sub (.t 12) (.c (.int .i64 1))),qO 14 (.ixa 7 (.t 9) (.t 13)),qO 15 (.fla 4 (.t 14)),qO 16 (.ld 1 false (.t 15)),qO 17 (.bin .add (.t 16) (.c (.int .i64 1))),qO 18 (.bld [.int .i64 0,.int .i64 0] [(0,1,.t 7),(1,1,.t 17)]),⟨none,.st 2 (.t 2) (.t 18),none⟩]) .ret))
def qgb:List IRes:=[.c 2 2 true]
theorem qjj:chkF Tryz.prog Tryz.f67 qgk qgb 19=true:=by kernel_rfl
def qek:IC:=(.seq (.reg [qO 66 (.bin .lss (.t 65) (.t 64))]) (.seq (.cond (.t 66) .skip (.exit 4)) (.seq (.block 5 (.seq (.reg [qO 67 (.ixa 7 (.t 63) (.t 65)),qO 68 (.ld 7 true (.t 67)),qO 12 (.alc 85 [.str [],.str [],.int .i64 0,.int .i64 0,.int .i64 0,.nl 1,.int .i64 0]),⟨none,.st 7 (.t 12) (.t 68),none⟩]) (.reg [qM 69 3,qO 70 (.fla 0 (.t 12)),qO 71 (.ld 1 false (.t 70)),⟨none,.mpu (.t 69) (.t 71) (.c (.bool true)),none⟩]))) (.reg [qO 72 (.bin .add (.t 65) (.c (.int .i64 1))),qM 65 72]))))
def qel:IC:=(.seq (.reg [qO 41 (.bin .lss (.t 40) (.t 39))]) (.seq (.cond (.t 41) .skip (.exit 2)) (.seq (.block 3 (.seq (.reg [qO 42 (.ixa 7 (.t 38) (.t 40)),qO 43 (.ld 7 true (.t 42)),qO 8 (.alc 85 [.str [],.str [],.int .i64 0,.int .i64 0,.int .i64 0,.nl 1,.int .i64 0]),⟨none,.st 7 (.t 8) (.t 43),none⟩,⟨none,.re,none⟩]) (.seq (.reg [qM 44 0,qM 45 4,qO 46 (.vsl 4 (.t 44) none (some (.t 45))),qO 47 (.mkf 66 [.t 5,.t 8]),qO 48 (.call 65 [.t 46,.t 47]),qM 9 48]) (.seq (.reg [qM 49 3,qO 50 (.fla 0 (.t 8)),qO 51 (.ld 1 false (.t 50)),qO 52 (.mpl false (.bool false) (.t 49) (.t 51)),qO 53 (.call 50 [.t 52,.c (.int .i64 6)]),qM 54 9,qO 55 (.call 50 [.t 54,.c (.int .i64 13)]),qO 56 (.bsl 1 [.t 53,.t 55]),qO 57 (.call 49 [.t 56]),qM 10 57]) (.seq (.reg [qM 58 10,qO 59 (.bin .neq (.t 58) (.c (.int .i64 0)))]) (.cond (.t 59) (.seq (.reg [qM 60 10,qM 2 60]) .ret) .skip)))))) (.reg [qO 61 (.bin .add (.t 40) (.c (.int .i64 1))),qM 40 61]))))
def qem:IC:=(.seq (.reg [qO 20 (.bin .lss (.t 19) (.t 18))]) (.seq (.cond (.t 20) .skip (.exit 0)) (.seq (.block 1 (.seq (.reg [qM 21 19,qO 22 (.ixa 4 (.t 17) (.t 19)),qO 23 (.ld 4 true (.t 22)),qO 5 (.alc 36 [.int .i64 0,.str [],.int .i64 0,.nl 7]),qM 4 21,⟨none,.st 4 (.t 5) (.t 23),none⟩,⟨none,.re,none⟩]) (.seq (.seq (.drg [qO 24 (.ld 4 true (.t 5)),qO 25 (.pcall 0 12 [.t 24]),qO 26 (.fla 0 (.t 5)),qO 27 (.ld 1 false (.t 26)),qM 28 4,qO 29 (.bin .add (.t 28) (.c (.int .i64 1))),qO 30 (.bin .neq (.t 27) (.t 29)),qO 31 (.pcall 1 50 [.t 30,.c (.int .i64 7)]),qO 32 (.bsl 1 [.t 25,.t 31]),qO 33 (.pcall 2 49 [.t 32]),qM 6 33]) (.seq (.reg [qM 34 6,qO 35 (.bin .neq (.t 34) (.c (.int .i64 0)))]) (.cond (.t 35) (.seq (.reg [qM 36 6,qM 2 36]) .ret) .skip))) (.seq (.seq (.reg [qO 37 (.fla 3 (.t 5)),qO 38 (.ld 1 false (.t 37)),qO 39 (.len (.t 38)),qO 40 (.mov (.c (.int .i64 0)))]) (.block 2 (.loop qel))) (.seq (.reg [qO 62 (.fla 3 (.t 5)),qO 63 (.ld 1 false (.t 62)),qO 64 (.len (.t 63)),qO 65 (.mov (.c (.int .i64 0)))]) (.block 4 (.loop qek))))))) (.reg [qO 73 (.bin .add (.t 19) (.c (.int .i64 1))),qM 19 73]))))
def qfX:IC:=(.seq (.reg [qO 2 (.mov (.c (.int .i64 0)))]) (.seq (.seq (.reg [qM 13 0,qO 14 (.len (.t 13)),qO 15 (.bin .gtr (.t 14) (.c (.int .i64 200)))]) (.cond (.t 15) (.seq (.reg [qO 2 (.mov (.c (.int .i64 2)))]) .ret) .skip)) (.seq (.reg [qO 16 (.mkm 9 4),qM 3 16]) (.seq (.seq (.reg [qM 17 0,qO 18 (.len (.t 17)),qO 19 (.mov (.c (.int .i64 0)))]) (.block 0 (.loop qem))) (.seq (.reg [qO 2 (.mov (.c (.int .i64 0)))]) .ret)))))
def qfJ:List IRes:=[.t 2]
theorem qiK:chkF Tryz.prog Tryz.f15 qfX qfJ 74=true:=by kernel_rfl
def qeW:IC:=(.seq (.reg [qO 3 (.box 36 (.t 0)),qO 4 (.mov (.c (.bool false)))]) (.seq (.reg [qO 6 (.ld 4 true (.t 3)),qO 7 (.call 67 [.t 6]),qO 5 (.alc 103 [.int .i64 0,.int .i64 0]),⟨none,.st 2 (.t 5) (.t 7),none⟩]) (.seq (.reg [qO 8 (.fla 1 (.t 3)),qO 9 (.ld 1 false (.t 8)),qO 10 (.fla 1 (.t 1)),qO 11 (.ld 1 false (.t 10)),qO 12 (.bin .eql (.t 9) (.t 11)),qM 13 12,⟨some 14,.fla 3 (.t 2),(some (13,true))⟩,⟨some 15,.ld 1 false (.t 14),(some (13,true))⟩,⟨some 16,.fla 1 (.t 5),(some (13,true))⟩,⟨some 17,.ld 1 false (.t 16),(some (13,true))⟩,⟨some 18,.bin .lss (.t 15) (.t 17),(some (13,true))⟩,qO 19 (.pick (.t 13) (.t 18) (.c (.bool false))),qM 20 19,⟨some 21,.fla 4 (.t 2),(some (20,true))⟩,⟨some 22,.ld 1 false (.t 21),(some (20,true))⟩,⟨some 23,.fla 0 (.t 5),(some (20,true))⟩,⟨some 24,.ld 1 false (.t 23),(some (20,true))⟩,⟨some 25,.bin .geq (.t 22) (.t 24),(some (20,true))⟩,qO 26 (.pick (.t 20) (.t 25) (.c (.bool false))),qM 4 26]) .ret)))
def qeN:List IRes:=[.t 4]
theorem qhV:chkF Tryz.prog Tryz.f66 qeW qeN 27=true:=by kernel_rfl
def qbI:IC:=(.seq (.reg [qO 70 (.bin .lss (.t 69) (.t 68))]) (.seq (.cond (.t 70) .skip (.exit 6)) (.seq (.block 7 (.seq (.reg [qO 71 (.ixa 7 (.t 67) (.t 69)),qO 72 (.ld 7 true (.t 71)),qO 12 (.alc 85 [.str [],.str [],.int .i64 0,.int .i64 0,.int .i64 0,.nl 1,.int .i64 0]),⟨none,.st 7 (.t 12) (.t 72),none⟩]) (.reg [qM 73 3,qO 74 (.fla 0 (.t 12)),qO 75 (.ld 1 false (.t 74)),⟨none,.mpu (.t 73) (.t 75) (.c (.bool true)),none⟩]))) (.reg [qO 76 (.bin .add (.t 69) (.c (.int .i64 1))),qM 69 76]))))
def qbJ:IC:=(.seq (.reg [qO 50 (.bin .lss (.t 49) (.t 48))]) (.seq (.cond (.t 50) .skip (.exit 4)) (.seq (.block 5 (.seq (.reg [qO 51 (.ixa 4 (.t 47) (.t 49)),qO 52 (.ld 4 true (.t 51)),qO 10 (.alc 36 [.int .i64 0,.str [],.int .i64 0,.nl 7]),⟨none,.st 4 (.t 10) (.t 52),none⟩]) (.seq (.reg [qO 53 (.fla 1 (.t 10)),qO 54 (.ld 1 false (.t 53)),qO 55 (.fla 1 (.t 5)),qO 56 (.ld 1 false (.t 55)),qO 57 (.bin .eql (.t 54) (.t 56)),qM 58 57,⟨some 59,.fla 3 (.t 10),(some (58,true))⟩,⟨some 60,.ld 1 false (.t 59),(some (58,true))⟩,⟨some 61,.mkf 68 [.t 8],(some (58,true))⟩,⟨some 62,.call 58 [.t 60,.t 61],(some (58,true))⟩,qO 63 (.pick (.t 58) (.t 62) (.c (.bool false)))]) (.cond (.t 63) (.seq (.reg [qO 2 (.mov (.c (.int .i64 13)))]) .ret) .skip)))) (.reg [qO 64 (.bin .add (.t 49) (.c (.int .i64 1))),qM 49 64]))))
def qbK:IC:=(.seq (.reg [qO 38 (.bin .lss (.t 37) (.t 36))]) (.seq (.cond (.t 38) .skip (.exit 2)) (.seq (.block 3 (.seq (.reg [qO 39 (.ixa 7 (.t 35) (.t 37)),qO 40 (.ld 7 true (.t 39)),qO 8 (.alc 85 [.str [],.str [],.int .i64 0,.int .i64 0,.int .i64 0,.nl 1,.int .i64 0]),⟨none,.st 7 (.t 8) (.t 40),none⟩,⟨none,.re,none⟩]) (.seq (.seq (.reg [qM 41 3,qO 42 (.fla 0 (.t 8)),qO 43 (.ld 1 false (.t 42)),qO 44 (.mpl false (.bool false) (.t 41) (.t 43))]) (.cond (.t 44) (.seq (.reg [qO 2 (.mov (.c (.int .i64 6)))]) .ret) .skip)) (.seq (.reg [qM 45 0,qM 46 4,qO 47 (.vsl 4 (.t 45) none (some (.t 46))),qO 48 (.len (.t 47)),qO 49 (.mov (.c (.int .i64 0)))]) (.block 4 (.loop qbJ)))))) (.reg [qO 65 (.bin .add (.t 37) (.c (.int .i64 1))),qM 37 65]))))
def qbL:IC:=(.seq (.reg [qO 20 (.bin .lss (.t 19) (.t 18))]) (.seq (.cond (.t 20) .skip (.exit 0)) (.seq (.block 1 (.seq (.reg [qM 21 19,qO 22 (.ixa 4 (.t 17) (.t 19)),qO 23 (.ld 4 true (.t 22)),qO 5 (.alc 36 [.int .i64 0,.str [],.int .i64 0,.nl 7]),qM 4 21,⟨none,.st 4 (.t 5) (.t 23),none⟩,⟨none,.re,none⟩]) (.seq (.seq (.reg [qO 24 (.ld 4 true (.t 5)),qO 25 (.call 13 [.t 24]),qM 6 25]) (.seq (.reg [qM 26 6,qO 27 (.bin .neq (.t 26) (.c (.int .i64 0)))]) (.cond (.t 27) (.seq (.reg [qM 28 6,qM 2 28]) .ret) .skip))) (.seq (.seq (.reg [qO 29 (.fla 0 (.t 5)),qO 30 (.ld 1 false (.t 29)),qM 31 4,qO 32 (.bin .add (.t 31) (.c (.int .i64 1))),qO 33 (.bin .neq (.t 30) (.t 32))]) (.cond (.t 33) (.seq (.reg [qO 2 (.mov (.c (.int .i64 7)))]) .ret) .skip)) (.seq (.seq (.reg [qO 34 (.fla 3 (.t 5)),qO 35 (.ld 1 false (.t 34)),qO 36 (.len (.t 35)),qO 37 (.mov (.c (.int .i64 0)))]) (.block 2 (.loop qbK))) (.seq (.reg [qO 66 (.fla 3 (.t 5)),qO 67 (.ld 1 false (.t 66)),qO 68 (.len (.t 67)),qO 69 (.mov (.c (.int .i64 0)))]) (.block 6 (.loop qbI)))))))) (.reg [qO 77 (.bin .add (.t 19) (.c (.int .i64 1))),qM 19 77]))))
def qch:IC:=(.seq (.reg [qO 2 (.mov (.c (.int .i64 0)))]) (.seq (.seq (.reg [qM 13 0,qO 14 (.len (.t 13)),qO 15 (.bin .gtr (.t 14) (.c (.int .i64 200)))]) (.cond (.t 15) (.seq (.reg [qO 2 (.mov (.c (.int .i64 2)))]) .ret) .skip)) (.seq (.reg [qO 16 (.mkm 9 4),qM 3 16]) (.seq (.seq (.reg [qM 17 0,qO 18 (.len (.t 17)),qO 19 (.mov (.c (.int .i64 0)))]) (.block 0 (.loop qbL))) (.seq (.reg [qO 2 (.mov (.c (.int .i64 0)))]) .ret)))))
def qcf:List IRes:=[.t 2]
theorem qfg:chkF Tryz.prog Tryz.f16 qch qcf 78=true:=by kernel_rfl
def qb1:IC:=(.seq (.reg [qO 2 (.box 85 (.t 0)),qO 3 (.mov (.c (.bool false)))]) (.seq (.reg [qO 4 (.fla 3 (.t 1)),qO 5 (.ld 1 false (.t 4)),qO 6 (.fla 4 (.t 2)),qO 7 (.ld 1 false (.t 6)),qO 8 (.bin .leq (.t 5) (.t 7)),qM 9 8,⟨some 10,.fla 3 (.t 2),(some (9,true))⟩,⟨some 11,.ld 1 false (.t 10),(some (9,true))⟩,⟨some 12,.fla 4 (.t 1),(some (9,true))⟩,⟨some 13,.ld 1 false (.t 12),(some (9,true))⟩,⟨some 14,.bin .leq (.t 11) (.t 13),(some (9,true))⟩,qO 15 (.pick (.t 9) (.t 14) (.c (.bool false))),qM 3 15]) .ret))
def qbQ:List IRes:=[.t 3]
theorem qeD:chkF Tryz.prog Tryz.f68 qb1 qbQ 16=true:=by kernel_rfl
section
variable {E:Envt}
theorem qpJ (l:List Prd) (k:Nat):(pdE l).take k=pdE (l.take k):=by rw [pdE,pdE,List.map_take]
theorem qqq (q:Prd) (hq:0 < q.shs.length) (hB:PdB q):PCall Tryz.prog E 67 [.agg (pdV q)] (·=.agg [int (q.shs.getD 0 sh0).fr_,int ((q.shs.getD (q.shs.length - 1) sh0).to_+1)]):=by
 obtain ⟨no,pre,dig,shs⟩:=q
 obtain ⟨b1,b2,b3,b4,b5⟩:=hB
 simp only at b1 b2 b3 b4 b5 hq
 obtain ⟨x,hx⟩:∃ x,shs[0]?=some x:=⟨_,List.getElem?_eq_getElem hq⟩
 obtain ⟨y,hy⟩:∃ y,shs[shs.length - 1]?=some y:=⟨_,List.getElem?_eq_getElem (by omega)⟩
 have hgx:=qfb hx
 have hgy:=qfb hy
 simp only [shV] at hgx hgy
 have e1:shs.getD 0 sh0=x:=by simp [zt,hx]
 have e2:shs.getD (shs.length - 1) sh0=y:=by simp [zt,hy]
 have hyB:=(b5 y (List.mem_of_getElem? hy)).to_
 have e3:((shs.length:Int) - 1).toNat=shs.length - 1:=by omega
 have e4:Int.toNat 0=0:=rfl
 simp only [e1,e2]
 refine qag mixed Tryz.func67 qjj ?_
 simp only [a0,l0,OS.ao,zj,zo,zi,zn,zl,zm,zp,zd,zh,zk,qgk,qgb,ZZ,WW,Ze,reduceCtorEq,zd,ze,zb,zf,za]
 simp only [pdV,ZZ,WW,Ze,reduceCtorEq,zd,ze,zb,zf,za]
 refine drg0 ?_
 simp only [ZZ,WW,Ze,reduceCtorEq,zd,ze,zb,zf,za,qah,e3,e4,hgx,hgy]
 exact ⟨⟨by omega,by omega⟩,by omega,qar (by omega) (by omega),⟨by omega,by omega⟩,by omega,qar (by omega) (by omega)⟩
theorem qys (q p:Prd) (x:Sht) (hq:0 < q.shs.length) (hB:PdB q):PCall Tryz.prog E 66 [.agg (pdV q),.ptr (pdV p),.ptr (shV x)] (·=.bool (decide (q.pre=p.pre) && takW x q)):=by
 have hn:=qqq (E:=E) q hq hB
 refine qag mixed Tryz.func66 qhV ?_
 simp only [a0,l0,OS.ao,zj,zo,zi,zn,zl,zm,zp,zd,zh,zk,qeW,qeN,ZZ,WW,Ze,reduceCtorEq,zd,ze,zb,zf,za]
 simp only [pdV,shV,ZZ,WW,Ze,reduceCtorEq,zd,ze,zb,zf,za] at hn ⊢
 refine use1 hn rfl (.inl rfl) ?_
 simp only [ZZ,WW,Ze,reduceCtorEq,zd,ze,zb,zf,za]
 unfold takW
 rw [Bool.and_assoc]
theorem qyq (y x:Sht):PCall Tryz.prog E 68 [.agg (shV y),.ptr (shV x)] (·=.bool (decide (x.fr_≤y.to_) && decide (y.fr_≤x.to_))):=by
 refine qag mixed Tryz.func68 qeD ?_
 simp only [a0,l0,OS.ao,zj,zo,zi,zn,zl,zm,zp,zd,zh,zk,qb1,qbQ,ZZ,WW,Ze,reduceCtorEq,zd,ze,zb,zf,za]
 simp only [shV,ZZ,WW,Ze,reduceCtorEq,zd,ze,zb,zf,za]
end
def qmy (kv:List (List UInt8×PV)) (l:List Prd) (m:List Sht):Prop:=∀ s,mpD kv s (.bool false)=.bool (qiy l s || m.any fun y=>decide (y.id=s))
theorem qnI:qmy [] [] []:=fun s=>rfl
theorem qnH {kv:List (List UInt8×PV)} {l:List Prd} {m:List Sht} (h:qmy kv l m) (x:Sht):qmy (mpS kv x.id (.bool true)) l (m++[x]):=fun s=>by
 have h:=h s
 unfold mpD at h ⊢
 rw [qiG,List.any_append]
 by_cases hs:x.id=s
 ·simp [hs]
 ·rw [if_neg hs,h]
  simp [hs]
theorem qnJ {kv:List (List UInt8×PV)} {l:List Prd} {p:Prd} (h:qmy kv l p.shs):qmy kv (l++[p]) []:=fun s=>by
 rw [h s]
 simp [qiy,List.any_append]
theorem qpz (l:List Prd) (p:Prd) {k:Nat} {x:Sht} (h:p.shs[k]?=some x):(p.shs.map (shBp l p))[k]?=some (shBp l p x):=by
 rw [List.getElem?_map,h];rfl
set_option maxHeartbeats 8000000 in
set_option maxRecDepth 100000 in
theorem qlh (l:List Prd) (hl:l.length≤100000) (hB:∀ p∈l,PdB p):PCall Tryz.prog E0 15 [.sl 4 (pdE l)] (·=int (pdsF l)):=by
 have e2:decide ((200:Int) < (l.length:Int))=decide (200 < l.length):=decide_eq_decide.2 (by omega)
 refine qag mixed Tryz.func15 qiK ?_
 simp only [a0,l0,OS.ao,zj,zo,zi,zn,zl,zm,zp,zd,zh,zk,qfX,qfJ,ZZ,WW,Ze,reduceCtorEq,zd,ze,zb,zf,za]
 simp only [ZZ,WW,Ze,reduceCtorEq,zd,ze,zb,zf,za,qaQ,e2]
 refine br ?_ ?_
 ·intro h
  simp only [ZZ,WW,Ze,reduceCtorEq,zd,ze,zb,zf,za]
  rw [pdsF,if_pos (by simpa using h)]
 intro h
 rw [pdsF,if_neg (by simpa using h)]
 clear h e2
 have hget:=fun {k:Nat} (h:k < l.length)=>qbr _ k _ (qpI l h)
 obtain ⟨G,hG⟩:∃ G,(List.range l.length).map (pdsA l)=G:=⟨_,rfl⟩
 have hGl:G.length=l.length:=by rw [← hG];simp
 rw [hG] at hget ⊢
 simp only [ZZ,WW,Ze,reduceCtorEq,zd,ze,zb,zf,za,qaQ]
 refine qad (fun n fr L=>∃ (k:Nat) (kv:List (List UInt8×PV)),k≤l.length∧n=l.length - k∧(qaf G=qaf (G.drop k))∧(∀ j,j < k→pdsA l j=0)∧(qmy kv (l.take k) [])∧fr=[.p (.sl 4 (pdE l)),oo,oo,.mp (.l 16),oo,oo,oo,oo,oo,oo,oo,oo,oo,oo,oo,oo,oo,.p (.sl 4 (pdE l)),.p (int (l.length:Nat)),.p (int (k:Nat)),oo,oo,oo,oo,oo,oo,oo,oo,oo,oo,oo,oo,oo,oo,oo,oo,oo,oo,oo,oo,oo,oo,oo,oo,oo,oo,oo,oo,oo,oo,oo,oo,oo,oo,oo,oo,oo,oo,oo,oo,oo,oo,oo,oo,oo,oo,oo,oo,oo,oo,oo,oo,oo,oo]∧L=[(.l 16,.map kv 9 4)]) (l.length) [.p (.sl 4 (pdE l)),oo,oo,.mp (.l 16),oo,oo,oo,oo,oo,oo,oo,oo,oo,oo,oo,oo,oo,.p (.sl 4 (pdE l)),.p (int (l.length:Nat)),.p (int (0:Nat)),oo,oo,oo,oo,oo,oo,oo,oo,oo,oo,oo,oo,oo,oo,oo,oo,oo,oo,oo,oo,oo,oo,oo,oo,oo,oo,oo,oo,oo,oo,oo,oo,oo,oo,oo,oo,oo,oo,oo,oo,oo,oo,oo,oo,oo,oo,oo,oo,oo,oo,oo,oo,oo,oo] [(.l 16,.map [] 9 4)] (by simp only [ZZ,WW,Ze,reduceCtorEq,zd,ze,zb,zf,za,qaQ];try trivial) (by (simp only [ZZ,WW,Ze,reduceCtorEq,zd,ze,zb,zf,za];try trivial)) ⟨0,[],by omega,by omega,rfl,(fun j h=>by omega),qnI,rfl,rfl⟩ ?_
 rintro n fr L ⟨k,kv,hk,rfl,hF,hz,hkv,rfl,rfl⟩
 simp only [qem,ZZ,WW,Ze,reduceCtorEq,zd,ze,zb,zf,za]
 refine br ?_ ?_
 rotate_left
 ·intro h
  have hge:l.length≤k:=by have:=of_decide_eq_false h;omega
  simp only [ZZ,WW,Ze,reduceCtorEq,zd,ze,zb,zf,za]
  rw [hF,List.drop_eq_nil_of_le (by omega)]
  rfl
 intro h
 have hlt:k < l.length:=by have:=of_decide_eq_true h;omega
 obtain ⟨p,hp⟩:∃ p,l[k]?=some p:=⟨_,List.getElem?_eq_getElem hlt⟩
 have hg:=qiD hp
 have hpB:=hB p (List.mem_of_getElem? hp)
 have hck:=qp9 p hpB
 simp only [pdV] at hg hck
 have hdr:=hget hlt
 have hpd:l.getD k pd0=p:=by simp [zt,hp]
 have hA:pdsA l k=if qaf [prdF p,qaj (!decide (p.no=(k:Nat)+1)) 7]=0 then qaf (p.shs.map (shBp (l.take k) p)) else qaf [prdF p,qaj (!decide (p.no=(k:Nat)+1)) 7]:=by
  unfold pdsA
  rw [hpd]
 have htk:l.take (k+1)=l.take k++[p]:=by rw [List.take_succ_eq_append_getElem hlt,(List.getElem?_eq_some_iff.1 hp).2]
 simp only [ZZ,WW,Ze,reduceCtorEq,zd,ze,zb,zf,za,hg,qaQ]
 ((repeat' (with_reducible apply And.intro))<;>try ((exact sc_)))
 rw [qa9]
 refine ⟨_,_,qit (k:=.l 5) (cs:=[int p.no,.str p.pre,int p.dig,.sl 7 (shE p.shs)]) rfl,?_⟩
 simp only [ZZ,WW,Ze,reduceCtorEq,zd,ze,zb,zf,za]
 refine ⟨[int (prdF p),int (qaj (!decide (p.no=(k:Nat)+1)) 7),int (qaf [prdF p,qaj (!decide (p.no=(k:Nat)+1)) 7])],?_⟩
 simp only [ZZ,WW,Ze,reduceCtorEq,zd,ze,zb,zf,za]
 refine ⟨usep hck rfl (.inl rfl),qar (by omega) (by omega),usep (qfh _ 7) rfl (.inl rfl),usep (qij [_,_] (by simp)) rfl (.inl rfl),?_⟩
 refine br ?_ ?_
 ·intro h2
  have h3:¬ qaf [prdF p,qaj (!decide (p.no=(k:Nat)+1)) 7]=0:=by simpa using h2
  rw [if_neg h3] at hA
  simp only [ZZ,WW,Ze,reduceCtorEq,zd,ze,zb,zf,za]
  rw [hF,hdr,hA,if_neg h3]
 intro h2
 have h3:qaf [prdF p,qaj (!decide (p.no=(k:Nat)+1)) 7]=0:=by simpa using h2
 rw [if_pos h3] at hA
 have hp0:prdF p=0:=qaL h3 _ (by simp)
 clear h2 h3
 have hget2:=fun {j:Nat} {x:Sht} (h:p.shs[j]?=some x)=>qbr _ j _ (qpz (l.take k) p h)
 obtain ⟨H,hH⟩:∃ H,p.shs.map (shBp (l.take k) p)=H:=⟨_,rfl⟩
 have hHl:H.length=p.shs.length:=by rw [← hH];simp
 rw [hH] at hget2 hA
 have hsl:=hpB.shs
 simp only [ZZ,WW,Ze,reduceCtorEq,zd,ze,zb,zf,za,qah]
 refine qad (fun n fr L=>∃ (j:Nat),j≤p.shs.length∧n=p.shs.length - j∧(qaf H=qaf (H.drop j))∧fr=[.p (.sl 4 (pdE l)),oo,oo,.mp (.l 16),.p (int (k:Nat)),.p (.ptr [int p.no,.str p.pre,int p.dig,.sl 7 (shE p.shs)]),oo,oo,oo,oo,oo,oo,oo,oo,oo,oo,oo,.p (.sl 4 (pdE l)),.p (int (l.length:Nat)),.p (int (k:Nat)),oo,oo,oo,oo,oo,oo,oo,oo,oo,oo,oo,oo,oo,oo,oo,oo,oo,oo,.p (.sl 7 (shE p.shs)),.p (int (p.shs.length:Nat)),.p (int (j:Nat)),oo,oo,oo,oo,oo,oo,oo,oo,oo,oo,oo,oo,oo,oo,oo,oo,oo,oo,oo,oo,oo,oo,oo,oo,oo,oo,oo,oo,oo,oo,oo,oo,oo]∧L=[(.l 16,.map kv 9 4)]) (p.shs.length) [.p (.sl 4 (pdE l)),oo,oo,.mp (.l 16),.p (int (k:Nat)),.p (.ptr [int p.no,.str p.pre,int p.dig,.sl 7 (shE p.shs)]),oo,oo,oo,oo,oo,oo,oo,oo,oo,oo,oo,.p (.sl 4 (pdE l)),.p (int (l.length:Nat)),.p (int (k:Nat)),oo,oo,oo,oo,oo,oo,oo,oo,oo,oo,oo,oo,oo,oo,oo,oo,oo,oo,.p (.sl 7 (shE p.shs)),.p (int (p.shs.length:Nat)),.p (int (0:Nat)),oo,oo,oo,oo,oo,oo,oo,oo,oo,oo,oo,oo,oo,oo,oo,oo,oo,oo,oo,oo,oo,oo,oo,oo,oo,oo,oo,oo,oo,oo,oo,oo,oo] [(.l 16,.map kv 9 4)] (by simp only [ZZ,WW,Ze,reduceCtorEq,zd,ze,zb,zf,za,qah];try trivial) (by (simp only [ZZ,WW,Ze,reduceCtorEq,zd,ze,zb,zf,za];try trivial)) ⟨0,by omega,by omega,rfl,rfl,rfl⟩ ?_
 rintro n fr L ⟨j,hj,rfl,hF2,rfl,rfl⟩
 simp only [qel,ZZ,WW,Ze,reduceCtorEq,zd,ze,zb,zf,za]
 refine br ?_ ?_
 ·intro h4
  have hjl:j < p.shs.length:=by have:=of_decide_eq_true h4;omega
  obtain ⟨x,hx⟩:∃ x,p.shs[j]?=some x:=⟨_,List.getElem?_eq_getElem hjl⟩
  have hgx:=qfb hx
  simp only [shV] at hgx
  have hdr2:=hget2 hx
  have hm:=hkv x.id
  rw [List.any_nil,Bool.or_false] at hm
  have hcl:=qjP (E:=E0) (l.take k) 66 [.ptr (pdV p),.ptr (shV x)] (fun q=>decide (q.pre=p.pre) && takW x q) (by rw [List.length_take];omega) (fun _=>by kernel_rfl) rfl (fun q hq=>by
   obtain ⟨i,hi,hil,he⟩:=qnQ hq
   have h0:prdF q=0:=by rw [← he];exact qkS (hz i hi)
   exact qys q p x (List.length_pos_iff.2 (qmm h0).1) (hB q (List.mem_of_mem_take hq))) (fun _=>rfl) (fun _=>rfl)
  simp only [pdV,shV] at hcl
  simp only [ZZ,WW,Ze,reduceCtorEq,zd,ze,zb,zf,za,hgx,qah]
  ((repeat' (with_reducible apply And.intro))<;>try ((exact sc_)))
  rw [qa9]
  refine ⟨_,_,qit (k:=.l 8) (cs:=[.str x.id,.str x.top,int x.kind,int x.fr_,int x.to_,.sl 1 (tbE x.pages),int x.ver]) rfl,?_⟩
  simp only [ZZ,WW,Ze,reduceCtorEq,zd,ze,zb,zf,za,qaQ,qpJ]
  ((repeat' (with_reducible apply And.intro))<;>try ((exact sc_)))
  refine use1 hcl rfl (.inr rfl) ?_
  simp only [ZZ,WW,Ze,reduceCtorEq,zd,ze,zb,zf,za,hm]
  refine use1 (qfh _ 6) rfl (.inl rfl) ?_
  simp only [ZZ,WW,Ze,reduceCtorEq,zd,ze,zb,zf,za]
  refine use1 (qfh _ 13) rfl (.inl rfl) ?_
  simp only [ZZ,WW,Ze,reduceCtorEq,zd,ze,zb,zf,za]
  refine use1 (qij [_,_] (by simp)) rfl (.inl rfl) ?_
  simp only [ZZ,WW,Ze,reduceCtorEq,zd,ze,zb,zf,za]
  refine br ?_ ?_
  ·intro h5
   have h6:¬ shBp (l.take k) p x=0:=by simpa [shBp,takA] using h5
   rw [if_neg h6] at hdr2
   rw [hF2,hdr2] at hA
   simp only [ZZ,WW,Ze,reduceCtorEq,zd,ze,zb,zf,za]
   rw [hF,hdr,hA,if_neg h6]
   rfl
  ·intro h5
   have h6:shBp (l.take k) p x=0:=by simpa [shBp,takA] using h5
   rw [if_pos h6] at hdr2
   simp only [ZZ,WW,Ze,reduceCtorEq,zd,ze,zb,zf,za]
   ((repeat' (with_reducible apply And.intro))<;>try ((exact sc_)))
   refine qac (p.shs.length - (j+1)) [.p (.sl 4 (pdE l)),oo,oo,.mp (.l 16),.p (int (k:Nat)),.p (.ptr [int p.no,.str p.pre,int p.dig,.sl 7 (shE p.shs)]),oo,oo,oo,oo,oo,oo,oo,oo,oo,oo,oo,.p (.sl 4 (pdE l)),.p (int (l.length:Nat)),.p (int (k:Nat)),oo,oo,oo,oo,oo,oo,oo,oo,oo,oo,oo,oo,oo,oo,oo,oo,oo,oo,.p (.sl 7 (shE p.shs)),.p (int (p.shs.length:Nat)),.p (int ((j+1):Nat)),oo,oo,oo,oo,oo,oo,oo,oo,oo,oo,oo,oo,oo,oo,oo,oo,oo,oo,oo,oo,oo,oo,oo,oo,oo,oo,oo,oo,oo,oo,oo,oo,oo] [(.l 16,.map kv 9 4)] (by omega) (by (simp only [ZZ,WW,Ze,reduceCtorEq,zd,ze,zb,zf,za];try trivial)) (by (simp only [ZZ,WW,Ze,reduceCtorEq,zd,ze,zb,zf,za];try trivial)) ⟨j+1,by omega,rfl,by rw [hF2,hdr2],rfl,rfl⟩
 intro h4
 have hjl:p.shs.length≤j:=by have:=of_decide_eq_false h4;omega
 rw [hF2,List.drop_eq_nil_of_le (by omega)] at hA
 have hA:pdsA l k=0:=hA
 rw [if_pos hA] at hdr
 clear hF2 hjl h4
 simp only [ZZ,WW,Ze,reduceCtorEq,zd,ze,zb,zf,za,qah]
 refine qad (fun n fr L=>∃ (j:Nat) (kw:List (List UInt8×PV)),j≤p.shs.length∧n=p.shs.length - j∧(qmy kw (l.take k) (p.shs.take j))∧fr=[.p (.sl 4 (pdE l)),oo,oo,.mp (.l 16),oo,oo,oo,oo,oo,oo,oo,oo,oo,oo,oo,oo,oo,.p (.sl 4 (pdE l)),.p (int (l.length:Nat)),.p (int (k:Nat)),oo,oo,oo,oo,oo,oo,oo,oo,oo,oo,oo,oo,oo,oo,oo,oo,oo,oo,oo,oo,oo,oo,oo,oo,oo,oo,oo,oo,oo,oo,oo,oo,oo,oo,oo,oo,oo,oo,oo,oo,oo,oo,oo,.p (.sl 7 (shE p.shs)),.p (int (p.shs.length:Nat)),.p (int (j:Nat)),oo,oo,oo,oo,oo,oo,oo,oo]∧L=[(.l 16,.map kw 9 4)]) (p.shs.length) [.p (.sl 4 (pdE l)),oo,oo,.mp (.l 16),oo,oo,oo,oo,oo,oo,oo,oo,oo,oo,oo,oo,oo,.p (.sl 4 (pdE l)),.p (int (l.length:Nat)),.p (int (k:Nat)),oo,oo,oo,oo,oo,oo,oo,oo,oo,oo,oo,oo,oo,oo,oo,oo,oo,oo,oo,oo,oo,oo,oo,oo,oo,oo,oo,oo,oo,oo,oo,oo,oo,oo,oo,oo,oo,oo,oo,oo,oo,oo,oo,.p (.sl 7 (shE p.shs)),.p (int (p.shs.length:Nat)),.p (int (0:Nat)),oo,oo,oo,oo,oo,oo,oo,oo] [(.l 16,.map kv 9 4)] (by simp only [ZZ,WW,Ze,reduceCtorEq,zd,ze,zb,zf,za,qah];try trivial) (by (simp only [ZZ,WW,Ze,reduceCtorEq,zd,ze,zb,zf,za];try trivial)) ⟨0,kv,by omega,by omega,hkv,rfl,rfl⟩ ?_
 rintro n fr L ⟨j,kw,hj,rfl,hkw,rfl,rfl⟩
 simp only [qek,ZZ,WW,Ze,reduceCtorEq,zd,ze,zb,zf,za]
 refine br ?_ ?_
 ·intro h4
  have hjl:j < p.shs.length:=by have:=of_decide_eq_true h4;omega
  obtain ⟨x,hx⟩:∃ x,p.shs[j]?=some x:=⟨_,List.getElem?_eq_getElem hjl⟩
  have hgx:=qfb hx
  simp only [shV] at hgx
  have hpu:=qnH hkw x
  rw [show p.shs.take j++[x]=p.shs.take (j+1) from by rw [List.take_succ_eq_append_getElem hjl,(List.getElem?_eq_some_iff.1 hx).2]] at hpu
  simp only [ZZ,WW,Ze,reduceCtorEq,zd,ze,zb,zf,za,hgx,qah]
  ((repeat' (with_reducible apply And.intro))<;>try ((exact sc_)))
  refine qac (p.shs.length - (j+1)) [.p (.sl 4 (pdE l)),oo,oo,.mp (.l 16),oo,oo,oo,oo,oo,oo,oo,oo,oo,oo,oo,oo,oo,.p (.sl 4 (pdE l)),.p (int (l.length:Nat)),.p (int (k:Nat)),oo,oo,oo,oo,oo,oo,oo,oo,oo,oo,oo,oo,oo,oo,oo,oo,oo,oo,oo,oo,oo,oo,oo,oo,oo,oo,oo,oo,oo,oo,oo,oo,oo,oo,oo,oo,oo,oo,oo,oo,oo,oo,oo,.p (.sl 7 (shE p.shs)),.p (int (p.shs.length:Nat)),.p (int ((j+1):Nat)),oo,oo,oo,oo,oo,oo,oo,oo] [(.l 16,.map (mpS kw x.id (.bool true)) 9 4)] (by omega) (by (simp only [ZZ,WW,Ze,reduceCtorEq,zd,ze,zb,zf,za];try trivial)) (by (simp only [ZZ,WW,Ze,reduceCtorEq,zd,ze,zb,zf,za];try trivial)) ⟨j+1,mpS kw x.id (.bool true),by omega,rfl,hpu,rfl,rfl⟩
 intro h4
 have hjl:p.shs.length≤j:=by have:=of_decide_eq_false h4;omega
 rw [List.take_of_length_le hjl] at hkw
 have hkw:=qnJ hkw
 rw [← htk] at hkw
 simp only [ZZ,WW,Ze,reduceCtorEq,zd,ze,zb,zf,za]
 ((repeat' (with_reducible apply And.intro))<;>try ((exact sc_)))
 refine qac (l.length - (k+1)) [.p (.sl 4 (pdE l)),oo,oo,.mp (.l 16),oo,oo,oo,oo,oo,oo,oo,oo,oo,oo,oo,oo,oo,.p (.sl 4 (pdE l)),.p (int (l.length:Nat)),.p (int ((k+1):Nat)),oo,oo,oo,oo,oo,oo,oo,oo,oo,oo,oo,oo,oo,oo,oo,oo,oo,oo,oo,oo,oo,oo,oo,oo,oo,oo,oo,oo,oo,oo,oo,oo,oo,oo,oo,oo,oo,oo,oo,oo,oo,oo,oo,oo,oo,oo,oo,oo,oo,oo,oo,oo,oo,oo] [(.l 16,.map (kw) 9 4)] (by omega) (by (simp only [ZZ,WW,Ze,reduceCtorEq,zd,ze,zb,zf,za];try trivial)) (by (simp only [ZZ,WW,Ze,reduceCtorEq,zd,ze,zb,zf,za];try trivial)) ⟨k+1,kw,by omega,rfl,by rw [hF,hdr],(fun i hi=>by rcases Nat.lt_succ_iff_lt_or_eq.1 hi with hi|rfl;exact hz i hi;exact hA),hkw,rfl,rfl⟩
set_option maxHeartbeats 8000000 in
set_option maxRecDepth 100000 in
theorem qdA (l:List Prd) (hl:l.length≤100000) (hB:∀ p∈l,PdB p):PCall Tryz.prog E0 16 [.sl 4 (pdE l)] (·=int (pdsF l)):=by
 have e2:decide ((200:Int) < (l.length:Int))=decide (200 < l.length):=decide_eq_decide.2 (by omega)
 refine qag mixed Tryz.func16 qfg ?_
 simp only [a0,l0,OS.ao,zj,zo,zi,zn,zl,zm,zp,zd,zh,zk,qch,qcf,ZZ,WW,Ze,reduceCtorEq,zd,ze,zb,zf,za]
 simp only [ZZ,WW,Ze,reduceCtorEq,zd,ze,zb,zf,za,qaQ,e2]
 refine br ?_ ?_
 ·intro h
  simp only [ZZ,WW,Ze,reduceCtorEq,zd,ze,zb,zf,za]
  rw [pdsF,if_pos (by simpa using h)]
 intro h
 rw [pdsF,if_neg (by simpa using h)]
 clear h e2
 have hget:=fun {k:Nat} (h:k < l.length)=>qbr _ k _ (qpI l h)
 obtain ⟨G,hG⟩:∃ G,(List.range l.length).map (pdsA l)=G:=⟨_,rfl⟩
 have hGl:G.length=l.length:=by rw [← hG];simp
 rw [hG] at hget ⊢
 simp only [ZZ,WW,Ze,reduceCtorEq,zd,ze,zb,zf,za,qaQ]
 refine qad (fun n fr L=>∃ (k:Nat) (kv:List (List UInt8×PV)),k≤l.length∧n=l.length - k∧(qaf G=qaf (G.drop k))∧(∀ j,j < k→pdsA l j=0)∧(qmy kv (l.take k) [])∧fr=[.p (.sl 4 (pdE l)),oo,oo,.mp (.l 16),oo,oo,oo,oo,oo,oo,oo,oo,oo,oo,oo,oo,oo,.p (.sl 4 (pdE l)),.p (int (l.length:Nat)),.p (int (k:Nat)),oo,oo,oo,oo,oo,oo,oo,oo,oo,oo,oo,oo,oo,oo,oo,oo,oo,oo,oo,oo,oo,oo,oo,oo,oo,oo,oo,oo,oo,oo,oo,oo,oo,oo,oo,oo,oo,oo,oo,oo,oo,oo,oo,oo,oo,oo,oo,oo,oo,oo,oo,oo,oo,oo,oo,oo,oo,oo]∧L=[(.l 16,.map kv 9 4)]) (l.length) [.p (.sl 4 (pdE l)),oo,oo,.mp (.l 16),oo,oo,oo,oo,oo,oo,oo,oo,oo,oo,oo,oo,oo,.p (.sl 4 (pdE l)),.p (int (l.length:Nat)),.p (int (0:Nat)),oo,oo,oo,oo,oo,oo,oo,oo,oo,oo,oo,oo,oo,oo,oo,oo,oo,oo,oo,oo,oo,oo,oo,oo,oo,oo,oo,oo,oo,oo,oo,oo,oo,oo,oo,oo,oo,oo,oo,oo,oo,oo,oo,oo,oo,oo,oo,oo,oo,oo,oo,oo,oo,oo,oo,oo,oo,oo] [(.l 16,.map [] 9 4)] (by simp only [ZZ,WW,Ze,reduceCtorEq,zd,ze,zb,zf,za,qaQ];try trivial) (by (simp only [ZZ,WW,Ze,reduceCtorEq,zd,ze,zb,zf,za];try trivial)) ⟨0,[],by omega,by omega,rfl,(fun j h=>by omega),qnI,rfl,rfl⟩ ?_
 rintro n fr L ⟨k,kv,hk,rfl,hF,hz,hkv,rfl,rfl⟩
 simp only [qbL,ZZ,WW,Ze,reduceCtorEq,zd,ze,zb,zf,za]
 refine br ?_ ?_
 rotate_left
 ·intro h
  have hge:l.length≤k:=by have:=of_decide_eq_false h;omega
  simp only [ZZ,WW,Ze,reduceCtorEq,zd,ze,zb,zf,za]
  rw [hF,List.drop_eq_nil_of_le (by omega)]
  rfl
 intro h
 have hlt:k < l.length:=by have:=of_decide_eq_true h;omega
 obtain ⟨p,hp⟩:∃ p,l[k]?=some p:=⟨_,List.getElem?_eq_getElem hlt⟩
 have hg:=qiD hp
 have hpB:=hB p (List.mem_of_getElem? hp)
 have hck:=qgt p hpB
 simp only [pdV] at hg hck
 have hdr:=hget hlt
 have hpd:l.getD k pd0=p:=by simp [zt,hp]
 have hA:pdsA l k=if qaf [prdF p,qaj (!decide (p.no=(k:Nat)+1)) 7]=0 then qaf (p.shs.map (shBp (l.take k) p)) else qaf [prdF p,qaj (!decide (p.no=(k:Nat)+1)) 7]:=by
  unfold pdsA
  rw [hpd]
 have htk:l.take (k+1)=l.take k++[p]:=by rw [List.take_succ_eq_append_getElem hlt,(List.getElem?_eq_some_iff.1 hp).2]
 have h2e:∀ a b:Int,qaf [a,b]=if a=0 then b else a:=fun a b=>by simp only [qaf];split<;>(try split)<;>simp_all
 rw [h2e] at hA
 simp only [ZZ,WW,Ze,reduceCtorEq,zd,ze,zb,zf,za,hg,qaQ]
 ((repeat' (with_reducible apply And.intro))<;>try ((exact sc_)))
 rw [qa9]
 refine ⟨_,_,qit (k:=.l 5) (cs:=[int p.no,.str p.pre,int p.dig,.sl 7 (shE p.shs)]) rfl,?_⟩
 simp only [ZZ,WW,Ze,reduceCtorEq,zd,ze,zb,zf,za]
 refine use1 hck rfl (.inl rfl) ?_
 simp only [ZZ,WW,Ze,reduceCtorEq,zd,ze,zb,zf,za]
 refine br ?_ ?_
 ·intro h2
  have h3:¬ prdF p=0:=by simpa using h2
  rw [if_neg h3,if_neg h3] at hA
  simp only [ZZ,WW,Ze,reduceCtorEq,zd,ze,zb,zf,za]
  rw [hF,hdr,hA,if_neg h3]
 intro h2
 have hp0:prdF p=0:=by simpa using h2
 rw [if_pos hp0] at hA
 clear h2
 simp only [ZZ,WW,Ze,reduceCtorEq,zd,ze,zb,zf,za]
 ((repeat' (with_reducible apply And.intro))<;>try ((exact sc_)))
 refine br ?_ ?_
 ·intro h2
  rw [h2,if_neg (show ¬ qaj true 7=0 by decide)] at hA
  simp only [ZZ,WW,Ze,reduceCtorEq,zd,ze,zb,zf,za]
  rw [hF,hdr,hA]
  rfl
 intro h2
 rw [h2,if_pos (show qaj false 7=0 by decide)] at hA
 clear h2
 have hget2:=fun {j:Nat} {x:Sht} (h:p.shs[j]?=some x)=>qbr _ j _ (qpz (l.take k) p h)
 obtain ⟨H,hH⟩:∃ H,p.shs.map (shBp (l.take k) p)=H:=⟨_,rfl⟩
 have hHl:H.length=p.shs.length:=by rw [← hH];simp
 rw [hH] at hget2 hA
 have hsl:=hpB.shs
 simp only [ZZ,WW,Ze,reduceCtorEq,zd,ze,zb,zf,za,qah]
 refine qad (fun n fr L=>∃ (j:Nat),j≤p.shs.length∧n=p.shs.length - j∧(qaf H=qaf (H.drop j))∧fr=[.p (.sl 4 (pdE l)),oo,oo,.mp (.l 16),.p (int (k:Nat)),.p (.ptr [int p.no,.str p.pre,int p.dig,.sl 7 (shE p.shs)]),oo,oo,oo,oo,oo,oo,oo,oo,oo,oo,oo,.p (.sl 4 (pdE l)),.p (int (l.length:Nat)),.p (int (k:Nat)),oo,oo,oo,oo,oo,oo,oo,oo,oo,oo,oo,oo,oo,oo,oo,.p (.sl 7 (shE p.shs)),.p (int (p.shs.length:Nat)),.p (int (j:Nat)),oo,oo,oo,oo,oo,oo,oo,oo,oo,oo,oo,oo,oo,oo,oo,oo,oo,oo,oo,oo,oo,oo,oo,oo,oo,oo,oo,oo,oo,oo,oo,oo,oo,oo,oo,oo,oo,oo,oo,oo]∧L=[(.l 16,.map kv 9 4)]) (p.shs.length) [.p (.sl 4 (pdE l)),oo,oo,.mp (.l 16),.p (int (k:Nat)),.p (.ptr [int p.no,.str p.pre,int p.dig,.sl 7 (shE p.shs)]),oo,oo,oo,oo,oo,oo,oo,oo,oo,oo,oo,.p (.sl 4 (pdE l)),.p (int (l.length:Nat)),.p (int (k:Nat)),oo,oo,oo,oo,oo,oo,oo,oo,oo,oo,oo,oo,oo,oo,oo,.p (.sl 7 (shE p.shs)),.p (int (p.shs.length:Nat)),.p (int (0:Nat)),oo,oo,oo,oo,oo,oo,oo,oo,oo,oo,oo,oo,oo,oo,oo,oo,oo,oo,oo,oo,oo,oo,oo,oo,oo,oo,oo,oo,oo,oo,oo,oo,oo,oo,oo,oo,oo,oo,oo,oo] [(.l 16,.map kv 9 4)] (by simp only [ZZ,WW,Ze,reduceCtorEq,zd,ze,zb,zf,za,qah];try trivial) (by (simp only [ZZ,WW,Ze,reduceCtorEq,zd,ze,zb,zf,za];try trivial)) ⟨0,by omega,by omega,rfl,rfl,rfl⟩ ?_
 rintro n fr L ⟨j,hj,rfl,hF2,rfl,rfl⟩
 simp only [qbK,ZZ,WW,Ze,reduceCtorEq,zd,ze,zb,zf,za]
 refine br ?_ ?_
 ·intro h4
  have hjl:j < p.shs.length:=by have:=of_decide_eq_true h4;omega
  obtain ⟨x,hx⟩:∃ x,p.shs[j]?=some x:=⟨_,List.getElem?_eq_getElem hjl⟩
  have hgx:=qfb hx
  simp only [shV] at hgx
  have hdr2:=hget2 hx
  have hm:=hkv x.id
  rw [List.any_nil,Bool.or_false] at hm
  have htk2:takA (l.take k) p x=takB (l.take k) p x:=qu9 hz (qvV hp0 (List.mem_of_getElem? hx))
  have hsB:shBp (l.take k) p x=if qiy (l.take k) x.id=true then 6 else if takB (l.take k) p x=true then 13 else 0:=by
   unfold shBp
   rw [h2e,htk2]
   cases qiy (l.take k) x.id<;>cases takB (l.take k) p x<;>rfl
  simp only [ZZ,WW,Ze,reduceCtorEq,zd,ze,zb,zf,za,hgx,qah]
  ((repeat' (with_reducible apply And.intro))<;>try ((exact sc_)))
  rw [qa9]
  refine ⟨_,_,qit (k:=.l 8) (cs:=[.str x.id,.str x.top,int x.kind,int x.fr_,int x.to_,.sl 1 (tbE x.pages),int x.ver]) rfl,?_⟩
  simp only [ZZ,WW,Ze,reduceCtorEq,zd,ze,zb,zf,za,hm]
  refine br ?_ ?_
  ·intro h5
   rw [if_pos h5] at hsB
   rw [hsB] at hdr2
   rw [hF2,hdr2] at hA
   simp only [ZZ,WW,Ze,reduceCtorEq,zd,ze,zb,zf,za]
   rw [hF,hdr,hA]
   rfl
  intro h5
  rw [if_neg (by rw [h5];simp)] at hsB
  clear h5 hm
  have hkl:(l.take k).length≤100000:=by rw [List.length_take];omega
  obtain ⟨m,hml⟩:∃ m,l.take k=m:=⟨_,rfl⟩
  have hmB:∀ q∈m,PdB q:=fun q hq=>hB q (List.mem_of_mem_take (by rw [hml];exact hq))
  rw [hml] at hsB hkl
  simp only [ZZ,WW,Ze,reduceCtorEq,zd,ze,zb,zf,za,qaQ,qpJ,hml]
  ((repeat' (with_reducible apply And.intro))<;>try ((exact sc_)))
  refine qad (fun n fr L=>∃ (i:Nat),i≤m.length∧n=m.length - i∧(∀ q∈m.take i,(decide (q.pre=p.pre) && takS x q)=false)∧fr=[.p (.sl 4 (pdE l)),oo,oo,.mp (.l 16),.p (int (k:Nat)),.p (.ptr [int p.no,.str p.pre,int p.dig,.sl 7 (shE p.shs)]),oo,oo,.p (.ptr [.str x.id,.str x.top,int x.kind,int x.fr_,int x.to_,.sl 1 (tbE x.pages),int x.ver]),oo,oo,oo,oo,oo,oo,oo,oo,.p (.sl 4 (pdE l)),.p (int (l.length:Nat)),.p (int (k:Nat)),oo,oo,oo,oo,oo,oo,oo,oo,oo,oo,oo,oo,oo,oo,oo,.p (.sl 7 (shE p.shs)),.p (int (p.shs.length:Nat)),.p (int (j:Nat)),oo,oo,oo,oo,oo,oo,oo,oo,oo,.p (.sl 4 (pdE m)),.p (int (m.length:Nat)),.p (int (i:Nat)),oo,oo,oo,oo,oo,oo,oo,oo,oo,oo,oo,oo,oo,oo,oo,oo,oo,oo,oo,oo,oo,oo,oo,oo,oo,oo,oo,oo]∧L=[(.l 16,.map kv 9 4)]) (m.length) [.p (.sl 4 (pdE l)),oo,oo,.mp (.l 16),.p (int (k:Nat)),.p (.ptr [int p.no,.str p.pre,int p.dig,.sl 7 (shE p.shs)]),oo,oo,.p (.ptr [.str x.id,.str x.top,int x.kind,int x.fr_,int x.to_,.sl 1 (tbE x.pages),int x.ver]),oo,oo,oo,oo,oo,oo,oo,oo,.p (.sl 4 (pdE l)),.p (int (l.length:Nat)),.p (int (k:Nat)),oo,oo,oo,oo,oo,oo,oo,oo,oo,oo,oo,oo,oo,oo,oo,.p (.sl 7 (shE p.shs)),.p (int (p.shs.length:Nat)),.p (int (j:Nat)),oo,oo,oo,oo,oo,oo,oo,oo,oo,.p (.sl 4 (pdE m)),.p (int (m.length:Nat)),.p (int (0:Nat)),oo,oo,oo,oo,oo,oo,oo,oo,oo,oo,oo,oo,oo,oo,oo,oo,oo,oo,oo,oo,oo,oo,oo,oo,oo,oo,oo,oo] [(.l 16,.map kv 9 4)] (by simp only [ZZ,WW,Ze,reduceCtorEq,zd,ze,zb,zf,za,qaQ];try trivial) (by (simp only [ZZ,WW,Ze,reduceCtorEq,zd,ze,zb,zf,za];try trivial)) ⟨0,by omega,by omega,by simp,rfl,rfl⟩ ?_
  rintro n fr L ⟨i,hi,rfl,hno,rfl,rfl⟩
  simp only [qbJ,ZZ,WW,Ze,reduceCtorEq,zd,ze,zb,zf,za]
  refine br ?_ ?_
  ·intro h6
   have hil:i < m.length:=by have:=of_decide_eq_true h6;omega
   obtain ⟨q,hq⟩:∃ q,m[i]?=some q:=⟨_,List.getElem?_eq_getElem hil⟩
   have hgq:=qiD hq
   simp only [pdV] at hgq
   have hqB:=(hmB q (List.mem_of_getElem? hq)).shs
   have hcl:=qeH (E:=E0) q.shs 68 [.ptr (shV x)] (fun y=>decide (x.fr_≤y.to_) && decide (y.fr_≤x.to_)) (by omega) (fun _=>by kernel_rfl) rfl (fun y _=>qyq y x) (fun _=>rfl) (fun _=>rfl)
   simp only [shV] at hcl
   simp only [ZZ,WW,Ze,reduceCtorEq,zd,ze,zb,zf,za,hgq,qaQ]
   ((repeat' (with_reducible apply And.intro))<;>try ((exact sc_)))
   refine useG (fun _=>hcl) rfl (.inr rfl) ?_
   simp only [ZZ,WW,Ze,reduceCtorEq,zd,ze,zb,zf,za]
   refine br ?_ ?_
   ·intro h7
    have h8:takB m p x=true:=List.any_eq_true.2 ⟨q,List.mem_of_getElem? hq,h7⟩
    rw [if_pos h8] at hsB
    rw [hml,hsB] at hdr2
    rw [hF2,hdr2] at hA
    simp only [ZZ,WW,Ze,reduceCtorEq,zd,ze,zb,zf,za]
    rw [hF,hdr,hA]
    rfl
   ·intro h7
    simp only [ZZ,WW,Ze,reduceCtorEq,zd,ze,zb,zf,za]
    ((repeat' (with_reducible apply And.intro))<;>try ((exact sc_)))
    refine qac (m.length - (i+1)) [.p (.sl 4 (pdE l)),oo,oo,.mp (.l 16),.p (int (k:Nat)),.p (.ptr [int p.no,.str p.pre,int p.dig,.sl 7 (shE p.shs)]),oo,oo,.p (.ptr [.str x.id,.str x.top,int x.kind,int x.fr_,int x.to_,.sl 1 (tbE x.pages),int x.ver]),oo,oo,oo,oo,oo,oo,oo,oo,.p (.sl 4 (pdE l)),.p (int (l.length:Nat)),.p (int (k:Nat)),oo,oo,oo,oo,oo,oo,oo,oo,oo,oo,oo,oo,oo,oo,oo,.p (.sl 7 (shE p.shs)),.p (int (p.shs.length:Nat)),.p (int (j:Nat)),oo,oo,oo,oo,oo,oo,oo,oo,oo,.p (.sl 4 (pdE m)),.p (int (m.length:Nat)),.p (int ((i+1):Nat)),oo,oo,oo,oo,oo,oo,oo,oo,oo,oo,oo,oo,oo,oo,oo,oo,oo,oo,oo,oo,oo,oo,oo,oo,oo,oo,oo,oo] [(.l 16,.map kv 9 4)] (by omega) (by (simp only [ZZ,WW,Ze,reduceCtorEq,zd,ze,zb,zf,za];try trivial)) (by (simp only [ZZ,WW,Ze,reduceCtorEq,zd,ze,zb,zf,za];try trivial)) ⟨i+1,by omega,rfl,by rw [List.take_succ_eq_append_getElem hil];intro y hy;rcases List.mem_append.1 hy with hy|hy;exact hno y hy;rw [List.mem_singleton] at hy;rw [hy,(List.getElem?_eq_some_iff.1 hq).2];exact h7,rfl,rfl⟩
  intro h6
  have hil:m.length≤i:=by have:=of_decide_eq_false h6;omega
  rw [List.take_of_length_le hil] at hno
  have h8:takB m p x=false:=List.any_eq_false.2 fun q hq=>by rw [hno q hq];simp
  rw [if_neg (by rw [h8];simp)] at hsB
  rw [hml,hsB] at hdr2
  simp only [ZZ,WW,Ze,reduceCtorEq,zd,ze,zb,zf,za]
  ((repeat' (with_reducible apply And.intro))<;>try ((exact sc_)))
  refine qac (p.shs.length - (j+1)) [.p (.sl 4 (pdE l)),oo,oo,.mp (.l 16),.p (int (k:Nat)),.p (.ptr [int p.no,.str p.pre,int p.dig,.sl 7 (shE p.shs)]),oo,oo,oo,oo,oo,oo,oo,oo,oo,oo,oo,.p (.sl 4 (pdE l)),.p (int (l.length:Nat)),.p (int (k:Nat)),oo,oo,oo,oo,oo,oo,oo,oo,oo,oo,oo,oo,oo,oo,oo,.p (.sl 7 (shE p.shs)),.p (int (p.shs.length:Nat)),.p (int ((j+1):Nat)),oo,oo,oo,oo,oo,oo,oo,oo,oo,oo,oo,oo,oo,oo,oo,oo,oo,oo,oo,oo,oo,oo,oo,oo,oo,oo,oo,oo,oo,oo,oo,oo,oo,oo,oo,oo,oo,oo,oo,oo] [(.l 16,.map kv 9 4)] (by omega) (by (simp only [ZZ,WW,Ze,reduceCtorEq,zd,ze,zb,zf,za];try trivial)) (by (simp only [ZZ,WW,Ze,reduceCtorEq,zd,ze,zb,zf,za];try trivial)) ⟨j+1,by omega,rfl,by rw [hF2,hdr2];rfl,rfl,rfl⟩
 intro h4
 have hjl:p.shs.length≤j:=by have:=of_decide_eq_false h4;omega
 rw [hF2,List.drop_eq_nil_of_le (by omega)] at hA
 have hA:pdsA l k=0:=hA
 rw [if_pos hA] at hdr
 clear hF2 hjl h4
 simp only [ZZ,WW,Ze,reduceCtorEq,zd,ze,zb,zf,za,qah]
 refine qad (fun n fr L=>∃ (j:Nat) (kw:List (List UInt8×PV)),j≤p.shs.length∧n=p.shs.length - j∧(qmy kw (l.take k) (p.shs.take j))∧fr=[.p (.sl 4 (pdE l)),oo,oo,.mp (.l 16),oo,oo,oo,oo,oo,oo,oo,oo,oo,oo,oo,oo,oo,.p (.sl 4 (pdE l)),.p (int (l.length:Nat)),.p (int (k:Nat)),oo,oo,oo,oo,oo,oo,oo,oo,oo,oo,oo,oo,oo,oo,oo,oo,oo,oo,oo,oo,oo,oo,oo,oo,oo,oo,oo,oo,oo,oo,oo,oo,oo,oo,oo,oo,oo,oo,oo,oo,oo,oo,oo,oo,oo,oo,oo,.p (.sl 7 (shE p.shs)),.p (int (p.shs.length:Nat)),.p (int (j:Nat)),oo,oo,oo,oo,oo,oo,oo,oo]∧L=[(.l 16,.map kw 9 4)]) (p.shs.length) [.p (.sl 4 (pdE l)),oo,oo,.mp (.l 16),oo,oo,oo,oo,oo,oo,oo,oo,oo,oo,oo,oo,oo,.p (.sl 4 (pdE l)),.p (int (l.length:Nat)),.p (int (k:Nat)),oo,oo,oo,oo,oo,oo,oo,oo,oo,oo,oo,oo,oo,oo,oo,oo,oo,oo,oo,oo,oo,oo,oo,oo,oo,oo,oo,oo,oo,oo,oo,oo,oo,oo,oo,oo,oo,oo,oo,oo,oo,oo,oo,oo,oo,oo,oo,.p (.sl 7 (shE p.shs)),.p (int (p.shs.length:Nat)),.p (int (0:Nat)),oo,oo,oo,oo,oo,oo,oo,oo] [(.l 16,.map kv 9 4)] (by simp only [ZZ,WW,Ze,reduceCtorEq,zd,ze,zb,zf,za,qah];try trivial) (by (simp only [ZZ,WW,Ze,reduceCtorEq,zd,ze,zb,zf,za];try trivial)) ⟨0,kv,by omega,by omega,hkv,rfl,rfl⟩ ?_
 rintro n fr L ⟨j,kw,hj,rfl,hkw,rfl,rfl⟩
 simp only [qbI,ZZ,WW,Ze,reduceCtorEq,zd,ze,zb,zf,za]
 refine br ?_ ?_
 ·intro h4
  have hjl:j < p.shs.length:=by have:=of_decide_eq_true h4;omega
  obtain ⟨x,hx⟩:∃ x,p.shs[j]?=some x:=⟨_,List.getElem?_eq_getElem hjl⟩
  have hgx:=qfb hx
  simp only [shV] at hgx
  have hpu:=qnH hkw x
  rw [show p.shs.take j++[x]=p.shs.take (j+1) from by rw [List.take_succ_eq_append_getElem hjl,(List.getElem?_eq_some_iff.1 hx).2]] at hpu
  simp only [ZZ,WW,Ze,reduceCtorEq,zd,ze,zb,zf,za,hgx,qah]
  ((repeat' (with_reducible apply And.intro))<;>try ((exact sc_)))
  refine qac (p.shs.length - (j+1)) [.p (.sl 4 (pdE l)),oo,oo,.mp (.l 16),oo,oo,oo,oo,oo,oo,oo,oo,oo,oo,oo,oo,oo,.p (.sl 4 (pdE l)),.p (int (l.length:Nat)),.p (int (k:Nat)),oo,oo,oo,oo,oo,oo,oo,oo,oo,oo,oo,oo,oo,oo,oo,oo,oo,oo,oo,oo,oo,oo,oo,oo,oo,oo,oo,oo,oo,oo,oo,oo,oo,oo,oo,oo,oo,oo,oo,oo,oo,oo,oo,oo,oo,oo,oo,.p (.sl 7 (shE p.shs)),.p (int (p.shs.length:Nat)),.p (int ((j+1):Nat)),oo,oo,oo,oo,oo,oo,oo,oo] [(.l 16,.map (mpS kw x.id (.bool true)) 9 4)] (by omega) (by (simp only [ZZ,WW,Ze,reduceCtorEq,zd,ze,zb,zf,za];try trivial)) (by (simp only [ZZ,WW,Ze,reduceCtorEq,zd,ze,zb,zf,za];try trivial)) ⟨j+1,mpS kw x.id (.bool true),by omega,rfl,hpu,rfl,rfl⟩
 intro h4
 have hjl:p.shs.length≤j:=by have:=of_decide_eq_false h4;omega
 rw [List.take_of_length_le hjl] at hkw
 have hkw:=qnJ hkw
 rw [← htk] at hkw
 simp only [ZZ,WW,Ze,reduceCtorEq,zd,ze,zb,zf,za]
 ((repeat' (with_reducible apply And.intro))<;>try ((exact sc_)))
 refine qac (l.length - (k+1)) [.p (.sl 4 (pdE l)),oo,oo,.mp (.l 16),oo,oo,oo,oo,oo,oo,oo,oo,oo,oo,oo,oo,oo,.p (.sl 4 (pdE l)),.p (int (l.length:Nat)),.p (int ((k+1):Nat)),oo,oo,oo,oo,oo,oo,oo,oo,oo,oo,oo,oo,oo,oo,oo,oo,oo,oo,oo,oo,oo,oo,oo,oo,oo,oo,oo,oo,oo,oo,oo,oo,oo,oo,oo,oo,oo,oo,oo,oo,oo,oo,oo,oo,oo,oo,oo,oo,oo,oo,oo,oo,oo,oo,oo,oo,oo,oo] [(.l 16,.map (kw) 9 4)] (by omega) (by (simp only [ZZ,WW,Ze,reduceCtorEq,zd,ze,zb,zf,za];try trivial)) (by (simp only [ZZ,WW,Ze,reduceCtorEq,zd,ze,zb,zf,za];try trivial)) ⟨k+1,kw,by omega,rfl,by rw [hF,hdr],(fun i hi=>by rcases Nat.lt_succ_iff_lt_or_eq.1 hi with hi|rfl;exact hz i hi;exact hA),hkw,rfl,rfl⟩
def qba:IC:=(.seq (.seq (.drg [qM 18 9,qM 19 1,qO 20 (.bin .gtr (.t 18) (.t 19)),qM 21 20,⟨some 22,.mov (.t 3),(some (21,true))⟩,⟨some 23,.mov (.t 0),(some (21,true))⟩,⟨some 24,.mov (.t 9),(some (21,true))⟩,⟨some 25,.ixa 1 (.t 23) (.t 24),(some (21,true))⟩,⟨some 26,.ld 1 false (.t 25),(some (21,true))⟩,⟨some 27,.mov (.t 0),(some (21,true))⟩,⟨some 28,.mov (.t 9),(some (21,true))⟩,⟨some 29,.bin .sub (.t 28) (.c (.int .i64 1)),(some (21,true))⟩,⟨some 30,.ixa 1 (.t 27) (.t 29),(some (21,true))⟩,⟨some 31,.ld 1 false (.t 30),(some (21,true))⟩,⟨some 32,.callv (.t 22) [.t 26,.t 31],(some (21,true))⟩,⟨some 33,.bin .lss (.t 32) (.c (.int .i64 0)),(some (21,true))⟩,qO 34 (.pick (.t 21) (.t 33) (.c (.bool false)))]) (.cond (.t 34) .skip (.exit 2))) (.seq (.block 3 (.drg [qM 37 0,qM 38 9,qM 39 0,qM 40 9,qO 41 (.bin .sub (.t 40) (.c (.int .i64 1))),qM 42 0,qM 43 9,qO 44 (.bin .sub (.t 43) (.c (.int .i64 1))),qO 45 (.ixa 1 (.t 42) (.t 44)),qO 46 (.ld 1 false (.t 45)),qM 47 0,qM 48 9,qO 49 (.ixa 1 (.t 47) (.t 48)),qO 50 (.ld 1 false (.t 49)),qO 51 (.ixa 1 (.t 37) (.t 38)),⟨none,.st 1 (.t 51) (.t 46),none⟩,qO 52 (.ixa 1 (.t 39) (.t 41)),⟨none,.st 1 (.t 52) (.t 50),none⟩])) (.reg [qM 35 9,qO 36 (.bin .sub (.t 35) (.c (.int .i64 1))),qM 9 36])))
def qbb:IC:=(.seq (.seq (.reg [qM 12 8,qM 13 2,qO 14 (.bin .lss (.t 12) (.t 13))]) (.cond (.t 14) .skip (.exit 0))) (.seq (.block 1 (.seq (.reg [qM 17 8,qM 9 17]) (.block 2 (.loop qba)))) (.reg [qM 15 8,qO 16 (.bin .add (.t 15) (.c (.int .i64 1))),qM 8 16])))
def qbt:IC:=(.seq (.reg [qM 10 1,qO 11 (.bin .add (.t 10) (.c (.int .i64 1))),qM 8 11]) (.block 0 (.loop qbb)))
def qbs:List IRes:=[]
theorem qdM:chkF Tryz.prog Tryz.f276 qbt qbs 53=true:=by kernel_rfl
def qbY:IC:=(.block 1 (.seq (.reg [qM 21 2,qM 22 1,qO 23 (.bin .sub (.t 21) (.t 22)),qM 12 23]) (.seq (.seq (.reg [qM 24 12,qO 25 (.bin .leq (.t 24) (.c (.int .i64 12)))]) (.cond (.t 25) (.seq (.reg [qM 26 0,qM 27 1,qM 28 2,qM 29 4,qO 30 (.call 276 [.t 26,.t 27,.t 28,.t 29])]) .ret) .skip)) (.seq (.seq (.reg [qM 31 3,qO 32 (.bin .eql (.t 31) (.c (.int .i64 0)))]) (.cond (.t 32) (.seq (.reg [qM 33 0,qM 34 1,qM 35 2,qM 36 4,qO 37 (.call 277 [.t 33,.t 34,.t 35,.t 36])]) .ret) .skip)) (.seq (.seq (.reg [qM 38 10,qO 39 (.not (.t 38))]) (.cond (.t 39) (.seq (.reg [qM 40 0,qM 41 1,qM 42 2,qM 43 4,qO 44 (.call 278 [.t 40,.t 41,.t 42,.t 43])]) (.reg [qM 45 3,qO 46 (.bin .sub (.t 45) (.c (.int .i64 1))),qM 3 46])) .skip)) (.cut (.seq (.reg [qM 48 0,qM 49 1,qM 50 2,qM 51 4,qO 52 (.call 279 [.t 48,.t 49,.t 50,.t 51]),qM 47 52,qO 53 (.ext 0 (.t 47)),qO 54 (.ext 1 (.t 47)),qM 13 53,qM 14 54]) (.seq (.seq (.reg [qM 55 14,qO 56 (.bin .eql (.t 55) (.c (.int .i64 2)))]) (.cond (.t 56) (.seq (.reg [qM 57 0,qM 58 1,qM 59 2,qM 60 4,qO 61 (.call 280 [.t 57,.t 58,.t 59,.t 60])]) (.seq (.reg [qM 62 2,qO 63 (.bin .sub (.t 62) (.c (.int .i64 1))),qM 64 13,qM 65 1,qO 66 (.bin .sub (.t 64) (.t 65)),qO 67 (.bin .sub (.t 63) (.t 66)),qM 13 67]) (.reg [qO 14 (.mov (.c (.int .i64 1)))]))) .skip)) (.cut (.seq (.seq (.reg [qM 68 10,qM 69 68,⟨some 70,.mov (.t 11),(some (69,true))⟩,qO 71 (.pick (.t 69) (.t 70) (.c (.bool false))),qM 72 71,⟨some 73,.mov (.t 14),(some (72,true))⟩,⟨some 74,.bin .eql (.t 73) (.c (.int .i64 1)),(some (72,true))⟩,qO 75 (.pick (.t 72) (.t 74) (.c (.bool false)))]) (.cond (.t 75) (.seq (.reg [qM 76 0,qM 77 1,qM 78 2,qM 79 4,qO 80 (.call 281 [.t 76,.t 77,.t 78,.t 79])]) (.cond (.t 80) .ret .skip)) .skip)) (.cut (.seq (.seq (.drg [qM 81 1,qO 82 (.bin .gtr (.t 81) (.c (.int .i64 0))),qM 83 82,⟨some 84,.mov (.t 4),(some (83,true))⟩,⟨some 85,.mov (.t 0),(some (83,true))⟩,⟨some 86,.mov (.t 1),(some (83,true))⟩,⟨some 87,.bin .sub (.t 86) (.c (.int .i64 1)),(some (83,true))⟩,⟨some 88,.ixa 1 (.t 85) (.t 87),(some (83,true))⟩,⟨some 89,.ld 1 false (.t 88),(some (83,true))⟩,⟨some 90,.mov (.t 0),(some (83,true))⟩,⟨some 91,.mov (.t 13),(some (83,true))⟩,⟨some 92,.ixa 1 (.t 90) (.t 91),(some (83,true))⟩,⟨some 93,.ld 1 false (.t 92),(some (83,true))⟩,⟨some 94,.callv (.t 84) [.t 89,.t 93],(some (83,true))⟩,⟨some 95,.bin .lss (.t 94) (.c (.int .i64 0)),(some (83,true))⟩,⟨some 96,.not (.t 95),(some (83,true))⟩,qO 97 (.pick (.t 83) (.t 96) (.c (.bool false)))]) (.cond (.t 97) (.seq (.reg [qM 98 0,qM 99 1,qM 100 2,qM 101 13,qM 102 4,qO 103 (.call 282 [.t 98,.t 99,.t 100,.t 101,.t 102]),qM 15 103]) (.seq (.reg [qM 104 15,qM 1 104]) (.exit 1))) .skip)) (.seq (.reg [qM 106 0,qM 107 1,qM 108 2,qM 109 13,qM 110 4,qO 111 (.call 283 [.t 106,.t 107,.t 108,.t 109,.t 110]),qM 105 111,qO 112 (.ext 0 (.t 105)),qO 113 (.ext 1 (.t 105)),qM 16 112,qM 17 113]) (.seq (.reg [qM 114 17,qM 11 114]) (.seq (.reg [qM 115 16,qM 116 1,qO 117 (.bin .sub (.t 115) (.t 116)),qM 118 2,qM 119 16,qO 120 (.bin .sub (.t 118) (.t 119)),qM 18 117,qM 19 120]) (.seq (.reg [qM 121 12,qO 122 (.bin .quo (.t 121) (.c (.int .i64 8))),qM 20 122]) (.seq (.reg [qM 123 18,qM 124 19,qO 125 (.bin .lss (.t 123) (.t 124))]) (.cond (.t 125) (.seq (.reg [qM 126 18,qM 127 20,qO 128 (.bin .geq (.t 126) (.t 127)),qM 10 128]) (.seq (.reg [qM 129 0,qM 130 1,qM 131 16,qM 132 3,qM 133 4,qO 134 (.call 226 [.t 129,.t 130,.t 131,.t 132,.t 133])]) (.reg [qM 135 16,qO 136 (.bin .add (.t 135) (.c (.int .i64 1))),qM 1 136]))) (.seq (.reg [qM 137 19,qM 138 20,qO 139 (.bin .geq (.t 137) (.t 138)),qM 10 139]) (.seq (.reg [qM 140 0,qM 141 16,qO 142 (.bin .add (.t 141) (.c (.int .i64 1))),qM 143 2,qM 144 3,qM 145 4,qO 146 (.call 226 [.t 140,.t 142,.t 143,.t 144,.t 145])]) (.reg [qM 147 16,qM 2 147])))))))))))))))))))))
def qct:IC:=(.seq (.reg [qO 10 (.mov (.c (.bool true)))]) (.seq (.reg [qO 11 (.mov (.c (.bool true)))]) (.block 0 (.loop qbY))))
def qcp:List IRes:=[]
theorem qfA:chkF Tryz.prog Tryz.f226 qct qcp 148=true:=by kernel_rfl
def qcS:IC:=(.seq (.reg [qM 5 0,qO 6 (.len (.t 5)),qM 4 6]) (.reg [qM 7 0,qM 8 4,qM 9 4,qO 10 (.cvi .u64 (.t 9)),qO 11 (.call 171 [.t 10]),qM 12 1,qO 13 (.call 226 [.t 7,.c (.int .i64 0),.t 8,.t 11,.t 12])]))
def qcO:List IRes:=[]
theorem qf6:chkF Tryz.prog Tryz.f166 qcS qcO 14=true:=by kernel_rfl
abbrev qdN:Nat:=3
theorem qk8:∀ (ps:List PV) (L:Objs),Zl L (ps.map .p)=true
 |[],_=>rfl
 |_ :: r,L=>qk8 r L
section
variable {E:Envt}
theorem qmV (x:Int) (h0:0≤x) (h1:x≤18446744073709551615):PCall Tryz.prog E 171 [.int .u64 x] (·=int (Lib.bitLen x.toNat:Nat)):=
 qbW rfl rfl fun w _=>(Any.bits_Len Tryz.layBitsLen x w h0 h1).mono fun e w' h=>⟨h.1,by rw [h.2];exact Grow.refl _ _⟩
theorem qmD {α:Type} (f0:α→Int) (cf:α→α→Int) (hO:OrdP (ltC cf)) (g:FuncId) (ps:List PV) (hg:Unit→fnB Tryz.prog g=true) (l:List α) (hl:l.length≤12) (hc:∀ x∈l,∀ y∈l,PCall Tryz.prog E g (int (f0 x) :: int (f0 y) :: ps) (·=int (cf x y)))
  (hn:∀ x y,Zbh [] (.p (int (f0 x)) :: .p (int (f0 y)) :: ps.map .p)=some (int (f0 x) :: int (f0 y) :: ps)) (hr:∀ x y,Zbj (.p (int (f0 x)) :: .p (int (f0 y)) :: ps.map .p)=true):RCall Tryz.prog E 276 qdN 1 (l.map (fun x=>([int (f0 x)]:List PV))) [int 0,int (l.length:Nat),.clo g ps] (fun x es'=>x=.tup []∧∃ l':List α,es'=l'.map (fun x=>([int (f0 x)]:List PV))∧l'.Perm l∧SrtP (ltC cf) l'):=by
 unfold RCall
 refine qf4 mixed Tryz.func276 qdM ?_
 simp only [a0,l0,OS.ao,zj,zo,zi,zn,zl,zm,zp,zd,zh,zk,List.length_map,qbt,qbs,ZZ,WW,Ze,reduceCtorEq,zd,ze,zb,zf,za]
 ((repeat' (with_reducible apply And.intro))<;>try ((exact sc_)))
 rw [show l.map (fun x=>([int (f0 x)]:List PV))=(l.take 1++l.drop 1).map (fun x=>([int (f0 x)]:List PV)) from by rw [List.take_append_drop]]
 refine qad (fun n fr L=>∃ (i:Nat) (P:List α) (C:List α),l.length - i=n∧(1≤i)∧(P.length=i∨l.length=0)∧((P++C).Perm l)∧(SrtP (ltC cf) P)∧fr=[.row (.b 0),.p (int 0),.p (int (l.length:Nat)),.p (.clo g ps),oo,oo,oo,oo,.p (int (i:Nat)),oo,oo,oo,oo,oo,oo,oo,oo,oo,oo,oo,oo,oo,oo,oo,oo,oo,oo,oo,oo,oo,oo,oo,oo,oo,oo,oo,oo,oo,oo,oo,oo,oo,oo,oo,oo,oo,oo,oo,oo,oo,oo,oo,oo]∧L=[(.b 0,.row ((P++C).map (fun x=>([int (f0 x)]:List PV))) qdN 1 true)]) (l.length - 1) [.row (.b 0),.p (int 0),.p (int (l.length:Nat)),.p (.clo g ps),oo,oo,oo,oo,.p (int (1:Nat)),oo,oo,oo,oo,oo,oo,oo,oo,oo,oo,oo,oo,oo,oo,oo,oo,oo,oo,oo,oo,oo,oo,oo,oo,oo,oo,oo,oo,oo,oo,oo,oo,oo,oo,oo,oo,oo,oo,oo,oo,oo,oo,oo,oo] [(.b 0,.row (((l.take 1)++(l.drop 1)).map (fun x=>([int (f0 x)]:List PV))) qdN 1 true)] (by (simp only [ZZ,WW,Ze,reduceCtorEq,zd,ze,zb,zf,za];try trivial)) (by (simp only [ZZ,WW,Ze,reduceCtorEq,zd,ze,zb,zf,za];try trivial)) ⟨1,l.take 1,l.drop 1,rfl,by omega,by rw [List.length_take];omega,by rw [List.take_append_drop],by cases l with|nil=>exact List.Pairwise.nil|cons x r=>simp [SrtP],rfl,rfl⟩ ?_
 rintro n fr L ⟨i,P,C,rfl,hi,hP,hp,hs,rfl,rfl⟩
 simp only [qbb,ZZ,WW,Ze,reduceCtorEq,zd,ze,zb,zf,za]
 have hpl:P.length+C.length=l.length:=by rw [← List.length_append,hp.length_eq]
 refine br ?_ ?_
 rotate_left
 ·intro h
  have hge:l.length≤i:=by have:=of_decide_eq_false h;omega
  have hC:C=[]:=List.eq_nil_of_length_eq_zero (by omega)
  subst hC
  rw [List.append_nil] at hp ⊢
  simp only [ZZ,WW,Ze,reduceCtorEq,zd,ze,zb,zf,za]
  exact qjJ _ rfl ⟨rfl,P,rfl,hp,hs⟩
 intro h
 have hlt:i < l.length:=by have:=of_decide_eq_true h;omega
 have hP:P.length=i:=by omega
 obtain ⟨x,R,rfl⟩:∃ x R,C=x :: R:=by
  cases C with
  |nil=>simp at hpl;omega
  |cons x R=>exact ⟨x,R,rfl⟩
 have hxl:x∈l:=hp.mem_iff.1 (by simp)
 simp only [ZZ,WW,Ze,reduceCtorEq,zd,ze,zb,zf,za]
 refine qad (fun n fr L=>∃ (j:Nat) (A:List α) (B:List α),j=n∧(A.length=j)∧(j+B.length=i)∧(SrtP (ltC cf) (A++B))∧(∀ b∈B,ltC cf x b=true)∧((A++x :: (B++R)).Perm l)∧fr=[.row (.b 0),.p (int 0),.p (int (l.length:Nat)),.p (.clo g ps),oo,oo,oo,oo,.p (int (i:Nat)),.p (int (j:Nat)),oo,oo,oo,oo,oo,oo,oo,oo,oo,oo,oo,oo,oo,oo,oo,oo,oo,oo,oo,oo,oo,oo,oo,oo,oo,oo,oo,oo,oo,oo,oo,oo,oo,oo,oo,oo,oo,oo,oo,oo,oo,oo,oo]∧L=[(.b 0,.row ((A++x :: (B++R)).map (fun x=>([int (f0 x)]:List PV))) qdN 1 true)]) (i) [.row (.b 0),.p (int 0),.p (int (l.length:Nat)),.p (.clo g ps),oo,oo,oo,oo,.p (int (i:Nat)),.p (int (i:Nat)),oo,oo,oo,oo,oo,oo,oo,oo,oo,oo,oo,oo,oo,oo,oo,oo,oo,oo,oo,oo,oo,oo,oo,oo,oo,oo,oo,oo,oo,oo,oo,oo,oo,oo,oo,oo,oo,oo,oo,oo,oo,oo,oo] [(.b 0,.row ((P++x :: ([]++R)).map (fun x=>([int (f0 x)]:List PV))) qdN 1 true)] (by (simp only [ZZ,WW,Ze,reduceCtorEq,zd,ze,zb,zf,za];try trivial)) (by (simp only [ZZ,WW,Ze,reduceCtorEq,zd,ze,zb,zf,za];try trivial)) ⟨i,P,[],rfl,hP,by simp,by rw [List.append_nil];exact hs,(fun b hb=>by cases hb),hp,rfl,rfl⟩ ?_
 rintro n fr L ⟨j,A,B,rfl,hj,hji,hsb,hb,hpb,rfl,rfl⟩
 simp only [qba,ZZ,WW,Ze,reduceCtorEq,zd,ze,zb,zf,za]
 have hWl:((A++x :: (B++R)).map (fun x=>([int (f0 x)]:List PV))).length=l.length:=by rw [List.length_map,hpb.length_eq]
 rcases List.eq_nil_or_concat A with rfl|⟨A',y,hAy⟩
 ·simp only [zn] at hj
  subst hj
  generalize hW:(([]:List α)++x :: (B++R)).map (fun x=>([int (f0 x)]:List PV))=W at *
  refine drg0 ?_
  have z00:decide ((0:Int) < ((0:Nat):Int))=false:=rfl
  simp only [ZZ,WW,Ze,reduceCtorEq,zd,ze,zb,zf,za,hWl,z00,Bool.false_eq_true,false_implies,hg ()]
  refine ⟨qk8 _ _,qlU (fun h=>by cases h) (fun _=>?_)⟩
  simp only [ZZ,WW,Ze,reduceCtorEq,zd,ze,zb,zf,za]
  ((repeat' (with_reducible apply And.intro))<;>try ((exact sc_)))
  rw [← hW]
  have hfin:SrtP (ltC cf) (([]:List α)++x :: B):=qkm hO hsb hb (.inl rfl)
  refine qac (l.length - (i+1)) [.row (.b 0),.p (int 0),.p (int (l.length:Nat)),.p (.clo g ps),oo,oo,oo,oo,.p (int ((i+1):Nat)),oo,oo,oo,oo,oo,oo,oo,oo,oo,oo,oo,oo,oo,oo,oo,oo,oo,oo,oo,oo,oo,oo,oo,oo,oo,oo,oo,oo,oo,oo,oo,oo,oo,oo,oo,oo,oo,oo,oo,oo,oo,oo,oo,oo] [(.b 0,.row (((x :: B)++(R)).map (fun x=>([int (f0 x)]:List PV))) qdN 1 true)] (by omega) (by (simp only [ZZ,WW,Ze,reduceCtorEq,zd,ze,zb,zf,za];try trivial)) (by (simp only [ZZ,WW,Ze,reduceCtorEq,zd,ze,zb,zf,za];try trivial)) ⟨i+1,x :: B,R,rfl,by omega,.inl (by simp;omega),by simpa using hpb,hfin,rfl,rfl⟩
 ·obtain rfl:A=A'++[y]:=by rw [hAy];simp
  obtain ⟨q,rfl⟩:∃ q,j=q+1:=⟨A'.length,by rw [← hj];simp⟩
  have hq:A'.length=q:=by simpa using hj
  have hrow:(A'++[y])++x :: (B++R)=A'++y :: x :: (B++R):=by simp
  have hyl:y∈l:=hpb.mem_iff.1 (by simp)
  have e1:(((q+1:Nat):Int) - 1)=(q:Nat):=by omega
  have z0:decide ((0:Int) < ((q+1:Nat):Int))=true:=by rw [decide_eq_true_eq];omega
  rw [hrow] at hWl hpb ⊢
  obtain ⟨g1,g0⟩:=qpp (fun x=>([int (f0 x)]:List PV)) A' (B++R) x y []
  have s1:=qpo (fun x=>([int (f0 x)]:List PV)) A' (B++R) x y
  rw [hq] at g1 g0 s1
  try simp only at g1 g0 s1
  generalize hW:(A'++y :: x :: (B++R)).map (fun x=>([int (f0 x)]:List PV))=W at *
  refine drg0 ?_
  simp only [ZZ,WW,Ze,reduceCtorEq,zd,ze,zb,zf,za,hWl,e1,z0,g1,g0,hg ()]
  refine ⟨⟨by omega,by omega⟩,by omega,qar (by omega) (by omega),⟨by omega,by omega⟩,by omega,qk8 _ _,?_⟩
  refine useG (fun _=>hc x hxl y hyl) ((qjt (hr x y) (L':=[])).trans (hn x y)) (.inl (hr x y)) ?_
  simp only [ZZ,WW,Ze,reduceCtorEq,zd,ze,zb,zf,za]
  refine br ?_ ?_
  ·intro hlt2
   have hxy:ltC cf x y=true:=hlt2
   obtain ⟨n1,n2⟩:=qpO hsb hb hxy
   refine drg0 ?_
   have g2:(W.set (q+1) [int (f0 y)]).getD q []=[int (f0 y)]:=by
    rw [zt,List.getElem?_set_ne (by omega)]
    exact g0
   simp only [ZZ,WW,Ze,reduceCtorEq,zd,ze,zb,zf,za,hWl,e1,g1,g0,g2,s1,List.length_set,qlX]
   ((repeat' (with_reducible apply And.intro))<;>try ((exact sc_)))
   refine qac ((q)) [.row (.b 0),.p (int 0),.p (int (l.length:Nat)),.p (.clo g ps),oo,oo,oo,oo,.p (int (i:Nat)),.p (int ((q):Nat)),oo,oo,oo,oo,oo,oo,oo,oo,oo,oo,oo,oo,oo,oo,oo,oo,oo,oo,oo,oo,oo,oo,oo,oo,oo,oo,oo,oo,oo,oo,oo,oo,oo,oo,oo,oo,oo,oo,oo,oo,oo,oo,oo] [(.b 0,.row (((A')++x :: ((y :: B)++R)).map (fun x=>([int (f0 x)]:List PV))) qdN 1 true)] (by omega) (by (simp only [ZZ,WW,Ze,reduceCtorEq,zd,ze,zb,zf,za];try trivial)) (by (simp only [ZZ,WW,Ze,reduceCtorEq,zd,ze,zb,zf,za];try trivial)) ⟨q,A',y :: B,rfl,hq,by simp;omega,n1,n2,by simpa using (List.Perm.append_left A' (List.Perm.swap y x (B++R))).trans hpb,rfl,rfl⟩
  ·intro hlt2
   have hxy:ltC cf x y=false:=hlt2
   simp only [ZZ,WW,Ze,reduceCtorEq,zd,ze,zb,zf,za]
   ((repeat' (with_reducible apply And.intro))<;>try ((exact sc_)))
   rw [← hW]
   have hfin:SrtP (ltC cf) ((A'++[y])++x :: B):=qkm hO hsb hb (.inr ⟨A',y,rfl,hxy⟩)
   have hrow2:A'++y :: x :: (B++R)=((A'++[y])++x :: B)++R:=by simp
   rw [hrow2] at hpb ⊢
   refine qac (l.length - (i+1)) [.row (.b 0),.p (int 0),.p (int (l.length:Nat)),.p (.clo g ps),oo,oo,oo,oo,.p (int ((i+1):Nat)),oo,oo,oo,oo,oo,oo,oo,oo,oo,oo,oo,oo,oo,oo,oo,oo,oo,oo,oo,oo,oo,oo,oo,oo,oo,oo,oo,oo,oo,oo,oo,oo,oo,oo,oo,oo,oo,oo,oo,oo,oo,oo,oo,oo] [(.b 0,.row ((((A'++[y])++x :: B)++(R)).map (fun x=>([int (f0 x)]:List PV))) qdN 1 true)] (by omega) (by (simp only [ZZ,WW,Ze,reduceCtorEq,zd,ze,zb,zf,za];try trivial)) (by (simp only [ZZ,WW,Ze,reduceCtorEq,zd,ze,zb,zf,za];try trivial)) ⟨i+1,(A'++[y])++x :: B,R,rfl,by omega,.inl (by simp;omega),hpb,hfin,rfl,rfl⟩
theorem qrx {α:Type} (f0:α→Int) (cf:α→α→Int) (hO:OrdP (ltC cf)) (g:FuncId) (ps:List PV) (hg:Unit→fnB Tryz.prog g=true) (l:List α) (hl:l.length≤12) (hc:∀ x∈l,∀ y∈l,PCall Tryz.prog E g (int (f0 x) :: int (f0 y) :: ps) (·=int (cf x y)))
  (hn:∀ x y,Zbh [] (.p (int (f0 x)) :: .p (int (f0 y)) :: ps.map .p)=some (int (f0 x) :: int (f0 y) :: ps)) (hr:∀ x y,Zbj (.p (int (f0 x)) :: .p (int (f0 y)) :: ps.map .p)=true) (lim:Nat):RCall Tryz.prog E 226 qdN 1 (l.map (fun x=>([int (f0 x)]:List PV))) [int 0,int (l.length:Nat),int (lim:Nat),.clo g ps] (fun x es'=>x=.tup []∧∃ l':List α,es'=l'.map (fun x=>([int (f0 x)]:List PV))∧l'.Perm l∧SrtP (ltC cf) l'):=by
 unfold RCall
 refine qf4 mixed Tryz.func226 qfA ?_
 simp only [a0,l0,OS.ao,zj,zo,zi,zn,zl,zm,zp,zd,zh,zk,List.length_map,qct,qcp,ZZ,WW,Ze,reduceCtorEq,zd,ze,zb,zf,za]
 refine qad (fun n fr L=>(0:Nat)=n∧fr=[.row (.b 0),.p (int 0),.p (int (l.length:Nat)),.p (int (lim:Nat)),.p (.clo g ps),oo,oo,oo,oo,oo,.p (.bool true),.p (.bool true),oo,oo,oo,oo,oo,oo,oo,oo,oo,oo,oo,oo,oo,oo,oo,oo,oo,oo,oo,oo,oo,oo,oo,oo,oo,oo,oo,oo,oo,oo,oo,oo,oo,oo,oo,oo,oo,oo,oo,oo,oo,oo,oo,oo,oo,oo,oo,oo,oo,oo,oo,oo,oo,oo,oo,oo,oo,oo,oo,oo,oo,oo,oo,oo,oo,oo,oo,oo,oo,oo,oo,oo,oo,oo,oo,oo,oo,oo,oo,oo,oo,oo,oo,oo,oo,oo,oo,oo,oo,oo,oo,oo,oo,oo,oo,oo,oo,oo,oo,oo,oo,oo,oo,oo,oo,oo,oo,oo,oo,oo,oo,oo,oo,oo,oo,oo,oo,oo,oo,oo,oo,oo,oo,oo,oo,oo,oo,oo,oo,oo,oo,oo,oo,oo,oo,oo]∧L=[(.b 0,.row (l.map (fun x=>([int (f0 x)]:List PV))) qdN 1 true)]) ((0:Nat)) [.row (.b 0),.p (int 0),.p (int (l.length:Nat)),.p (int (lim:Nat)),.p (.clo g ps),oo,oo,oo,oo,oo,.p (.bool true),.p (.bool true),oo,oo,oo,oo,oo,oo,oo,oo,oo,oo,oo,oo,oo,oo,oo,oo,oo,oo,oo,oo,oo,oo,oo,oo,oo,oo,oo,oo,oo,oo,oo,oo,oo,oo,oo,oo,oo,oo,oo,oo,oo,oo,oo,oo,oo,oo,oo,oo,oo,oo,oo,oo,oo,oo,oo,oo,oo,oo,oo,oo,oo,oo,oo,oo,oo,oo,oo,oo,oo,oo,oo,oo,oo,oo,oo,oo,oo,oo,oo,oo,oo,oo,oo,oo,oo,oo,oo,oo,oo,oo,oo,oo,oo,oo,oo,oo,oo,oo,oo,oo,oo,oo,oo,oo,oo,oo,oo,oo,oo,oo,oo,oo,oo,oo,oo,oo,oo,oo,oo,oo,oo,oo,oo,oo,oo,oo,oo,oo,oo,oo,oo,oo,oo,oo,oo,oo] [(.b 0,.row (l.map (fun x=>([int (f0 x)]:List PV))) qdN 1 true)] (by (simp only [ZZ,WW,Ze,reduceCtorEq,zd,ze,zb,zf,za];try trivial)) (by (simp only [ZZ,WW,Ze,reduceCtorEq,zd,ze,zb,zf,za];try trivial)) ⟨rfl,rfl,rfl⟩ ?_
 rintro n fr L ⟨rfl,rfl,rfl⟩
 simp only [qbY,ZZ,WW,Ze,reduceCtorEq,zd,ze,zb,zf,za]
 have h12:decide ((l.length:Int)≤12)=true:=by rw [decide_eq_true_eq];omega
 simp only [ZZ,WW,Ze,reduceCtorEq,zd,ze,zb,zf,za,h12,Int.sub_zero]
 refine ⟨qar (by omega) (by omega),?_⟩
 refine useR (qmD f0 cf hO g ps hg l hl hc hn hr) rfl rfl rfl zE_ ?_
 rintro x es ⟨rfl,l',rfl,hp,hs⟩
 simp only [ZZ,WW,Ze,reduceCtorEq,zd,ze,zb,zf,za]
 exact qjJ _ rfl ⟨rfl,l',rfl,hp,hs⟩
theorem qpa {α:Type} (f0:α→Int) (cf:α→α→Int) (hO:OrdP (ltC cf)) (g:FuncId) (ps:List PV) (hg:Unit→fnB Tryz.prog g=true) (l:List α) (hl:l.length≤12) (hc:∀ x∈l,∀ y∈l,PCall Tryz.prog E g (int (f0 x) :: int (f0 y) :: ps) (·=int (cf x y)))
  (hn:∀ x y,Zbh [] (.p (int (f0 x)) :: .p (int (f0 y)) :: ps.map .p)=some (int (f0 x) :: int (f0 y) :: ps)) (hr:∀ x y,Zbj (.p (int (f0 x)) :: .p (int (f0 y)) :: ps.map .p)=true):RCall Tryz.prog E 166 qdN 1 (l.map (fun x=>([int (f0 x)]:List PV))) [.clo g ps] (fun x es'=>x=.tup []∧∃ l':List α,es'=l'.map (fun x=>([int (f0 x)]:List PV))∧l'.Perm l∧SrtP (ltC cf) l'):=by
 have wr:IntKind.u64.wrap (l.length:Int)=l.length:=by simp [IntKind.wrap,IntKind.bits,IntKind.signed];omega
 unfold RCall
 refine qf4 mixed Tryz.func166 qf6 ?_
 simp only [a0,l0,OS.ao,zj,zo,zi,zn,zl,zm,zp,zd,zh,zk,List.length_map,qcS,qcO,ZZ,WW,Ze,reduceCtorEq,zd,ze,zb,zf,za]
 rw [wr]
 refine use1 (qmV (l.length:Nat) (by omega) (by omega)) rfl (.inl rfl) ?_
 generalize Lib.bitLen _=lim
 simp only [ZZ,WW,Ze,reduceCtorEq,zd,ze,zb,zf,za]
 refine useR (qrx f0 cf hO g ps hg l hl hc hn hr lim) rfl rfl rfl zE_ ?_
 rintro x es ⟨rfl,l',rfl,hp,hs⟩
 simp only [ZZ,WW,Ze,reduceCtorEq,zd,ze,zb,zf,za]
 exact qjJ _ rfl ⟨rfl,l',rfl,hp,hs⟩
end
def qcX:IC:=(.seq (.reg [qO 30 (.bin .lss (.t 29) (.t 28))]) (.seq (.cond (.t 30) .skip (.exit 2)) (.seq (.block 3 (.seq (.reg [qO 31 (.ixa 1 (.t 27) (.t 29)),qO 32 (.ld 1 false (.t 31)),qM 8 32]) (.seq (.seq (.reg [qO 33 (.ld 1 false (.t 1)),qM 34 8,qO 35 (.ixa 7 (.t 33) (.t 34)),qO 36 (.fla 5 (.t 35)),qO 37 (.ld 1 false (.t 36)),qO 38 (.bin .eql (.t 37) (.c (.str [])))]) (.cond (.t 38) (.reg [qM 39 6,qO 40 (.ld 1 false (.t 1)),qM 41 8,qO 42 (.ixa 7 (.t 40) (.t 41)),qO 43 (.fla 0 (.t 42)),qO 44 (.ld 1 false (.t 43)),qO 45 (.bldg [.str [],.nl 1] [(0,1,.t 44)]),qO 46 (.bsr 119 2 [.t 45]),qO 47 (.app 119 2 40 (.t 39) (.t 46)),qM 6 47]) .skip)) (.cut (.seq (.reg [qM 48 6,qM 49 6,qO 50 (.len (.t 49)),qO 51 (.bin .sub (.t 50) (.c (.int .i64 1))),qO 52 (.ixa 2 (.t 48) (.t 51)),qM 9 52]) (.drp [1,2,3,4,5,6,7,8,9,10,11,0,12,13,14] [qM 54 9,qO 55 (.nck (.t 54)),qO 56 (.fla 1 (.t 55)),qO 57 (.ld 1 false (.t 56)),qO 58 (.ld 1 false (.t 1)),qM 59 8,qO 60 (.ixa 7 (.t 58) (.t 59)),qO 61 (.fla 0 (.t 60)),qO 62 (.ld 1 false (.t 61)),qO 63 (.bsl 1 [.t 62]),qO 64 (.app 9 1 16 (.t 57) (.t 63)),qM 53 9,qO 65 (.nck (.t 53)),qO 66 (.fla 1 (.t 65)),⟨none,.st 1 (.t 66) (.t 64),none⟩])))))) (.reg [qO 67 (.bin .add (.t 29) (.c (.int .i64 1))),qM 29 67]))))
def qcY:IC:=(.seq (.reg [qO 17 (.bin .lss (.t 16) (.t 15))]) (.seq (.cond (.t 17) .skip (.exit 0)) (.seq (.block 1 (.seq (.reg [qM 18 16,qM 5 18]) (.reg [qM 19 4,qM 20 5,qM 21 5,qO 22 (.ixa 1 (.t 19) (.t 20)),⟨none,.st 1 (.t 22) (.t 21),none⟩]))) (.reg [qO 23 (.bin .add (.t 16) (.c (.int .i64 1))),qM 16 23]))))
def qd2:IC:=(.seq (.reg [qO 1 (.box 30 (.t 0)),qO 2 (.mov (.c (.nl 2))),⟨none,.re,none⟩]) (.seq (.reg [qO 10 (.mkf 164 [.t 1]),qO 3 (.alc 190 [.raw .nilFunc]),⟨none,.st 1 (.t 3) (.t 10),none⟩]) (.seq (.reg [qO 11 (.ld 1 false (.t 1)),⟨none,.re,none⟩,qO 12 (.len (.t 11)),qO 13 (.mks 3 1 8 [.int .i64 0] (.t 12) (.t 12)),qM 4 13]) (.seq (.seq (.reg [qM 14 4,qO 15 (.len (.t 14)),qO 16 (.mov (.c (.int .i64 0)))]) (.block 0 (.loop qcY))) (.seq (.reg [qM 24 4,qO 25 (.mkf 167 [.t 3]),qO 26 (.call 166 [.t 24,.t 25])]) (.seq (.reg [qO 6 (.nilr 119 2)]) (.seq (.seq (.reg [qM 27 4,qO 28 (.len (.t 27)),qO 29 (.mov (.c (.int .i64 0)))]) (.block 2 (.loop qcX))) (.seq (.reg [qM 68 6,qM 2 68,⟨none,.re,none⟩]) .ret))))))))
def qdS:List IRes:=[.t 2]
theorem qg8:chkF Tryz.prog Tryz.f83 qd2 qdS 69=true:=by kernel_rfl
def qcw:IC:=(.seq (.reg [qO 24 (.bin .lss (.t 23) (.t 22))]) (.seq (.cond (.t 24) .skip (.exit 0)) (.seq (.block 1 (.seq (.reg [qO 25 (.ixa 1 (.t 21) (.t 23)),qO 26 (.ld 1 false (.t 25)),qM 8 26]) (.reg [qO 27 (.ld 1 false (.t 1)),qM 28 8,qO 29 (.ixa 7 (.t 27) (.t 28)),qO 30 (.fla 0 (.t 29)),qO 31 (.ld 1 false (.t 30)),qO 32 (.bsr 9 1 [.t 31]),qM 33 6,qO 34 (.app 9 1 16 (.t 32) (.t 33)),⟨none,.re,none⟩,qM 6 34]))) (.reg [qO 35 (.bin .add (.t 23) (.c (.int .i64 1))),qM 23 35]))))
def qdm:IC:=(.seq (.reg [qO 3 (.mov (.c (.nl 1)))]) (.seq (.reg [qO 10 (.ld 1 false (.t 1)),qM 11 0,qO 12 (.call 165 [.t 10,.t 11]),qM 9 12,qO 13 (.ext 0 (.t 9)),qO 14 (.ext 1 (.t 9)),qM 4 13,qM 5 14]) (.seq (.reg [qO 15 (.ld 1 false (.t 1)),qM 16 0,qO 17 (.ixa 7 (.t 15) (.t 16)),qO 18 (.fla 0 (.t 17)),qO 19 (.ld 1 false (.t 18)),qO 20 (.bsl 1 [.t 19]),qM 6 20]) (.seq (.seq (.reg [qM 21 4,qO 22 (.len (.t 21)),qO 23 (.mov (.c (.int .i64 0)))]) (.block 0 (.loop qcw))) (.seq (.reg [qM 36 6,qM 3 36]) .ret)))))
def qdb:List IRes:=[.t 3]
theorem qgx:chkF Tryz.prog Tryz.f164 qdm qdb 37=true:=by kernel_rfl
def qdl:IC:=(.seq (.reg [qO 5 (.mov (.c (.int .i64 0)))]) (.seq (.drg [qO 6 (.ld 1 false (.t 2)),qM 7 0,qO 8 (.pcv 0 (.t 6) [.t 7]),qO 9 (.ld 1 false (.t 2)),qM 10 1,qO 11 (.pcv 1 (.t 9) [.t 10]),qO 12 (.pcall 2 168 [.t 8,.t 11]),qM 5 12]) .ret))
def qda:List IRes:=[.t 5]
theorem qgw:chkF Tryz.prog Tryz.f167 qdl qda 13=true:=by kernel_rfl
def wayF (il:List Itm) (i:Nat):List (List UInt8):=((upF il (atI il i)).map fun v=>(atI il v.toNat).1).reverse++[(atI il i).1]
theorem qxc {il:List Itm} (hP:qbE il) {i:Nat} (hi:i < il.length):∀ v∈upF il (atI il i),∃ j:Nat,v=(j:Nat)∧j < il.length:=by
 intro v hv
 obtain ⟨h20,h1|⟨j,hj,h1,h2⟩⟩:=qkh hP hi
 ·unfold upOf at h1
  rw [upF,if_pos h1] at hv
  cases hv
 ·unfold upOf at h1
  rw [upF,if_neg (by rw [h1];exact qlB j),h1] at hv
  obtain ⟨y,hy⟩:∃ y,il[j]?=some y:=⟨_,List.getElem?_eq_getElem (by omega)⟩
  rw [qiC hP hy,List.mem_singleton] at hv
  exact ⟨j,hv,by omega⟩
theorem qqQ (il:List Itm) (x:Itm):(upF il x).length≤1:=by
 unfold upF
 split<;>simp
theorem qpk {il:List Itm} (hP:qbE il) {i:Nat} (hi:i < il.length):i < 20∧((wayF il i=[pid i]∧kyF il i=100 * i)∨∃ j,j < i∧wayF il i=[pid j,pid i]∧kyF il i=100 * j+(i+1)):=by
 obtain ⟨h20,h1|⟨j,hj,h1,h2⟩⟩:=qkh hP hi
 ·refine ⟨h20,.inl ⟨?_,by rw [kyF,if_pos h1]⟩⟩
  unfold upOf at h1
  rw [wayF,upF,if_pos h1,qtK hP hi]
  rfl
 ·refine ⟨h20,.inr ⟨j,hj,?_,?_⟩⟩
  ·have h1':=h1
   unfold upOf at h1'
   obtain ⟨y,hy⟩:∃ y,il[j]?=some y:=⟨_,List.getElem?_eq_getElem (by omega)⟩
   rw [wayF,upF,if_neg (by rw [h1'];exact qlB j),h1',qiC hP hy,qtK hP hi]
   simp only [zj,zo,Int.toNat_natCast]
   rw [qtK hP (by omega)]
   rfl
  ·have:=qoR ⟨j,by omega⟩
   simp only at this
   rw [kyF,if_neg (by rw [h1];exact qlB j),h1,this]
theorem qyh:∀ a b:Fin 20,Lib.compareBytes (pid a.val) (pid b.val)=if a.val < b.val then -1 else if a.val=b.val then 0 else 1:=by decide +kernel
theorem qwS {a b:Nat} (ha:a < 20) (hb:b < 20):Lib.compareBytes (pid a) (pid b)=if a < b then -1 else if a=b then 0 else 1:=qyh ⟨a,ha⟩ ⟨b,hb⟩
theorem qxa {il:List Itm} (hP:qbE il) {i j:Nat} (hi:i < il.length) (hj:j < il.length):lexC (wayF il i) (wayF il j) < 0↔kyF il i < kyF il j:=by
 obtain ⟨i20,hi2⟩:=qpk hP hi
 obtain ⟨j20,hj2⟩:=qpk hP hj
 rcases hi2 with ⟨w1,k1⟩|⟨a,ha,w1,k1⟩<;>rcases hj2 with ⟨w2,k2⟩|⟨b,hb,w2,k2⟩<;>rw [w1,w2,k1,k2]<;>simp only [lexC]<;>(repeat rw [qwS (by omega) (by omega)])<;>repeat' split
 all_goals omega
def cfW (il:List Itm) (i j:Nat):Int:=if i < il.length∧j < il.length then lexC (wayF il i) (wayF il j) else (kyF il i:Int) - kyF il j
theorem quW {il:List Itm} (hP:qbE il):ltC (cfW il)=fun i j=>decide (kyF il i < kyF il j):=by
 funext i j
 unfold ltC cfW
 rw [decide_eq_decide]
 split
 ·rename_i h
  exact qxa hP h.1 h.2
 ·omega
theorem qwQ {il:List Itm} (hP:qbE il):OrdP (ltC (cfW il)):=by
 rw [quW hP]
 constructor
 ·intro x y h
  simp only [decide_eq_true_eq,decide_eq_false_iff_not] at *
  omega
 ·intro x y z h1 h2
  simp only [decide_eq_false_iff_not] at *
  omega
theorem qwP {il:List Itm} (hP:qbE il) {o:List Nat} (hp:o.Perm (List.range il.length)) (hs:SrtP (ltC (cfW il)) o):o=ordX il:=by
 refine qto hP hp ?_
 unfold SrtP at hs
 rw [quW hP] at hs
 refine hs.imp fun h=>?_
 simp only [decide_eq_false_iff_not] at h
 omega
section
variable {E:Envt}
theorem quF (il:List Itm) (hP:qbE il) (i:Nat) (hi:i < il.length):PCall Tryz.prog E 164 [int (i:Nat),.ptr [.sl 7 (itE il)]] (·=.sl 1 (strE (wayF il i))):=by
 have h20:=hP.1
 obtain ⟨x,hx⟩:∃ x,il[i]?=some x:=⟨_,List.getElem?_eq_getElem hi⟩
 have hg:=qdY hx
 have ha:=qlQ hx
 have hu:=qxc hP hi
 have hul:=qqQ il x
 have hw:wayF il i=((upF il x).map fun v=>(atI il v.toNat).1).reverse++[x.1]:=by rw [wayF,ha]
 rw [ha] at hu
 rw [hw]
 simp only [itC] at hg
 refine qag mixed Tryz.func164 qgx ?_
 simp only [a0,l0,OS.ao,zj,zo,zi,zn,zl,zm,zp,zd,zh,zk,qdm,qdb,ZZ,WW,Ze,reduceCtorEq,zd,ze,zb,zf,za]
 refine use1 (qh7 il hP i x hx) rfl (.inl rfl) ?_
 generalize upF il x=u at *
 simp only [ZZ,WW,Ze,reduceCtorEq,zd,ze,zb,zf,za,hg,qan,qg1]
 ((repeat' (with_reducible apply And.intro))<;>try ((exact sc_)))
 refine qad (fun n fr L=>∃ (k:Nat) (w:List (List UInt8)),k≤u.length∧n=u.length - k∧(w=((u.take k).map fun v=>(atI il v.toNat).1).reverse++[x.1])∧fr=[.p (int (i:Nat)),.p (.ptr [.sl 7 (itE il)]),oo,oo,oo,oo,.p (.sl 1 (strE w)),oo,oo,oo,oo,oo,oo,oo,oo,oo,oo,oo,oo,oo,oo,.p (.sl 1 (ixE u)),.p (int (u.length:Nat)),.p (int (k:Nat)),oo,oo,oo,oo,oo,oo,oo,oo,oo,oo,oo,oo,oo]∧L=[]) (u.length) [.p (int (i:Nat)),.p (.ptr [.sl 7 (itE il)]),oo,oo,oo,oo,.p (.sl 1 (strE ([x.1]))),oo,oo,oo,oo,oo,oo,oo,oo,oo,oo,oo,oo,oo,oo,.p (.sl 1 (ixE u)),.p (int (u.length:Nat)),.p (int (0:Nat)),oo,oo,oo,oo,oo,oo,oo,oo,oo,oo,oo,oo,oo] [] (by simp only [ZZ,WW,Ze,reduceCtorEq,zd,ze,zb,zf,za,qg1];try trivial) (by (simp only [ZZ,WW,Ze,reduceCtorEq,zd,ze,zb,zf,za];try trivial)) ⟨0,[x.1],by omega,by omega,rfl,rfl,rfl⟩ ?_
 rintro n fr L ⟨k,w,hk,rfl,hwk,rfl,rfl⟩
 simp only [qcw,ZZ,WW,Ze,reduceCtorEq,zd,ze,zb,zf,za]
 refine br ?_ ?_
 ·intro h
  have hlt:k < u.length:=by have:=of_decide_eq_true h;omega
  obtain ⟨v,hv⟩:∃ v,u[k]?=some v:=⟨_,List.getElem?_eq_getElem hlt⟩
  have hgu:=qrV hv
  obtain ⟨j,hvj,hjl⟩:=hu v (List.mem_of_getElem? hv)
  obtain ⟨y,hy⟩:∃ y,il[j]?=some y:=⟨_,List.getElem?_eq_getElem hjl⟩
  have hgy:=qdY hy
  simp only [itC] at hgy
  have hwl:w.length≤3:=by rw [hwk];simp only [List.length_append,List.length_reverse,List.length_map,List.length_take,List.length_singleton];omega
  rw [hvj] at hgu
  simp only [ZZ,WW,Ze,reduceCtorEq,zd,ze,zb,zf,za,hgu,hgy,qan,qg1,qal]
  ((repeat' (with_reducible apply And.intro))<;>try ((exact sc_)))
  rw [qa9]
  refine ⟨_,_,qbV (k:=.l 32) rfl,?_⟩
  simp only [ZZ,WW,Ze,reduceCtorEq,zd,ze,zb,zf,za]
  ((repeat' (with_reducible apply And.intro))<;>try ((exact sc_)))
  refine qac (u.length - (k+1)) [.p (int (i:Nat)),.p (.ptr [.sl 7 (itE il)]),oo,oo,oo,oo,.p (.sl 1 (strE (y.1 :: w))),oo,oo,oo,oo,oo,oo,oo,oo,oo,oo,oo,oo,oo,oo,.p (.sl 1 (ixE u)),.p (int (u.length:Nat)),.p (int ((k+1):Nat)),oo,oo,oo,oo,oo,oo,oo,oo,oo,oo,oo,oo,oo] [] (by omega) (by (simp only [ZZ,WW,Ze,reduceCtorEq,zd,ze,zb,zf,za];try trivial)) (by (simp only [ZZ,WW,Ze,reduceCtorEq,zd,ze,zb,zf,za];try trivial)) ⟨k+1,y.1 :: w,by omega,rfl,by rw [hwk,List.take_succ_eq_append_getElem hlt,(List.getElem?_eq_some_iff.1 hv).2,hvj];simp [qlQ hy],rfl,rfl⟩
 intro h
 have hge:u.length≤k:=by have:=of_decide_eq_false h;omega
 rw [List.take_of_length_le hge] at hwk
 simp only [ZZ,WW,Ze,reduceCtorEq,zd,ze,zb,zf,za]
 rw [hwk]
theorem qu2 (il:List Itm) (hP:qbE il) (i j:Nat) (hi:i < il.length) (hj:j < il.length):PCall Tryz.prog E 167 [int (i:Nat),int (j:Nat),.ptr [.clo 164 [.ptr [.sl 7 (itE il)]]]] (·=int (cfW il i j)):=by
 have hc:cfW il i j=lexC (wayF il i) (wayF il j):=by rw [cfW,if_pos ⟨hi,hj⟩]
 rw [hc]
 refine qag mixed Tryz.func167 qgw ?_
 simp only [a0,l0,OS.ao,zj,zo,zi,zn,zl,zm,zp,zd,zh,zk,qdl,qda,ZZ,WW,Ze,reduceCtorEq,zd,ze,zb,zf,za]
 refine ⟨[.sl 1 (strE (wayF il i)),.sl 1 (strE (wayF il j)),int (lexC (wayF il i) (wayF il j))],?_⟩
 simp only [ZZ,WW,Ze,reduceCtorEq,zd,ze,zb,zf,za]
 have wl:∀ i,(wayF il i).length≤2:=fun i=>by
  have:=qqQ il (atI il i)
  simp only [wayF,List.length_append,List.length_reverse,List.length_map,List.length_singleton]
  omega
 have w1:=wl i
 have w2:=wl j
 exact ⟨⟨by kernel_rfl,usep (quF il hP i hi) rfl (.inl rfl)⟩,⟨by kernel_rfl,usep (quF il hP j hj) rfl (.inl rfl)⟩,usep (qod _ _ (by omega) (by omega)) rfl (.inl rfl)⟩
end
end Go.Proofs.YtehfjlpenlffmaaGreatDoor
