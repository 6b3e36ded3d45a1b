import Derived.Test.YtehfjlpenlffmaaGreatDoorZ17
import Derived.Test.YtehfjlpenlffmaaGreatDoorZ14
import Derived.Test.YtehfjlpenlffmaaGreatDoorZ4
import Derived.Test.YtehfjlpenlffmaaGreatDoorLayBitsLen
import Derived.Test.YtehfjlpenlffmaaGreatDoorZ13
import Derived.Test.YtehfjlpenlffmaaGreatDoorZ15
import Derived.Test.YtehfjlpenlffmaaGreatDoorZ16
set_option linter.unusedVariables false
set_option linter.unusedSimpArgs false
set_option linter.defProp false
namespace Go.Proofs.YtehfjlpenlffmaaGreatDoor
open Nat renaming reduceAdd→zd,reduceEqDiff→za,reduceLT→zf,reduceLeDiff→zb,reduceMul→ze,reduceSub→zu
open List renaming append_nil→yo,cons_append→zl,drop_eq_nil_of_le→zU,getD→zD,getElem?_eq_getElem→zg,getElem?_eq_some_iff→zt,length_append→zK,length_cons→zi,length_map→zB,length_nil→zo,length_take→zP,map_cons→zk,map_nil→zr,mem_of_getElem?→zx,mem_singleton→zF,nil_append→zm,range→zE,replicate_succ→zh,replicate_zero→zj,take_of_length_le→zC,take_succ_eq_append_getElem→zy
open Go.RowKit
def qh2:IC:=(sR [qO 1 (.box 36 (.t 0)),qO 2 (.alc 103 [.int .i64 0,.int .i64 0])] (.seq (.drg [qF 3 3 1,qL 4 3,qO 5 (.ixa 7 (.t 4) (cI 0)),qF 6 3 5,qL 7 6,qF 8 3 1,qL 9 8,qF 10 3 1,qL 11 10,qN 12 11,qB 13 .sub 12 (cI 1),qX 14 7 9 13,qF 15 4 14,qL 16 15,qB 17 .add 16 (cI 1),qO 18 (.bld [.int .i64 0,.int .i64 0] [(0,1,.t 7),(1,1,.t 17)]),qS 2 2 18]) .ret))
def qhN:List IRes:=[.c 2 2 true]
theorem qma:chkF Tryz.prog Tryz.f67 qh2 qhN 19=true:=by kernel_rfl
def qfg:IC:=(sR [qT 66 .lss 65 64] (.seq (.cond (.t 66) .skip (.exit 4)) (.seq (.block 5 (sR [qX 67 7 63 65,qO 68 (.ld 7 true (.t 67)),qO 12 (.alc 85 [.str [],.str [],.int .i64 0,.int .i64 0,.int .i64 0,.nl 1,.int .i64 0]),qS 7 12 68] (.reg [qM 69 3,qF 70 0 12,qL 71 70,⟨none,.mpu (.t 69) (.t 71) (.c (.bool true)),none⟩]))) (.reg [qB 72 .add 65 (cI 1),qM 65 72]))))
def qfh:IC:=(sR [qT 41 .lss 40 39] (.seq (.cond (.t 41) .skip (.exit 2)) (.seq (.block 3 (sR [qX 42 7 38 40,qO 43 (.ld 7 true (.t 42)),qO 8 (.alc 85 [.str [],.str [],.int .i64 0,.int .i64 0,.int .i64 0,.nl 1,.int .i64 0]),qS 7 8 43,⟨none,.re,none⟩] (sR [qM 44 0,qM 45 4,qO 46 (.vsl 4 (.t 44) none (some (.t 45))),qO 47 (.mkf 66 [.t 5,.t 8]),qO 48 (.call 65 [.t 46,.t 47]),qM 9 48] (sR [qM 49 3,qF 50 0 8,qL 51 50,qO 52 (.mpl false (.bool false) (.t 49) (.t 51)),qO 53 (.call 50 [.t 52,.c (.int .i64 6)]),qM 54 9,qO 55 (.call 50 [.t 54,.c (.int .i64 13)]),qO 56 (.bsl 1 [.t 53,.t 55]),qO 57 (.call 49 [.t 56]),qM 10 57] (sR [qM 58 10,qB 59 .neq 58 (cI 0)] (.cond (.t 59) (sR [qM 60 10,qM 2 60] .ret) .skip)))))) (.reg [qB 61 .add 40 (cI 1),qM 40 61]))))
def qfi:IC:=(sR [qT 20 .lss 19 18] (.seq (.cond (.t 20) .skip (.exit 0)) (.seq (.block 1 (sR [qM 21 19,qX 22 4 17 19,qO 23 (.ld 4 true (.t 22)),qO 5 (.alc 36 [.int .i64 0,.str [],.int .i64 0,.nl 7]),qM 4 21,qS 4 5 23,⟨none,.re,none⟩] (.seq (.seq (.drg [qO 24 (.ld 4 true (.t 5)),qO 25 (.pcall 0 12 [.t 24]),qF 26 0 5,qL 27 26,qM 28 4,qB 29 .add 28 (cI 1),qT 30 .neq 27 29,qO 31 (.pcall 1 50 [.t 30,.c (.int .i64 7)]),qO 32 (.bsl 1 [.t 25,.t 31]),qO 33 (.pcall 2 49 [.t 32]),qM 6 33]) (sR [qM 34 6,qB 35 .neq 34 (cI 0)] (.cond (.t 35) (sR [qM 36 6,qM 2 36] .ret) .skip))) (.seq (sR [qF 37 3 5,qL 38 37,qN 39 38,qO 40 (.mov (cI 0))] (.block 2 (.loop qfh))) (sR [qF 62 3 5,qL 63 62,qN 64 63,qO 65 (.mov (cI 0))] (.block 4 (.loop qfg))))))) (.reg [qB 73 .add 19 (cI 1),qM 19 73]))))
def qho:IC:=(sR [qO 2 (.mov (cI 0))] (.seq (sR [qM 13 0,qN 14 13,qB 15 .gtr 14 (cI 200)] (.cond (.t 15) (sR [qO 2 (.mov (cI 2))] .ret) .skip)) (sR [qO 16 (.mkm 9 4),qM 3 16] (.seq (sR [qM 17 0,qN 18 17,qO 19 (.mov (cI 0))] (.block 0 (.loop qfi))) (sR [qO 2 (.mov (cI 0))] .ret)))))
def qg5:List IRes:=[.t 2]
theorem qli:chkF Tryz.prog Tryz.f15 qho qg5 74=true:=by kernel_rfl
def qf3:IC:=(sR [qO 3 (.box 36 (.t 0)),qO 4 (.mov (.c (.bool false)))] (sR [qO 6 (.ld 4 true (.t 3)),qO 7 (.call 67 [.t 6]),qO 5 (.alc 103 [.int .i64 0,.int .i64 0]),qS 2 5 7] (sR [qF 8 1 3,qL 9 8,qF 10 1 1,qL 11 10,qT 12 .eql 9 11,qM 13 12,⟨some 14,.fla 3 (.t 2),(some (13,true))⟩,⟨some 15,.ld 1 false (.t 14),(some (13,true))⟩,⟨some 16,.fla 1 (.t 5),(some (13,true))⟩,⟨some 17,.ld 1 false (.t 16),(some (13,true))⟩,⟨some 18,.bin .lss (.t 15) (.t 17),(some (13,true))⟩,qO 19 (.pick (.t 13) (.t 18) (.c (.bool false))),qM 20 19,⟨some 21,.fla 4 (.t 2),(some (20,true))⟩,⟨some 22,.ld 1 false (.t 21),(some (20,true))⟩,⟨some 23,.fla 0 (.t 5),(some (20,true))⟩,⟨some 24,.ld 1 false (.t 23),(some (20,true))⟩,⟨some 25,.bin .geq (.t 22) (.t 24),(some (20,true))⟩,qO 26 (.pick (.t 20) (.t 25) (.c (.bool false))),qM 4 26] .ret)))
def qfO:List IRes:=[.t 4]
theorem qkl:chkF Tryz.prog Tryz.f66 qf3 qfO 27=true:=by kernel_rfl
def qcf:IC:=(sR [qT 70 .lss 69 68] (.seq (.cond (.t 70) .skip (.exit 6)) (.seq (.block 7 (sR [qX 71 7 67 69,qO 72 (.ld 7 true (.t 71)),qO 12 (.alc 85 [.str [],.str [],.int .i64 0,.int .i64 0,.int .i64 0,.nl 1,.int .i64 0]),qS 7 12 72] (.reg [qM 73 3,qF 74 0 12,qL 75 74,⟨none,.mpu (.t 73) (.t 75) (.c (.bool true)),none⟩]))) (.reg [qB 76 .add 69 (cI 1),qM 69 76]))))
def qcg:IC:=(sR [qT 50 .lss 49 48] (.seq (.cond (.t 50) .skip (.exit 4)) (.seq (.block 5 (sR [qX 51 4 47 49,qO 52 (.ld 4 true (.t 51)),qO 10 (.alc 36 [.int .i64 0,.str [],.int .i64 0,.nl 7]),qS 4 10 52] (sR [qF 53 1 10,qL 54 53,qF 55 1 5,qL 56 55,qT 57 .eql 54 56,qM 58 57,⟨some 59,.fla 3 (.t 10),(some (58,true))⟩,⟨some 60,.ld 1 false (.t 59),(some (58,true))⟩,⟨some 61,.mkf 68 [.t 8],(some (58,true))⟩,⟨some 62,.call 58 [.t 60,.t 61],(some (58,true))⟩,qO 63 (.pick (.t 58) (.t 62) (.c (.bool false)))] (.cond (.t 63) (sR [qO 2 (.mov (cI 13))] .ret) .skip)))) (.reg [qB 64 .add 49 (cI 1),qM 49 64]))))
def qch:IC:=(sR [qT 38 .lss 37 36] (.seq (.cond (.t 38) .skip (.exit 2)) (.seq (.block 3 (sR [qX 39 7 35 37,qO 40 (.ld 7 true (.t 39)),qO 8 (.alc 85 [.str [],.str [],.int .i64 0,.int .i64 0,.int .i64 0,.nl 1,.int .i64 0]),qS 7 8 40,⟨none,.re,none⟩] (.seq (sR [qM 41 3,qF 42 0 8,qL 43 42,qO 44 (.mpl false (.bool false) (.t 41) (.t 43))] (.cond (.t 44) (sR [qO 2 (.mov (cI 6))] .ret) .skip)) (sR [qM 45 0,qM 46 4,qO 47 (.vsl 4 (.t 45) none (some (.t 46))),qN 48 47,qO 49 (.mov (cI 0))] (.block 4 (.loop qcg)))))) (.reg [qB 65 .add 37 (cI 1),qM 37 65]))))
def qci:IC:=(sR [qT 20 .lss 19 18] (.seq (.cond (.t 20) .skip (.exit 0)) (.seq (.block 1 (sR [qM 21 19,qX 22 4 17 19,qO 23 (.ld 4 true (.t 22)),qO 5 (.alc 36 [.int .i64 0,.str [],.int .i64 0,.nl 7]),qM 4 21,qS 4 5 23,⟨none,.re,none⟩] (.seq (sR [qO 24 (.ld 4 true (.t 5)),qO 25 (.call 13 [.t 24]),qM 6 25] (sR [qM 26 6,qB 27 .neq 26 (cI 0)] (.cond (.t 27) (sR [qM 28 6,qM 2 28] .ret) .skip))) (.seq (sR [qF 29 0 5,qL 30 29,qM 31 4,qB 32 .add 31 (cI 1),qT 33 .neq 30 32] (.cond (.t 33) (sR [qO 2 (.mov (cI 7))] .ret) .skip)) (.seq (sR [qF 34 3 5,qL 35 34,qN 36 35,qO 37 (.mov (cI 0))] (.block 2 (.loop qch))) (sR [qF 66 3 5,qL 67 66,qN 68 67,qO 69 (.mov (cI 0))] (.block 6 (.loop qcf)))))))) (.reg [qB 77 .add 19 (cI 1),qM 19 77]))))
def qcR:IC:=(sR [qO 2 (.mov (cI 0))] (.seq (sR [qM 13 0,qN 14 13,qB 15 .gtr 14 (cI 200)] (.cond (.t 15) (sR [qO 2 (.mov (cI 2))] .ret) .skip)) (sR [qO 16 (.mkm 9 4),qM 3 16] (.seq (sR [qM 17 0,qN 18 17,qO 19 (.mov (cI 0))] (.block 0 (.loop qci))) (sR [qO 2 (.mov (cI 0))] .ret)))))
def qcN:List IRes:=[.t 2]
theorem qgo:chkF Tryz.prog Tryz.f16 qcR qcN 78=true:=by kernel_rfl
def qcu:IC:=(sR [qO 2 (.box 85 (.t 0)),qO 3 (.mov (.c (.bool false)))] (sR [qF 4 3 1,qL 5 4,qF 6 4 2,qL 7 6,qT 8 .leq 5 7,qM 9 8,⟨some 10,.fla 3 (.t 2),(some (9,true))⟩,⟨some 11,.ld 1 false (.t 10),(some (9,true))⟩,⟨some 12,.fla 4 (.t 1),(some (9,true))⟩,⟨some 13,.ld 1 false (.t 12),(some (9,true))⟩,⟨some 14,.bin .leq (.t 11) (.t 13),(some (9,true))⟩,qO 15 (.pick (.t 9) (.t 14) (.c (.bool false))),qM 3 15] .ret))
def qcm:List IRes:=[.t 3]
theorem qfE:chkF Tryz.prog Tryz.f68 qcu qcm 16=true:=by kernel_rfl
section
variable {E:Envt}
theorem qtD (l:List Prd) (k:Nat):(pdE l).take k=pdE (l.take k):=by rw [pdE,pdE,List.map_take]
theorem quu (q:Prd) (hq:0 < q.shs.length) (hB:PdB q):PCall Tryz.prog E 67 [.agg (pdV q)] (·=.agg [int (q.shs.getD 0 sh0).fr_,int ((q.shs.getD (q.shs.length - 1) sh0).to_+1)]):=by
 obtain ⟨no,pre,dig,shs⟩:=q
 obtain ⟨b1,b2,b3,b4,b5⟩:=hB
 simp only at b1 b2 b3 b4 b5 hq
 obtain ⟨x,hx⟩:∃ x,shs[0]?=some x:=⟨_,zg hq⟩
 obtain ⟨y,hy⟩:∃ y,shs[shs.length - 1]?=some y:=⟨_,zg (by omega)⟩
 have hgx:=qeB hx
 have hgy:=qeB hy
 simp only [shV] at hgx hgy
 have e1:shs.getD 0 sh0=x:=by simp [zD,hx]
 have e2:shs.getD (shs.length - 1) sh0=y:=by simp [zD,hy]
 have hyB:=(b5 y (zx hy)).to_
 have e3:((shs.length:Int) - 1).toNat=shs.length - 1:=by omega
 have e4:Int.toNat 0=0:=rfl
 simp only [e1,e2]
 refine qae mixed Tryz.func67 qma ?_
 simp only [a0,l0,OS.ao,zk,zr,zi,zo,zl,zm,zu,zd,zh,zj,qh2,qhN,ZZ,WW,Zd,reduceCtorEq,zd,ze,zb,zf,za]
 simp only [pdV,ZZ,WW,Zd,reduceCtorEq,zd,ze,zb,zf,za]
 refine drg0 ?_
 simp only [ZZ,WW,Zd,reduceCtorEq,zd,ze,zb,zf,za,qaj,e3,e4,hgx,hgy]
 exact ⟨⟨by omega,by omega⟩,by omega,qan (by omega) (by omega),⟨by omega,by omega⟩,by omega,qan (by omega) (by omega)⟩
theorem qCA (q p:Prd) (x:Sht) (hq:0 < q.shs.length) (hB:PdB q):PCall Tryz.prog E 66 [.agg (pdV q),.ptr (pdV p),.ptr (shV x)] (·=.bool (decide (q.pre=p.pre) && takW x q)):=by
 have hn:=quu (E:=E) q hq hB
 refine qae mixed Tryz.func66 qkl ?_
 simp only [a0,l0,OS.ao,zk,zr,zi,zo,zl,zm,zu,zd,zh,zj,qf3,qfO,ZZ,WW,Zd,reduceCtorEq,zd,ze,zb,zf,za]
 simp only [pdV,shV,ZZ,WW,Zd,reduceCtorEq,zd,ze,zb,zf,za] at hn ⊢
 refine use1 hn rfl (.inl rfl) ?_
 refine zS ?_
 unfold takW
 rw [Bool.and_assoc]
theorem qCy (y x:Sht):PCall Tryz.prog E 68 [.agg (shV y),.ptr (shV x)] (·=.bool (decide (x.fr_≤y.to_) && decide (y.fr_≤x.to_))):=by
 refine qae mixed Tryz.func68 qfE ?_
 simp only [a0,l0,OS.ao,zk,zr,zi,zo,zl,zm,zu,zd,zh,zj,qcu,qcm,ZZ,WW,Zd,reduceCtorEq,zd,ze,zb,zf,za]
 simp only [shV,ZZ,WW,Zd,reduceCtorEq,zd,ze,zb,zf,za]
end
def qpW (kv:List (List UInt8×PV)) (l:List Prd) (m:List Sht):Prop:=∀ s,mpD kv s (.bool false)=.bool (qjI l s || m.any fun y=>decide (y.id=s))
theorem qrh:qpW [] [] []:=fun s=>rfl
theorem qrg {kv:List (List UInt8×PV)} {l:List Prd} {m:List Sht} (h:qpW kv l m) (x:Sht):qpW (mpS kv x.id (.bool true)) l (m++[x]):=fun s=>by
 have h:=h s
 unfold mpD at h ⊢
 rw [qlc,List.any_append]
 by_cases hs:x.id=s
 ·simp [hs]
 ·rw [if_neg hs,h]
  simp [hs]
theorem qri {kv:List (List UInt8×PV)} {l:List Prd} {p:Prd} (h:qpW kv l p.shs):qpW kv (l++[p]) []:=fun s=>by
 rw [h s]
 simp [qjI,List.any_append]
theorem qts (l:List Prd) (p:Prd) {k:Nat} {x:Sht} (h:p.shs[k]?=some x):(p.shs.map (shBp l p))[k]?=some (shBp l p x):=by
 rw [List.getElem?_map,h];rfl
set_option maxHeartbeats 8000000 in
set_option maxRecDepth 100000 in
theorem qs9 (l:List Prd) (hl:l.length≤100000) (hB:∀ p∈l,PdB p):PCall Tryz.prog E0 15 [.sl 4 (pdE l)] (·=int (pdsF l)):=by
 have e2:decide ((200:Int) < (l.length:Int))=decide (200 < l.length):=decide_eq_decide.2 (by omega)
 refine qae mixed Tryz.func15 qli ?_
 simp only [a0,l0,OS.ao,zk,zr,zi,zo,zl,zm,zu,zd,zh,zj,qho,qg5,ZZ,WW,Zd,reduceCtorEq,zd,ze,zb,zf,za]
 simp only [ZZ,WW,Zd,reduceCtorEq,zd,ze,zb,zf,za,qaR,e2]
 refine br ?_ ?_
 ·intro h
  refine zS ?_
  rw [pdsF,if_pos (by simpa using h)]
 intro h
 rw [pdsF,if_neg (by simpa using h)]
 clear h e2
 have hget:=fun {k:Nat} (h:k < l.length)=>qa3 _ k _ (qtC l h)
 obtain ⟨G,hG⟩:∃ G,(zE l.length).map (pdsA l)=G:=⟨_,rfl⟩
 have hGl:G.length=l.length:=by rw [← hG];simp
 rw [hG] at hget ⊢
 simp only [ZZ,WW,Zd,reduceCtorEq,zd,ze,zb,zf,za,qaR]
 refine qad (fun n fr L=>∃ (k:Nat) (kv:List (List UInt8×PV)),k≤l.length∧n=l.length - k∧(qaf G=qaf (G.drop k))∧(∀ j,j < k→pdsA l j=0)∧(qpW kv (l.take k) [])∧fr=(.p (.sl 4 (pdE l))::oo::oo::.mp (.l 16)::oD (oC (oo::(.p (.sl 4 (pdE l))::.p (int (l.length:Nat))::.p (int (k:Nat))::oF (oE (oC (oB [])))))))∧L=[(.l 16,.map kv 9 4)]) (l.length) _ _ (by simp only [ZZ,WW,Zd,reduceCtorEq,zd,ze,zb,zf,za,qaR];try trivial) (by (simp only [ZZ,WW,Zd,reduceCtorEq,zd,ze,zb,zf,za];try trivial)) ⟨0,[],by omega,by omega,rfl,(fun j h=>by omega),qrh,rfl,rfl⟩ ?_
 rintro n fr L ⟨k,kv,hk,rfl,hF,hz,hkv,rfl,rfl⟩
 simp only [qfi,ZZ,WW,Zd,reduceCtorEq,zd,ze,zb,zf,za]
 refine br ?_ ?_
 rotate_left
 ·intro h
  have hge:l.length≤k:=by have:=of_decide_eq_false h;omega
  refine zS ?_
  rw [hF,zU (by omega)]
  rfl
 intro h
 have hlt:k < l.length:=by have:=of_decide_eq_true h;omega
 obtain ⟨p,hp⟩:∃ p,l[k]?=some p:=⟨_,zg hlt⟩
 have hg:=qla hp
 have hpB:=hB p (zx hp)
 have hck:=qyR p hpB
 simp only [pdV] at hg hck
 have hdr:=hget hlt
 have hpd:l.getD k pd0=p:=by simp [zD,hp]
 have hA:pdsA l k=if qaf [prdF p,qah (!decide (p.no=(k:Nat)+1)) 7]=0 then qaf (p.shs.map (shBp (l.take k) p)) else qaf [prdF p,qah (!decide (p.no=(k:Nat)+1)) 7]:=by
  unfold pdsA
  rw [hpd]
 have htk:l.take (k+1)=l.take k++[p]:=by rw [zy hlt,(zt.1 hp).2]
 simp only [ZZ,WW,Zd,reduceCtorEq,zd,ze,zb,zf,za,hg,qaR]
 ((with_reducible and_intros)<;>try exact sc_)
 rw [qa6]
 refine ⟨_,_,qiM (k:=.l 5) (cs:=[int p.no,.str p.pre,int p.dig,.sl 7 (shE p.shs)]) rfl,?_⟩
 refine zS ?_
 refine ⟨[int (prdF p),int (qah (!decide (p.no=(k:Nat)+1)) 7),int (qaf [prdF p,qah (!decide (p.no=(k:Nat)+1)) 7])],?_⟩
 refine zS ?_
 refine ⟨usep hck rfl (.inl rfl),qan (by omega) (by omega),usep (qav _ 7) rfl (.inl rfl),usep (qbK [_,_] (by simp)) rfl (.inl rfl),?_⟩
 refine br ?_ ?_
 ·intro h2
  have h3:¬ qaf [prdF p,qah (!decide (p.no=(k:Nat)+1)) 7]=0:=by simpa using h2
  rw [if_neg h3] at hA
  refine zS ?_
  rw [hF,hdr,hA,if_neg h3]
 intro h2
 have h3:qaf [prdF p,qah (!decide (p.no=(k:Nat)+1)) 7]=0:=by simpa using h2
 rw [if_pos h3] at hA
 have hp0:prdF p=0:=qax h3 _ (by simp)
 clear h2 h3
 have hget2:=fun {j:Nat} {x:Sht} (h:p.shs[j]?=some x)=>qa3 _ j _ (qts (l.take k) p h)
 obtain ⟨H,hH⟩:∃ H,p.shs.map (shBp (l.take k) p)=H:=⟨_,rfl⟩
 have hHl:H.length=p.shs.length:=by rw [← hH];simp
 rw [hH] at hget2 hA
 have hsl:=hpB.shs
 simp only [ZZ,WW,Zd,reduceCtorEq,zd,ze,zb,zf,za,qaj]
 refine qad (fun n fr L=>∃ (j:Nat),j≤p.shs.length∧n=p.shs.length - j∧(qaf H=qaf (H.drop j))∧fr=(.p (.sl 4 (pdE l))::oo::oo::.mp (.l 16)::.p (int (k:Nat))::.p (.ptr [int p.no,.str p.pre,int p.dig,.sl 7 (shE p.shs)])::oD (oB (oo::(.p (.sl 4 (pdE l))::.p (int (l.length:Nat))::.p (int (k:Nat))::oE (oB (.p (.sl 7 (shE p.shs))::.p (int (p.shs.length:Nat))::.p (int (j:Nat))::oF (oo::[])))))))∧L=[(.l 16,.map kv 9 4)]) (p.shs.length) _ _ (by simp only [ZZ,WW,Zd,reduceCtorEq,zd,ze,zb,zf,za,qaj];try trivial) (by (simp only [ZZ,WW,Zd,reduceCtorEq,zd,ze,zb,zf,za];try trivial)) ⟨0,by omega,by omega,rfl,rfl,rfl⟩ ?_
 rintro n fr L ⟨j,hj,rfl,hF2,rfl,rfl⟩
 simp only [qfh,ZZ,WW,Zd,reduceCtorEq,zd,ze,zb,zf,za]
 refine br ?_ ?_
 ·intro h4
  have hjl:j < p.shs.length:=by have:=of_decide_eq_true h4;omega
  obtain ⟨x,hx⟩:∃ x,p.shs[j]?=some x:=⟨_,zg hjl⟩
  have hgx:=qeB hx
  simp only [shV] at hgx
  have hdr2:=hget2 hx
  have hm:=hkv x.id
  rw [List.any_nil,Bool.or_false] at hm
  have hcl:=qmU (E:=E0) (l.take k) 66 [.ptr (pdV p),.ptr (shV x)] (fun q=>decide (q.pre=p.pre) && takW x q) (by rw [zP];omega) (fun _=>by kernel_rfl) rfl (fun q hq=>by
   obtain ⟨i,hi,hil,he⟩:=qrr hq
   have h0:prdF q=0:=by rw [← he];exact qn6 (hz i hi)
   exact qCA q p x (List.length_pos_iff.2 (qpG h0).1) (hB q (List.mem_of_mem_take hq))) (fun _=>rfl) (fun _=>rfl)
  simp only [pdV,shV] at hcl
  simp only [ZZ,WW,Zd,reduceCtorEq,zd,ze,zb,zf,za,hgx,qaj]
  ((with_reducible and_intros)<;>try exact sc_)
  rw [qa6]
  refine ⟨_,_,qiM (k:=.l 8) (cs:=[.str x.id,.str x.top,int x.kind,int x.fr_,int x.to_,.sl 1 (tbE x.pages),int x.ver]) rfl,?_⟩
  simp only [ZZ,WW,Zd,reduceCtorEq,zd,ze,zb,zf,za,qaR,qtD]
  ((with_reducible and_intros)<;>try exact sc_)
  refine use1 hcl rfl (.inr rfl) ?_
  simp only [ZZ,WW,Zd,reduceCtorEq,zd,ze,zb,zf,za,hm]
  refine use1 (qav _ 6) rfl (.inl rfl) ?_
  refine zS ?_
  refine use1 (qav _ 13) rfl (.inl rfl) ?_
  refine zS ?_
  refine use1 (qbK [_,_] (by simp)) rfl (.inl rfl) ?_
  refine zS ?_
  refine br ?_ ?_
  ·intro h5
   have h6:¬ shBp (l.take k) p x=0:=by simpa [shBp,takA] using h5
   rw [if_neg h6] at hdr2
   rw [hF2,hdr2] at hA
   refine zS ?_
   rw [hF,hdr,hA,if_neg h6]
   rfl
  ·intro h5
   have h6:shBp (l.take k) p x=0:=by simpa [shBp,takA] using h5
   rw [if_pos h6] at hdr2
   refine zS ?_
   ((with_reducible and_intros)<;>try exact sc_)
   refine qac (p.shs.length - (j+1)) _ _ (by omega) (by (simp only [ZZ,WW,Zd,reduceCtorEq,zd,ze,zb,zf,za];try trivial)) (by (simp only [ZZ,WW,Zd,reduceCtorEq,zd,ze,zb,zf,za];try trivial)) ⟨j+1,by omega,rfl,by rw [hF2,hdr2],rfl,rfl⟩
 intro h4
 have hjl:p.shs.length≤j:=by have:=of_decide_eq_false h4;omega
 rw [hF2,zU (by omega)] at hA
 have hA:pdsA l k=0:=hA
 rw [if_pos hA] at hdr
 clear hF2 hjl h4
 simp only [ZZ,WW,Zd,reduceCtorEq,zd,ze,zb,zf,za,qaj]
 refine qad (fun n fr L=>∃ (j:Nat) (kw:List (List UInt8×PV)),j≤p.shs.length∧n=p.shs.length - j∧(qpW kw (l.take k) (p.shs.take j))∧fr=(.p (.sl 4 (pdE l))::oo::oo::.mp (.l 16)::oD (oC (oo::(.p (.sl 4 (pdE l))::.p (int (l.length:Nat))::.p (int (k:Nat))::oF (oD (oB (oo::(.p (.sl 7 (shE p.shs))::.p (int (p.shs.length:Nat))::.p (int (j:Nat))::oD []))))))))∧L=[(.l 16,.map kw 9 4)]) (p.shs.length) _ _ (by simp only [ZZ,WW,Zd,reduceCtorEq,zd,ze,zb,zf,za,qaj];try trivial) (by (simp only [ZZ,WW,Zd,reduceCtorEq,zd,ze,zb,zf,za];try trivial)) ⟨0,kv,by omega,by omega,hkv,rfl,rfl⟩ ?_
 rintro n fr L ⟨j,kw,hj,rfl,hkw,rfl,rfl⟩
 simp only [qfg,ZZ,WW,Zd,reduceCtorEq,zd,ze,zb,zf,za]
 refine br ?_ ?_
 ·intro h4
  have hjl:j < p.shs.length:=by have:=of_decide_eq_true h4;omega
  obtain ⟨x,hx⟩:∃ x,p.shs[j]?=some x:=⟨_,zg hjl⟩
  have hgx:=qeB hx
  simp only [shV] at hgx
  have hpu:=qrg hkw x
  rw [show p.shs.take j++[x]=p.shs.take (j+1) from by rw [zy hjl,(zt.1 hx).2]] at hpu
  simp only [ZZ,WW,Zd,reduceCtorEq,zd,ze,zb,zf,za,hgx,qaj]
  ((with_reducible and_intros)<;>try exact sc_)
  refine qac (p.shs.length - (j+1)) _ _ (by omega) (by (simp only [ZZ,WW,Zd,reduceCtorEq,zd,ze,zb,zf,za];try trivial)) (by (simp only [ZZ,WW,Zd,reduceCtorEq,zd,ze,zb,zf,za];try trivial)) ⟨j+1,mpS kw x.id (.bool true),by omega,rfl,hpu,rfl,rfl⟩
 intro h4
 have hjl:p.shs.length≤j:=by have:=of_decide_eq_false h4;omega
 rw [zC hjl] at hkw
 have hkw:=qri hkw
 rw [← htk] at hkw
 refine zS ?_
 ((with_reducible and_intros)<;>try exact sc_)
 refine qac (l.length - (k+1)) _ _ (by omega) (by (simp only [ZZ,WW,Zd,reduceCtorEq,zd,ze,zb,zf,za];try trivial)) (by (simp only [ZZ,WW,Zd,reduceCtorEq,zd,ze,zb,zf,za];try trivial)) ⟨k+1,kw,by omega,rfl,by rw [hF,hdr],(fun i hi=>by rcases Nat.lt_succ_iff_lt_or_eq.1 hi with hi|rfl;exact hz i hi;exact hA),hkw,rfl,rfl⟩
set_option maxHeartbeats 8000000 in
set_option maxRecDepth 100000 in
theorem qlu (l:List Prd) (hl:l.length≤100000) (hB:∀ p∈l,PdB p):PCall Tryz.prog E0 16 [.sl 4 (pdE l)] (·=int (pdsF l)):=by
 have e2:decide ((200:Int) < (l.length:Int))=decide (200 < l.length):=decide_eq_decide.2 (by omega)
 refine qae mixed Tryz.func16 qgo ?_
 simp only [a0,l0,OS.ao,zk,zr,zi,zo,zl,zm,zu,zd,zh,zj,qcR,qcN,ZZ,WW,Zd,reduceCtorEq,zd,ze,zb,zf,za]
 simp only [ZZ,WW,Zd,reduceCtorEq,zd,ze,zb,zf,za,qaR,e2]
 refine br ?_ ?_
 ·intro h
  refine zS ?_
  rw [pdsF,if_pos (by simpa using h)]
 intro h
 rw [pdsF,if_neg (by simpa using h)]
 clear h e2
 have hget:=fun {k:Nat} (h:k < l.length)=>qa3 _ k _ (qtC l h)
 obtain ⟨G,hG⟩:∃ G,(zE l.length).map (pdsA l)=G:=⟨_,rfl⟩
 have hGl:G.length=l.length:=by rw [← hG];simp
 rw [hG] at hget ⊢
 simp only [ZZ,WW,Zd,reduceCtorEq,zd,ze,zb,zf,za,qaR]
 refine qad (fun n fr L=>∃ (k:Nat) (kv:List (List UInt8×PV)),k≤l.length∧n=l.length - k∧(qaf G=qaf (G.drop k))∧(∀ j,j < k→pdsA l j=0)∧(qpW kv (l.take k) [])∧fr=(.p (.sl 4 (pdE l))::oo::oo::.mp (.l 16)::oD (oC (oo::(.p (.sl 4 (pdE l))::.p (int (l.length:Nat))::.p (int (k:Nat))::oF (oE (oD (oB [])))))))∧L=[(.l 16,.map kv 9 4)]) (l.length) _ _ (by simp only [ZZ,WW,Zd,reduceCtorEq,zd,ze,zb,zf,za,qaR];try trivial) (by (simp only [ZZ,WW,Zd,reduceCtorEq,zd,ze,zb,zf,za];try trivial)) ⟨0,[],by omega,by omega,rfl,(fun j h=>by omega),qrh,rfl,rfl⟩ ?_
 rintro n fr L ⟨k,kv,hk,rfl,hF,hz,hkv,rfl,rfl⟩
 simp only [qci,ZZ,WW,Zd,reduceCtorEq,zd,ze,zb,zf,za]
 refine br ?_ ?_
 rotate_left
 ·intro h
  have hge:l.length≤k:=by have:=of_decide_eq_false h;omega
  refine zS ?_
  rw [hF,zU (by omega)]
  rfl
 intro h
 have hlt:k < l.length:=by have:=of_decide_eq_true h;omega
 obtain ⟨p,hp⟩:∃ p,l[k]?=some p:=⟨_,zg hlt⟩
 have hg:=qla hp
 have hpB:=hB p (zx hp)
 have hck:=qms p hpB
 simp only [pdV] at hg hck
 have hdr:=hget hlt
 have hpd:l.getD k pd0=p:=by simp [zD,hp]
 have hA:pdsA l k=if qaf [prdF p,qah (!decide (p.no=(k:Nat)+1)) 7]=0 then qaf (p.shs.map (shBp (l.take k) p)) else qaf [prdF p,qah (!decide (p.no=(k:Nat)+1)) 7]:=by
  unfold pdsA
  rw [hpd]
 have htk:l.take (k+1)=l.take k++[p]:=by rw [zy hlt,(zt.1 hp).2]
 have h2e:∀ a b:Int,qaf [a,b]=if a=0 then b else a:=fun a b=>by simp only [qaf];split<;>(try split)<;>simp_all
 rw [h2e] at hA
 simp only [ZZ,WW,Zd,reduceCtorEq,zd,ze,zb,zf,za,hg,qaR]
 ((with_reducible and_intros)<;>try exact sc_)
 rw [qa6]
 refine ⟨_,_,qiM (k:=.l 5) (cs:=[int p.no,.str p.pre,int p.dig,.sl 7 (shE p.shs)]) rfl,?_⟩
 refine zS ?_
 refine use1 hck rfl (.inl rfl) ?_
 refine zS ?_
 refine br ?_ ?_
 ·intro h2
  have h3:¬ prdF p=0:=by simpa using h2
  rw [if_neg h3,if_neg h3] at hA
  refine zS ?_
  rw [hF,hdr,hA,if_neg h3]
 intro h2
 have hp0:prdF p=0:=by simpa using h2
 rw [if_pos hp0] at hA
 clear h2
 refine zS ?_
 ((with_reducible and_intros)<;>try exact sc_)
 refine br ?_ ?_
 ·intro h2
  rw [h2,if_neg (show ¬ qah true 7=0 by decide)] at hA
  refine zS ?_
  rw [hF,hdr,hA]
  rfl
 intro h2
 rw [h2,if_pos (show qah false 7=0 by decide)] at hA
 clear h2
 have hget2:=fun {j:Nat} {x:Sht} (h:p.shs[j]?=some x)=>qa3 _ j _ (qts (l.take k) p h)
 obtain ⟨H,hH⟩:∃ H,p.shs.map (shBp (l.take k) p)=H:=⟨_,rfl⟩
 have hHl:H.length=p.shs.length:=by rw [← hH];simp
 rw [hH] at hget2 hA
 have hsl:=hpB.shs
 simp only [ZZ,WW,Zd,reduceCtorEq,zd,ze,zb,zf,za,qaj]
 refine qad (fun n fr L=>∃ (j:Nat),j≤p.shs.length∧n=p.shs.length - j∧(qaf H=qaf (H.drop j))∧fr=(.p (.sl 4 (pdE l))::oo::oo::.mp (.l 16)::.p (int (k:Nat))::.p (.ptr [int p.no,.str p.pre,int p.dig,.sl 7 (shE p.shs)])::oD (oB (oo::(.p (.sl 4 (pdE l))::.p (int (l.length:Nat))::.p (int (k:Nat))::oD (oC (oB (oo::(.p (.sl 7 (shE p.shs))::.p (int (p.shs.length:Nat))::.p (int (j:Nat))::oF (oD [])))))))))∧L=[(.l 16,.map kv 9 4)]) (p.shs.length) _ _ (by simp only [ZZ,WW,Zd,reduceCtorEq,zd,ze,zb,zf,za,qaj];try trivial) (by (simp only [ZZ,WW,Zd,reduceCtorEq,zd,ze,zb,zf,za];try trivial)) ⟨0,by omega,by omega,rfl,rfl,rfl⟩ ?_
 rintro n fr L ⟨j,hj,rfl,hF2,rfl,rfl⟩
 simp only [qch,ZZ,WW,Zd,reduceCtorEq,zd,ze,zb,zf,za]
 refine br ?_ ?_
 ·intro h4
  have hjl:j < p.shs.length:=by have:=of_decide_eq_true h4;omega
  obtain ⟨x,hx⟩:∃ x,p.shs[j]?=some x:=⟨_,zg hjl⟩
  have hgx:=qeB hx
  simp only [shV] at hgx
  have hdr2:=hget2 hx
  have hm:=hkv x.id
  rw [List.any_nil,Bool.or_false] at hm
  have htk2:takA (l.take k) p x=takB (l.take k) p x:=qzv hz (qz9 hp0 (zx hx))
  have hsB:shBp (l.take k) p x=if qjI (l.take k) x.id=true then 6 else if takB (l.take k) p x=true then 13 else 0:=by
   unfold shBp
   rw [h2e,htk2]
   cases qjI (l.take k) x.id<;>cases takB (l.take k) p x<;>rfl
  simp only [ZZ,WW,Zd,reduceCtorEq,zd,ze,zb,zf,za,hgx,qaj]
  ((with_reducible and_intros)<;>try exact sc_)
  rw [qa6]
  refine ⟨_,_,qiM (k:=.l 8) (cs:=[.str x.id,.str x.top,int x.kind,int x.fr_,int x.to_,.sl 1 (tbE x.pages),int x.ver]) rfl,?_⟩
  simp only [ZZ,WW,Zd,reduceCtorEq,zd,ze,zb,zf,za,hm]
  refine br ?_ ?_
  ·intro h5
   rw [if_pos h5] at hsB
   rw [hsB] at hdr2
   rw [hF2,hdr2] at hA
   refine zS ?_
   rw [hF,hdr,hA]
   rfl
  intro h5
  rw [if_neg (by rw [h5];simp)] at hsB
  clear h5 hm
  have hkl:(l.take k).length≤100000:=by rw [zP];omega
  obtain ⟨m,hml⟩:∃ m,l.take k=m:=⟨_,rfl⟩
  have hmB:∀ q∈m,PdB q:=fun q hq=>hB q (List.mem_of_mem_take (by rw [hml];exact hq))
  rw [hml] at hsB hkl
  simp only [ZZ,WW,Zd,reduceCtorEq,zd,ze,zb,zf,za,qaR,qtD,hml]
  ((with_reducible and_intros)<;>try exact sc_)
  refine qad (fun n fr L=>∃ (i:Nat),i≤m.length∧n=m.length - i∧(∀ q∈m.take i,(decide (q.pre=p.pre) && takS x q)=false)∧fr=(.p (.sl 4 (pdE l))::oo::oo::.mp (.l 16)::.p (int (k:Nat))::.p (.ptr [int p.no,.str p.pre,int p.dig,.sl 7 (shE p.shs)])::oo::oo::.p (.ptr [.str x.id,.str x.top,int x.kind,int x.fr_,int x.to_,.sl 1 (tbE x.pages),int x.ver])::oD (.p (.sl 4 (pdE l))::.p (int (l.length:Nat))::.p (int (k:Nat))::oD (oC (oB (oo::(.p (.sl 7 (shE p.shs))::.p (int (p.shs.length:Nat))::.p (int (j:Nat))::oD (oo::(.p (.sl 4 (pdE m))::.p (int (m.length:Nat))::.p (int (i:Nat))::oE (oD (oC []))))))))))∧L=[(.l 16,.map kv 9 4)]) (m.length) _ _ (by simp only [ZZ,WW,Zd,reduceCtorEq,zd,ze,zb,zf,za,qaR];try trivial) (by (simp only [ZZ,WW,Zd,reduceCtorEq,zd,ze,zb,zf,za];try trivial)) ⟨0,by omega,by omega,by simp,rfl,rfl⟩ ?_
  rintro n fr L ⟨i,hi,rfl,hno,rfl,rfl⟩
  simp only [qcg,ZZ,WW,Zd,reduceCtorEq,zd,ze,zb,zf,za]
  refine br ?_ ?_
  ·intro h6
   have hil:i < m.length:=by have:=of_decide_eq_true h6;omega
   obtain ⟨q,hq⟩:∃ q,m[i]?=some q:=⟨_,zg hil⟩
   have hgq:=qla hq
   simp only [pdV] at hgq
   have hqB:=(hmB q (zx hq)).shs
   have hcl:=qfG (E:=E0) q.shs 68 [.ptr (shV x)] (fun y=>decide (x.fr_≤y.to_) && decide (y.fr_≤x.to_)) (by omega) (fun _=>by kernel_rfl) rfl (fun y _=>qCy y x) (fun _=>rfl) (fun _=>rfl)
   simp only [shV] at hcl
   simp only [ZZ,WW,Zd,reduceCtorEq,zd,ze,zb,zf,za,hgq,qaR]
   ((with_reducible and_intros)<;>try exact sc_)
   refine useG (fun _=>hcl) rfl (.inr rfl) ?_
   refine zS ?_
   refine br ?_ ?_
   ·intro h7
    have h8:takB m p x=true:=List.any_eq_true.2 ⟨q,zx hq,h7⟩
    rw [if_pos h8] at hsB
    rw [hml,hsB] at hdr2
    rw [hF2,hdr2] at hA
    refine zS ?_
    rw [hF,hdr,hA]
    rfl
   ·intro h7
    refine zS ?_
    ((with_reducible and_intros)<;>try exact sc_)
    refine qac (m.length - (i+1)) _ _ (by omega) (by (simp only [ZZ,WW,Zd,reduceCtorEq,zd,ze,zb,zf,za];try trivial)) (by (simp only [ZZ,WW,Zd,reduceCtorEq,zd,ze,zb,zf,za];try trivial)) ⟨i+1,by omega,rfl,by rw [zy hil];intro y hy;rcases List.mem_append.1 hy with hy|hy;exact hno y hy;rw [zF] at hy;rw [hy,(zt.1 hq).2];exact h7,rfl,rfl⟩
  intro h6
  have hil:m.length≤i:=by have:=of_decide_eq_false h6;omega
  rw [zC hil] at hno
  have h8:takB m p x=false:=List.any_eq_false.2 fun q hq=>by rw [hno q hq];simp
  rw [if_neg (by rw [h8];simp)] at hsB
  rw [hml,hsB] at hdr2
  refine zS ?_
  ((with_reducible and_intros)<;>try exact sc_)
  refine qac (p.shs.length - (j+1)) _ _ (by omega) (by (simp only [ZZ,WW,Zd,reduceCtorEq,zd,ze,zb,zf,za];try trivial)) (by (simp only [ZZ,WW,Zd,reduceCtorEq,zd,ze,zb,zf,za];try trivial)) ⟨j+1,by omega,rfl,by rw [hF2,hdr2];rfl,rfl,rfl⟩
 intro h4
 have hjl:p.shs.length≤j:=by have:=of_decide_eq_false h4;omega
 rw [hF2,zU (by omega)] at hA
 have hA:pdsA l k=0:=hA
 rw [if_pos hA] at hdr
 clear hF2 hjl h4
 simp only [ZZ,WW,Zd,reduceCtorEq,zd,ze,zb,zf,za,qaj]
 refine qad (fun n fr L=>∃ (j:Nat) (kw:List (List UInt8×PV)),j≤p.shs.length∧n=p.shs.length - j∧(qpW kw (l.take k) (p.shs.take j))∧fr=(.p (.sl 4 (pdE l))::oo::oo::.mp (.l 16)::oD (oC (oo::(.p (.sl 4 (pdE l))::.p (int (l.length:Nat))::.p (int (k:Nat))::oF (oD (oC (oB (oo::(.p (.sl 7 (shE p.shs))::.p (int (p.shs.length:Nat))::.p (int (j:Nat))::oD [])))))))))∧L=[(.l 16,.map kw 9 4)]) (p.shs.length) _ _ (by simp only [ZZ,WW,Zd,reduceCtorEq,zd,ze,zb,zf,za,qaj];try trivial) (by (simp only [ZZ,WW,Zd,reduceCtorEq,zd,ze,zb,zf,za];try trivial)) ⟨0,kv,by omega,by omega,hkv,rfl,rfl⟩ ?_
 rintro n fr L ⟨j,kw,hj,rfl,hkw,rfl,rfl⟩
 simp only [qcf,ZZ,WW,Zd,reduceCtorEq,zd,ze,zb,zf,za]
 refine br ?_ ?_
 ·intro h4
  have hjl:j < p.shs.length:=by have:=of_decide_eq_true h4;omega
  obtain ⟨x,hx⟩:∃ x,p.shs[j]?=some x:=⟨_,zg hjl⟩
  have hgx:=qeB hx
  simp only [shV] at hgx
  have hpu:=qrg hkw x
  rw [show p.shs.take j++[x]=p.shs.take (j+1) from by rw [zy hjl,(zt.1 hx).2]] at hpu
  simp only [ZZ,WW,Zd,reduceCtorEq,zd,ze,zb,zf,za,hgx,qaj]
  ((with_reducible and_intros)<;>try exact sc_)
  refine qac (p.shs.length - (j+1)) _ _ (by omega) (by (simp only [ZZ,WW,Zd,reduceCtorEq,zd,ze,zb,zf,za];try trivial)) (by (simp only [ZZ,WW,Zd,reduceCtorEq,zd,ze,zb,zf,za];try trivial)) ⟨j+1,mpS kw x.id (.bool true),by omega,rfl,hpu,rfl,rfl⟩
 intro h4
 have hjl:p.shs.length≤j:=by have:=of_decide_eq_false h4;omega
 rw [zC hjl] at hkw
 have hkw:=qri hkw
 rw [← htk] at hkw
 refine zS ?_
 ((with_reducible and_intros)<;>try exact sc_)
 refine qac (l.length - (k+1)) _ _ (by omega) (by (simp only [ZZ,WW,Zd,reduceCtorEq,zd,ze,zb,zf,za];try trivial)) (by (simp only [ZZ,WW,Zd,reduceCtorEq,zd,ze,zb,zf,za];try trivial)) ⟨k+1,kw,by omega,rfl,by rw [hF,hdr],(fun i hi=>by rcases Nat.lt_succ_iff_lt_or_eq.1 hi with hi|rfl;exact hz i hi;exact hA),hkw,rfl,rfl⟩
def qbm:IC:=(.seq (.seq (.drg [qM 18 9,qM 19 1,qT 20 .gtr 18 19,qM 21 20,⟨some 22,.mov (.t 3),(some (21,true))⟩,⟨some 23,.mov (.t 0),(some (21,true))⟩,⟨some 24,.mov (.t 9),(some (21,true))⟩,⟨some 25,.ixa 1 (.t 23) (.t 24),(some (21,true))⟩,⟨some 26,.ld 1 false (.t 25),(some (21,true))⟩,⟨some 27,.mov (.t 0),(some (21,true))⟩,⟨some 28,.mov (.t 9),(some (21,true))⟩,⟨some 29,.bin .sub (.t 28) (cI 1),(some (21,true))⟩,⟨some 30,.ixa 1 (.t 27) (.t 29),(some (21,true))⟩,⟨some 31,.ld 1 false (.t 30),(some (21,true))⟩,⟨some 32,.callv (.t 22) [.t 26,.t 31],(some (21,true))⟩,⟨some 33,.bin .lss (.t 32) (cI 0),(some (21,true))⟩,qO 34 (.pick (.t 21) (.t 33) (.c (.bool false)))]) (.cond (.t 34) .skip (.exit 2))) (.seq (.block 3 (.drg [qM 37 0,qM 38 9,qM 39 0,qM 40 9,qB 41 .sub 40 (cI 1),qM 42 0,qM 43 9,qB 44 .sub 43 (cI 1),qX 45 1 42 44,qL 46 45,qM 47 0,qM 48 9,qX 49 1 47 48,qL 50 49,qX 51 1 37 38,qS 1 51 46,qX 52 1 39 41,qS 1 52 50])) (.reg [qM 35 9,qB 36 .sub 35 (cI 1),qM 9 36])))
def qbn:IC:=(.seq (sR [qM 12 8,qM 13 2,qT 14 .lss 12 13] (.cond (.t 14) .skip (.exit 0))) (.seq (.block 1 (sR [qM 17 8,qM 9 17] (.block 2 (.loop qbm)))) (.reg [qM 15 8,qB 16 .add 15 (cI 1),qM 8 16])))
def qbP:IC:=(sR [qM 10 1,qB 11 .add 10 (cI 1),qM 8 11] (.block 0 (.loop qbn)))
def qbM:List IRes:=[]
theorem qey:chkF Tryz.prog Tryz.f276 qbP qbM 53=true:=by kernel_rfl
def qcr:IC:=(.block 1 (sR [qM 21 2,qM 22 1,qT 23 .sub 21 22,qM 12 23] (.seq (sR [qM 24 12,qB 25 .leq 24 (cI 12)] (.cond (.t 25) (sR [qM 26 0,qM 27 1,qM 28 2,qM 29 4,qO 30 (.call 276 [.t 26,.t 27,.t 28,.t 29])] .ret) .skip)) (.seq (sR [qM 31 3,qB 32 .eql 31 (cI 0)] (.cond (.t 32) (sR [qM 33 0,qM 34 1,qM 35 2,qM 36 4,qO 37 (.call 277 [.t 33,.t 34,.t 35,.t 36])] .ret) .skip)) (.seq (sR [qM 38 10,qO 39 (.not (.t 38))] (.cond (.t 39) (sR [qM 40 0,qM 41 1,qM 42 2,qM 43 4,qO 44 (.call 278 [.t 40,.t 41,.t 42,.t 43])] (.reg [qM 45 3,qB 46 .sub 45 (cI 1),qM 3 46])) .skip)) (.cut (sR [qM 48 0,qM 49 1,qM 50 2,qM 51 4,qO 52 (.call 279 [.t 48,.t 49,.t 50,.t 51]),qM 47 52,qO 53 (.ext 0 (.t 47)),qO 54 (.ext 1 (.t 47)),qM 13 53,qM 14 54] (.seq (sR [qM 55 14,qB 56 .eql 55 (cI 2)] (.cond (.t 56) (sR [qM 57 0,qM 58 1,qM 59 2,qM 60 4,qO 61 (.call 280 [.t 57,.t 58,.t 59,.t 60])] (sR [qM 62 2,qB 63 .sub 62 (cI 1),qM 64 13,qM 65 1,qT 66 .sub 64 65,qT 67 .sub 63 66,qM 13 67] (.reg [qO 14 (.mov (cI 1))]))) .skip)) (.cut (.seq (sR [qM 68 10,qM 69 68,⟨some 70,.mov (.t 11),(some (69,true))⟩,qO 71 (.pick (.t 69) (.t 70) (.c (.bool false))),qM 72 71,⟨some 73,.mov (.t 14),(some (72,true))⟩,⟨some 74,.bin .eql (.t 73) (cI 1),(some (72,true))⟩,qO 75 (.pick (.t 72) (.t 74) (.c (.bool false)))] (.cond (.t 75) (sR [qM 76 0,qM 77 1,qM 78 2,qM 79 4,qO 80 (.call 281 [.t 76,.t 77,.t 78,.t 79])] (.cond (.t 80) .ret .skip)) .skip)) (.cut (.seq (.seq (.drg [qM 81 1,qB 82 .gtr 81 (cI 0),qM 83 82,⟨some 84,.mov (.t 4),(some (83,true))⟩,⟨some 85,.mov (.t 0),(some (83,true))⟩,⟨some 86,.mov (.t 1),(some (83,true))⟩,⟨some 87,.bin .sub (.t 86) (cI 1),(some (83,true))⟩,⟨some 88,.ixa 1 (.t 85) (.t 87),(some (83,true))⟩,⟨some 89,.ld 1 false (.t 88),(some (83,true))⟩,⟨some 90,.mov (.t 0),(some (83,true))⟩,⟨some 91,.mov (.t 13),(some (83,true))⟩,⟨some 92,.ixa 1 (.t 90) (.t 91),(some (83,true))⟩,⟨some 93,.ld 1 false (.t 92),(some (83,true))⟩,⟨some 94,.callv (.t 84) [.t 89,.t 93],(some (83,true))⟩,⟨some 95,.bin .lss (.t 94) (cI 0),(some (83,true))⟩,⟨some 96,.not (.t 95),(some (83,true))⟩,qO 97 (.pick (.t 83) (.t 96) (.c (.bool false)))]) (.cond (.t 97) (sR [qM 98 0,qM 99 1,qM 100 2,qM 101 13,qM 102 4,qO 103 (.call 282 [.t 98,.t 99,.t 100,.t 101,.t 102]),qM 15 103] (sR [qM 104 15,qM 1 104] (.exit 1))) .skip)) (sR [qM 106 0,qM 107 1,qM 108 2,qM 109 13,qM 110 4,qO 111 (.call 283 [.t 106,.t 107,.t 108,.t 109,.t 110]),qM 105 111,qO 112 (.ext 0 (.t 105)),qO 113 (.ext 1 (.t 105)),qM 16 112,qM 17 113] (sR [qM 114 17,qM 11 114] (sR [qM 115 16,qM 116 1,qT 117 .sub 115 116,qM 118 2,qM 119 16,qT 120 .sub 118 119,qM 18 117,qM 19 120] (sR [qM 121 12,qB 122 .quo 121 (cI 8),qM 20 122] (sR [qM 123 18,qM 124 19,qT 125 .lss 123 124] (.cond (.t 125) (sR [qM 126 18,qM 127 20,qT 128 .geq 126 127,qM 10 128] (sR [qM 129 0,qM 130 1,qM 131 16,qM 132 3,qM 133 4,qO 134 (.call 226 [.t 129,.t 130,.t 131,.t 132,.t 133])] (.reg [qM 135 16,qB 136 .add 135 (cI 1),qM 1 136]))) (sR [qM 137 19,qM 138 20,qT 139 .geq 137 138,qM 10 139] (sR [qM 140 0,qM 141 16,qB 142 .add 141 (cI 1),qM 143 2,qM 144 3,qM 145 4,qO 146 (.call 226 [.t 140,.t 142,.t 143,.t 144,.t 145])] (.reg [qM 147 16,qM 2 147])))))))))))))))))))))
def qc3:IC:=(sR [qO 10 (.mov (.c (.bool true)))] (sR [qO 11 (.mov (.c (.bool true)))] (.block 0 (.loop qcr))))
def qcY:List IRes:=[]
theorem qgS:chkF Tryz.prog Tryz.f226 qc3 qcY 148=true:=by kernel_rfl
def qdw:IC:=(sR [qM 5 0,qN 6 5,qM 4 6] (.reg [qM 7 0,qM 8 4,qM 9 4,qO 10 (.cvi .u64 (.t 9)),qO 11 (.call 171 [.t 10]),qM 12 1,qO 13 (.call 226 [.t 7,.c (.int .i64 0),.t 8,.t 11,.t 12])]))
def qds:List IRes:=[]
theorem qhE:chkF Tryz.prog Tryz.f166 qdw qds 14=true:=by kernel_rfl
abbrev qiE:Nat:=3
theorem qop:∀ (ps:List PV) (L:Objs),Zk L (ps.map .p)=true
 |[],_=>rfl
 |_ :: r,L=>qop r L
section
variable {E:Envt}
theorem qqo (x:Int) (h0:0≤x) (h1:x≤18446744073709551615):PCall Tryz.prog E 171 [.int .u64 x] (·=int (Lib.bitLen x.toNat:Nat)):=
 qbA rfl rfl fun w _=>(Any.bits_Len Tryz.layBitsLen x w h0 h1).mono fun e w' h=>⟨h.1,by rw [h.2];exact Grow.refl _ _⟩
theorem qp2 {α:Type} (f0:α→Int) (cf:α→α→Int) (hO:OrdP (ltC cf)) (g:FuncId) (ps:List PV) (hg:Unit→fnB Tryz.prog g=true) (l:List α) (hl:l.length≤12) (hc:∀ x∈l,∀ y∈l,PCall Tryz.prog E g (int (f0 x) :: int (f0 y) :: ps) (·=int (cf x y)))
  (hn:∀ x y,Zbg [] (.p (int (f0 x)) :: .p (int (f0 y)) :: ps.map .p)=some (int (f0 x) :: int (f0 y) :: ps)) (hr:∀ x y,Zbi (.p (int (f0 x)) :: .p (int (f0 y)) :: ps.map .p)=true):RCall Tryz.prog E 276 qiE 1 (l.map (fun x=>([int (f0 x)]:List PV))) [int 0,int (l.length:Nat),.clo g ps] (fun x es'=>x=.tup []∧∃ l':List α,es'=l'.map (fun x=>([int (f0 x)]:List PV))∧l'.Perm l∧SrtP (ltC cf) l'):=by
 unfold RCall
 refine qge mixed Tryz.func276 qey ?_
 simp only [a0,l0,OS.ao,zk,zr,zi,zo,zl,zm,zu,zd,zh,zj,zB,qbP,qbM,ZZ,WW,Zd,reduceCtorEq,zd,ze,zb,zf,za]
 ((with_reducible and_intros)<;>try exact sc_)
 rw [show l.map (fun x=>([int (f0 x)]:List PV))=(l.take 1++l.drop 1).map (fun x=>([int (f0 x)]:List PV)) from by rw [List.take_append_drop]]
 refine qad (fun n fr L=>∃ (i:Nat) (P:List α) (C:List α),l.length - i=n∧(1≤i)∧(P.length=i∨l.length=0)∧((P++C).Perm l)∧(SrtP (ltC cf) P)∧fr=(.row (.b 0)::.p (int 0)::.p (int (l.length:Nat))::.p (.clo g ps)::oo::oo::oo::oo::.p (int (i:Nat))::oF (oD (oC [])))∧L=[(.b 0,.row ((P++C).map (fun x=>([int (f0 x)]:List PV))) qiE 1 true)]) (l.length - 1) _ _ (by (simp only [ZZ,WW,Zd,reduceCtorEq,zd,ze,zb,zf,za];try trivial)) (by (simp only [ZZ,WW,Zd,reduceCtorEq,zd,ze,zb,zf,za];try trivial)) ⟨1,l.take 1,l.drop 1,rfl,by omega,by rw [zP];omega,by rw [List.take_append_drop],by cases l with|nil=>exact List.Pairwise.nil|cons x r=>simp [SrtP],rfl,rfl⟩ ?_
 rintro n fr L ⟨i,P,C,rfl,hi,hP,hp,hs,rfl,rfl⟩
 simp only [qbn,ZZ,WW,Zd,reduceCtorEq,zd,ze,zb,zf,za]
 have hpl:P.length+C.length=l.length:=by rw [← zK,hp.length_eq]
 refine br ?_ ?_
 rotate_left
 ·intro h
  have hge:l.length≤i:=by have:=of_decide_eq_false h;omega
  have hC:C=[]:=List.eq_nil_of_length_eq_zero (by omega)
  subst hC
  rw [yo] at hp ⊢
  refine zS ?_
  exact qjK _ rfl ⟨rfl,P,rfl,hp,hs⟩
 intro h
 have hlt:i < l.length:=by have:=of_decide_eq_true h;omega
 have hP:P.length=i:=by omega
 obtain ⟨x,R,rfl⟩:∃ x R,C=x :: R:=by
  cases C with
  |nil=>simp at hpl;omega
  |cons x R=>exact ⟨x,R,rfl⟩
 have hxl:x∈l:=hp.mem_iff.1 (by simp)
 refine zS ?_
 refine qad (fun n fr L=>∃ (j:Nat) (A:List α) (B:List α),j=n∧(A.length=j)∧(j+B.length=i)∧(SrtP (ltC cf) (A++B))∧(∀ b∈B,ltC cf x b=true)∧((A++x :: (B++R)).Perm l)∧fr=(.row (.b 0)::.p (int 0)::.p (int (l.length:Nat))::.p (.clo g ps)::oo::oo::oo::oo::.p (int (i:Nat))::.p (int (j:Nat))::oF (oD (oB (oo::[]))))∧L=[(.b 0,.row ((A++x :: (B++R)).map (fun x=>([int (f0 x)]:List PV))) qiE 1 true)]) (i) _ _ (by (simp only [ZZ,WW,Zd,reduceCtorEq,zd,ze,zb,zf,za];try trivial)) (by (simp only [ZZ,WW,Zd,reduceCtorEq,zd,ze,zb,zf,za];try trivial)) ⟨i,P,[],rfl,hP,by simp,by rw [yo];exact hs,(fun b hb=>by cases hb),hp,rfl,rfl⟩ ?_
 rintro n fr L ⟨j,A,B,rfl,hj,hji,hsb,hb,hpb,rfl,rfl⟩
 simp only [qbm,ZZ,WW,Zd,reduceCtorEq,zd,ze,zb,zf,za]
 have hWl:((A++x :: (B++R)).map (fun x=>([int (f0 x)]:List PV))).length=l.length:=by rw [zB,hpb.length_eq]
 rcases List.eq_nil_or_concat A with rfl|⟨A',y,hAy⟩
 ·simp only [zo] at hj
  subst hj
  generalize hW:(([]:List α)++x :: (B++R)).map (fun x=>([int (f0 x)]:List PV))=W at *
  refine drg0 ?_
  have z00:decide ((0:Int) < ((0:Nat):Int))=false:=rfl
  simp only [ZZ,WW,Zd,reduceCtorEq,zd,ze,zb,zf,za,hWl,z00,Bool.false_eq_true,false_implies,hg ()]
  refine ⟨qop _ _,qsb (fun h=>by cases h) (fun _=>?_)⟩
  refine zS ?_
  ((with_reducible and_intros)<;>try exact sc_)
  rw [← hW]
  have hfin:SrtP (ltC cf) (([]:List α)++x :: B):=qnF hO hsb hb (.inl rfl)
  refine qac (l.length - (i+1)) _ _ (by omega) (by (simp only [ZZ,WW,Zd,reduceCtorEq,zd,ze,zb,zf,za];try trivial)) (by (simp only [ZZ,WW,Zd,reduceCtorEq,zd,ze,zb,zf,za];try trivial)) ⟨i+1,x :: B,R,rfl,by omega,.inl (by simp;omega),by simpa using hpb,hfin,rfl,rfl⟩
 ·obtain rfl:A=A'++[y]:=by rw [hAy];simp
  obtain ⟨q,rfl⟩:∃ q,j=q+1:=⟨A'.length,by rw [← hj];simp⟩
  have hq:A'.length=q:=by simpa using hj
  have hrow:(A'++[y])++x :: (B++R)=A'++y :: x :: (B++R):=by simp
  have hyl:y∈l:=hpb.mem_iff.1 (by simp)
  have e1:(((q+1:Nat):Int) - 1)=(q:Nat):=by omega
  have z0:decide ((0:Int) < ((q+1:Nat):Int))=true:=by rw [decide_eq_true_eq];omega
  rw [hrow] at hWl hpb ⊢
  obtain ⟨g1,g0⟩:=qtk (fun x=>([int (f0 x)]:List PV)) A' (B++R) x y []
  have s1:=qtj (fun x=>([int (f0 x)]:List PV)) A' (B++R) x y
  rw [hq] at g1 g0 s1
  try simp only at g1 g0 s1
  generalize hW:(A'++y :: x :: (B++R)).map (fun x=>([int (f0 x)]:List PV))=W at *
  refine drg0 ?_
  simp only [ZZ,WW,Zd,reduceCtorEq,zd,ze,zb,zf,za,hWl,e1,z0,g1,g0,hg ()]
  refine ⟨⟨by omega,by omega⟩,by omega,qan (by omega) (by omega),⟨by omega,by omega⟩,by omega,qop _ _,?_⟩
  refine useG (fun _=>hc x hxl y hyl) ((qmp (hr x y) (L':=[])).trans (hn x y)) (.inl (hr x y)) ?_
  refine zS ?_
  refine br ?_ ?_
  ·intro hlt2
   have hxy:ltC cf x y=true:=hlt2
   obtain ⟨n1,n2⟩:=qtO hsb hb hxy
   refine drg0 ?_
   have g2:(W.set (q+1) [int (f0 y)]).getD q []=[int (f0 y)]:=by
    rw [zD,List.getElem?_set_ne (by omega)]
    exact g0
   simp only [ZZ,WW,Zd,reduceCtorEq,zd,ze,zb,zf,za,hWl,e1,g1,g0,g2,s1,List.length_set,qpk]
   ((with_reducible and_intros)<;>try exact sc_)
   refine qac ((q)) _ _ (by omega) (by (simp only [ZZ,WW,Zd,reduceCtorEq,zd,ze,zb,zf,za];try trivial)) (by (simp only [ZZ,WW,Zd,reduceCtorEq,zd,ze,zb,zf,za];try trivial)) ⟨q,A',y :: B,rfl,hq,by simp;omega,n1,n2,by simpa using (List.Perm.append_left A' (List.Perm.swap y x (B++R))).trans hpb,rfl,rfl⟩
  ·intro hlt2
   have hxy:ltC cf x y=false:=hlt2
   refine zS ?_
   ((with_reducible and_intros)<;>try exact sc_)
   rw [← hW]
   have hfin:SrtP (ltC cf) ((A'++[y])++x :: B):=qnF hO hsb hb (.inr ⟨A',y,rfl,hxy⟩)
   have hrow2:A'++y :: x :: (B++R)=((A'++[y])++x :: B)++R:=by simp
   rw [hrow2] at hpb ⊢
   refine qac (l.length - (i+1)) _ _ (by omega) (by (simp only [ZZ,WW,Zd,reduceCtorEq,zd,ze,zb,zf,za];try trivial)) (by (simp only [ZZ,WW,Zd,reduceCtorEq,zd,ze,zb,zf,za];try trivial)) ⟨i+1,(A'++[y])++x :: B,R,rfl,by omega,.inl (by simp;omega),hpb,hfin,rfl,rfl⟩
theorem qvC {α:Type} (f0:α→Int) (cf:α→α→Int) (hO:OrdP (ltC cf)) (g:FuncId) (ps:List PV) (hg:Unit→fnB Tryz.prog g=true) (l:List α) (hl:l.length≤12) (hc:∀ x∈l,∀ y∈l,PCall Tryz.prog E g (int (f0 x) :: int (f0 y) :: ps) (·=int (cf x y)))
  (hn:∀ x y,Zbg [] (.p (int (f0 x)) :: .p (int (f0 y)) :: ps.map .p)=some (int (f0 x) :: int (f0 y) :: ps)) (hr:∀ x y,Zbi (.p (int (f0 x)) :: .p (int (f0 y)) :: ps.map .p)=true) (lim:Nat):RCall Tryz.prog E 226 qiE 1 (l.map (fun x=>([int (f0 x)]:List PV))) [int 0,int (l.length:Nat),int (lim:Nat),.clo g ps] (fun x es'=>x=.tup []∧∃ l':List α,es'=l'.map (fun x=>([int (f0 x)]:List PV))∧l'.Perm l∧SrtP (ltC cf) l'):=by
 unfold RCall
 refine qge mixed Tryz.func226 qgS ?_
 simp only [a0,l0,OS.ao,zk,zr,zi,zo,zl,zm,zu,zd,zh,zj,zB,qc3,qcY,ZZ,WW,Zd,reduceCtorEq,zd,ze,zb,zf,za]
 refine qad (fun n fr L=>(0:Nat)=n∧fr=(.row (.b 0)::.p (int 0)::.p (int (l.length:Nat))::.p (int (lim:Nat))::.p (.clo g ps)::oC (oo::(.p (.bool true)::.p (.bool true)::oG (oG (oD [])))))∧L=[(.b 0,.row (l.map (fun x=>([int (f0 x)]:List PV))) qiE 1 true)]) ((0:Nat)) _ _ (by (simp only [ZZ,WW,Zd,reduceCtorEq,zd,ze,zb,zf,za];try trivial)) (by (simp only [ZZ,WW,Zd,reduceCtorEq,zd,ze,zb,zf,za];try trivial)) ⟨rfl,rfl,rfl⟩ ?_
 rintro n fr L ⟨rfl,rfl,rfl⟩
 simp only [qcr,ZZ,WW,Zd,reduceCtorEq,zd,ze,zb,zf,za]
 have h12:decide ((l.length:Int)≤12)=true:=by rw [decide_eq_true_eq];omega
 simp only [ZZ,WW,Zd,reduceCtorEq,zd,ze,zb,zf,za,h12,Int.sub_zero]
 refine ⟨qan (by omega) (by omega),?_⟩
 refine useR (qp2 f0 cf hO g ps hg l hl hc hn hr) rfl rfl rfl zE_ ?_
 rintro x es ⟨rfl,l',rfl,hp,hs⟩
 refine zS ?_
 exact qjK _ rfl ⟨rfl,l',rfl,hp,hs⟩
theorem qs1 {α:Type} (f0:α→Int) (cf:α→α→Int) (hO:OrdP (ltC cf)) (g:FuncId) (ps:List PV) (hg:Unit→fnB Tryz.prog g=true) (l:List α) (hl:l.length≤12) (hc:∀ x∈l,∀ y∈l,PCall Tryz.prog E g (int (f0 x) :: int (f0 y) :: ps) (·=int (cf x y)))
  (hn:∀ x y,Zbg [] (.p (int (f0 x)) :: .p (int (f0 y)) :: ps.map .p)=some (int (f0 x) :: int (f0 y) :: ps)) (hr:∀ x y,Zbi (.p (int (f0 x)) :: .p (int (f0 y)) :: ps.map .p)=true):RCall Tryz.prog E 166 qiE 1 (l.map (fun x=>([int (f0 x)]:List PV))) [.clo g ps] (fun x es'=>x=.tup []∧∃ l':List α,es'=l'.map (fun x=>([int (f0 x)]:List PV))∧l'.Perm l∧SrtP (ltC cf) l'):=by
 have wr:IntKind.u64.wrap (l.length:Int)=l.length:=by simp [IntKind.wrap,IntKind.bits,IntKind.signed];omega
 unfold RCall
 refine qge mixed Tryz.func166 qhE ?_
 simp only [a0,l0,OS.ao,zk,zr,zi,zo,zl,zm,zu,zd,zh,zj,zB,qdw,qds,ZZ,WW,Zd,reduceCtorEq,zd,ze,zb,zf,za]
 rw [wr]
 refine use1 (qqo (l.length:Nat) (by omega) (by omega)) rfl (.inl rfl) ?_
 generalize Lib.bitLen _=lim
 refine zS ?_
 refine useR (qvC f0 cf hO g ps hg l hl hc hn hr lim) rfl rfl rfl zE_ ?_
 rintro x es ⟨rfl,l',rfl,hp,hs⟩
 refine zS ?_
 exact qjK _ rfl ⟨rfl,l',rfl,hp,hs⟩
end
def qdD:IC:=(sR [qT 30 .lss 29 28] (.seq (.cond (.t 30) .skip (.exit 2)) (.seq (.block 3 (sR [qX 31 1 27 29,qL 32 31,qM 8 32] (.seq (sR [qL 33 1,qM 34 8,qX 35 7 33 34,qF 36 5 35,qL 37 36,qB 38 .eql 37 (.c (.str []))] (.cond (.t 38) (.reg [qM 39 6,qL 40 1,qM 41 8,qX 42 7 40 41,qF 43 0 42,qL 44 43,qO 45 (.bldg [.str [],.nl 1] [(0,1,.t 44)]),qO 46 (.bsr 119 2 [.t 45]),qO 47 (.app 119 2 40 (.t 39) (.t 46)),qM 6 47]) .skip)) (.cut (sR [qM 48 6,qM 49 6,qN 50 49,qB 51 .sub 50 (cI 1),qX 52 2 48 51,qM 9 52] (.drp [1,2,3,4,5,6,7,8,9,10,11,0,12,13,14] [qM 54 9,qO 55 (.nck (.t 54)),qF 56 1 55,qL 57 56,qL 58 1,qM 59 8,qX 60 7 58 59,qF 61 0 60,qL 62 61,qO 63 (.bsl 1 [.t 62]),qO 64 (.app 9 1 16 (.t 57) (.t 63)),qM 53 9,qO 65 (.nck (.t 53)),qF 66 1 65,qS 1 66 64])))))) (.reg [qB 67 .add 29 (cI 1),qM 29 67]))))
def qdE:IC:=(sR [qT 17 .lss 16 15] (.seq (.cond (.t 17) .skip (.exit 0)) (.seq (.block 1 (sR [qM 18 16,qM 5 18] (.reg [qM 19 4,qM 20 5,qM 21 5,qX 22 1 19 20,qS 1 22 21]))) (.reg [qB 23 .add 16 (cI 1),qM 16 23]))))
def qeT:IC:=(sR [qO 1 (.box 30 (.t 0)),qO 2 (.mov (.c (.nl 2))),⟨none,.re,none⟩] (sR [qO 10 (.mkf 164 [.t 1]),qO 3 (.alc 190 [.raw .nilFunc]),qS 1 3 10] (sR [qL 11 1,⟨none,.re,none⟩,qN 12 11,qO 13 (.mks 3 1 8 [.int .i64 0] (.t 12) (.t 12)),qM 4 13] (.seq (sR [qM 14 4,qN 15 14,qO 16 (.mov (cI 0))] (.block 0 (.loop qdE))) (sR [qM 24 4,qO 25 (.mkf 167 [.t 3]),qO 26 (.call 166 [.t 24,.t 25])] (sR [qO 6 (.nilr 119 2)] (.seq (sR [qM 27 4,qN 28 27,qO 29 (.mov (cI 0))] (.block 2 (.loop qdD))) (sR [qM 68 6,qM 2 68,⟨none,.re,none⟩] .ret))))))))
def qeI:List IRes:=[.t 2]
theorem qji:chkF Tryz.prog Tryz.f83 qeT qeI 69=true:=by kernel_rfl
def qc6:IC:=(sR [qT 24 .lss 23 22] (.seq (.cond (.t 24) .skip (.exit 0)) (.seq (.block 1 (sR [qX 25 1 21 23,qL 26 25,qM 8 26] (.reg [qL 27 1,qM 28 8,qX 29 7 27 28,qF 30 0 29,qL 31 30,qO 32 (.bsr 9 1 [.t 31]),qM 33 6,qO 34 (.app 9 1 16 (.t 32) (.t 33)),⟨none,.re,none⟩,qM 6 34]))) (.reg [qB 35 .add 23 (cI 1),qM 23 35]))))
def qd4:IC:=(sR [qO 3 (.mov (.c (.nl 1)))] (sR [qL 10 1,qM 11 0,qO 12 (.call 165 [.t 10,.t 11]),qM 9 12,qO 13 (.ext 0 (.t 9)),qO 14 (.ext 1 (.t 9)),qM 4 13,qM 5 14] (sR [qL 15 1,qM 16 0,qX 17 7 15 16,qF 18 0 17,qL 19 18,qO 20 (.bsl 1 [.t 19]),qM 6 20] (.seq (sR [qM 21 4,qN 22 21,qO 23 (.mov (cI 0))] (.block 0 (.loop qc6))) (sR [qM 36 6,qM 3 36] .ret)))))
def qdS:List IRes:=[.t 3]
theorem qiw:chkF Tryz.prog Tryz.f164 qd4 qdS 37=true:=by kernel_rfl
def qd3:IC:=(sR [qO 5 (.mov (cI 0))] (.seq (.drg [qL 6 2,qM 7 0,qO 8 (.pcv 0 (.t 6) [.t 7]),qL 9 2,qM 10 1,qO 11 (.pcv 1 (.t 9) [.t 10]),qO 12 (.pcall 2 168 [.t 8,.t 11]),qM 5 12]) .ret))
def qdR:List IRes:=[.t 5]
theorem qiv:chkF Tryz.prog Tryz.f167 qd3 qdR 13=true:=by kernel_rfl
def wayF (il:List Itm) (i:Nat):List (List UInt8):=((upF il (atI il i)).map fun v=>(atI il v.toNat).1).reverse++[(atI il i).1]
theorem qBp {il:List Itm} (hP:qaP il) {i:Nat} (hi:i < il.length):∀ v∈upF il (atI il i),∃ j:Nat,v=(j:Nat)∧j < il.length:=by
 intro v hv
 obtain ⟨h20,h1|⟨j,hj,h1,h2⟩⟩:=qlz hP hi
 ·unfold upOf at h1
  rw [upF,if_pos h1] at hv
  cases hv
 ·unfold upOf at h1
  rw [upF,if_neg (by rw [h1];exact qj5 j),h1] at hv
  obtain ⟨y,hy⟩:∃ y,il[j]?=some y:=⟨_,zg (by omega)⟩
  rw [qk9 hP hy,zF] at hv
  exact ⟨j,hv,by omega⟩
theorem quU (il:List Itm) (x:Itm):(upF il x).length≤1:=by
 unfold upF
 split<;>simp
theorem qte {il:List Itm} (hP:qaP il) {i:Nat} (hi:i < il.length):i < 20∧((wayF il i=[pid i]∧kyF il i=100 * i)∨∃ j,j < i∧wayF il i=[pid j,pid i]∧kyF il i=100 * j+(i+1)):=by
 obtain ⟨h20,h1|⟨j,hj,h1,h2⟩⟩:=qlz hP hi
 ·refine ⟨h20,.inl ⟨?_,by rw [kyF,if_pos h1]⟩⟩
  unfold upOf at h1
  rw [wayF,upF,if_pos h1,quA hP hi]
  rfl
 ·refine ⟨h20,.inr ⟨j,hj,?_,?_⟩⟩
  ·have h1':=h1
   unfold upOf at h1'
   obtain ⟨y,hy⟩:∃ y,il[j]?=some y:=⟨_,zg (by omega)⟩
   rw [wayF,upF,if_neg (by rw [h1'];exact qj5 j),h1',qk9 hP hy,quA hP hi]
   simp only [zk,zr,Int.toNat_natCast]
   rw [quA hP (by omega)]
   rfl
  ·have:=qsE ⟨j,by omega⟩
   simp only at this
   rw [kyF,if_neg (by rw [h1];exact qj5 j),h1,this]
theorem qCr:∀ a b:Fin 20,Lib.compareBytes (pid a.val) (pid b.val)=if a.val < b.val then -1 else if a.val=b.val then 0 else 1:=by decide +kernel
theorem qA6 {a b:Nat} (ha:a < 20) (hb:b < 20):Lib.compareBytes (pid a) (pid b)=if a < b then -1 else if a=b then 0 else 1:=qCr ⟨a,ha⟩ ⟨b,hb⟩
theorem qBn {il:List Itm} (hP:qaP il) {i j:Nat} (hi:i < il.length) (hj:j < il.length):lexC (wayF il i) (wayF il j) < 0↔kyF il i < kyF il j:=by
 obtain ⟨i20,hi2⟩:=qte hP hi
 obtain ⟨j20,hj2⟩:=qte hP hj
 rcases hi2 with ⟨w1,k1⟩|⟨a,ha,w1,k1⟩<;>rcases hj2 with ⟨w2,k2⟩|⟨b,hb,w2,k2⟩<;>rw [w1,w2,k1,k2]<;>simp only [lexC]<;>(repeat rw [qA6 (by omega) (by omega)])<;>repeat' split
 all_goals omega
def cfW (il:List Itm) (i j:Nat):Int:=if i < il.length∧j < il.length then lexC (wayF il i) (wayF il j) else (kyF il i:Int) - kyF il j
theorem qze {il:List Itm} (hP:qaP il):ltC (cfW il)=fun i j=>decide (kyF il i < kyF il j):=by
 funext i j
 unfold ltC cfW
 rw [decide_eq_decide]
 split
 ·rename_i h
  exact qBn hP h.1 h.2
 ·omega
theorem qA2 {il:List Itm} (hP:qaP il):OrdP (ltC (cfW il)):=by
 rw [qze hP]
 constructor
 ·intro x y h
  simp only [decide_eq_true_eq,decide_eq_false_iff_not] at *
  omega
 ·intro x y z h1 h2
  simp only [decide_eq_false_iff_not] at *
  omega
theorem qA1 {il:List Itm} (hP:qaP il) {o:List Nat} (hp:o.Perm (zE il.length)) (hs:SrtP (ltC (cfW il)) o):o=ordX il:=by
 refine qxF hP hp ?_
 unfold SrtP at hs
 rw [qze hP] at hs
 refine hs.imp fun h=>?_
 simp only [decide_eq_false_iff_not] at h
 omega
section
variable {E:Envt}
theorem qyV (il:List Itm) (hP:qaP il) (i:Nat) (hi:i < il.length):PCall Tryz.prog E 164 [int (i:Nat),.ptr [.sl 7 (itE il)]] (·=.sl 1 (strE (wayF il i))):=by
 have h20:=hP.1
 obtain ⟨x,hx⟩:∃ x,il[i]?=some x:=⟨_,zg hi⟩
 have hg:=qbG hx
 have ha:=qpg hx
 have hu:=qBp hP hi
 have hul:=quU il x
 have hw:wayF il i=((upF il x).map fun v=>(atI il v.toNat).1).reverse++[x.1]:=by rw [wayF,ha]
 rw [ha] at hu
 rw [hw]
 simp only [itC] at hg
 refine qae mixed Tryz.func164 qiw ?_
 simp only [a0,l0,OS.ao,zk,zr,zi,zo,zl,zm,zu,zd,zh,zj,qd4,qdS,ZZ,WW,Zd,reduceCtorEq,zd,ze,zb,zf,za]
 refine use1 (qkx il hP i x hx) rfl (.inl rfl) ?_
 generalize upF il x=u at *
 simp only [ZZ,WW,Zd,reduceCtorEq,zd,ze,zb,zf,za,hg,qai,qi9]
 ((with_reducible and_intros)<;>try exact sc_)
 refine qad (fun n fr L=>∃ (k:Nat) (w:List (List UInt8)),k≤u.length∧n=u.length - k∧(w=((u.take k).map fun v=>(atI il v.toNat).1).reverse++[x.1])∧fr=(.p (int (i:Nat))::.p (.ptr [.sl 7 (itE il)])::oo::oo::oo::oo::.p (.sl 1 (strE w))::oD (oC (oB (.p (.sl 1 (ixE u))::.p (int (u.length:Nat))::.p (int (k:Nat))::oD (oC (oo::[]))))))∧L=[]) (u.length) _ [] (by simp only [ZZ,WW,Zd,reduceCtorEq,zd,ze,zb,zf,za,qi9];try trivial) (by (simp only [ZZ,WW,Zd,reduceCtorEq,zd,ze,zb,zf,za];try trivial)) ⟨0,[x.1],by omega,by omega,rfl,rfl,rfl⟩ ?_
 rintro n fr L ⟨k,w,hk,rfl,hwk,rfl,rfl⟩
 simp only [qc6,ZZ,WW,Zd,reduceCtorEq,zd,ze,zb,zf,za]
 refine br ?_ ?_
 ·intro h
  have hlt:k < u.length:=by have:=of_decide_eq_true h;omega
  obtain ⟨v,hv⟩:∃ v,u[k]?=some v:=⟨_,zg hlt⟩
  have hgu:=qv7 hv
  obtain ⟨j,hvj,hjl⟩:=hu v (zx hv)
  obtain ⟨y,hy⟩:∃ y,il[j]?=some y:=⟨_,zg hjl⟩
  have hgy:=qbG hy
  simp only [itC] at hgy
  have hwl:w.length≤3:=by rw [hwk];simp only [zK,List.length_reverse,zB,zP,List.length_singleton];omega
  rw [hvj] at hgu
  simp only [ZZ,WW,Zd,reduceCtorEq,zd,ze,zb,zf,za,hgu,hgy,qai,qi9,qag]
  ((with_reducible and_intros)<;>try exact sc_)
  rw [qa6]
  refine ⟨_,_,qbO (k:=.l 32) rfl,?_⟩
  refine zS ?_
  ((with_reducible and_intros)<;>try exact sc_)
  refine qac (u.length - (k+1)) _ [] (by omega) (by (simp only [ZZ,WW,Zd,reduceCtorEq,zd,ze,zb,zf,za];try trivial)) (by (simp only [ZZ,WW,Zd,reduceCtorEq,zd,ze,zb,zf,za];try trivial)) ⟨k+1,y.1 :: w,by omega,rfl,by rw [hwk,zy hlt,(zt.1 hv).2,hvj];simp [qpg hy],rfl,rfl⟩
 intro h
 have hge:u.length≤k:=by have:=of_decide_eq_false h;omega
 rw [zC hge] at hwk
 refine zS ?_
 rw [hwk]
theorem qzn (il:List Itm) (hP:qaP il) (i j:Nat) (hi:i < il.length) (hj:j < il.length):PCall Tryz.prog E 167 [int (i:Nat),int (j:Nat),.ptr [.clo 164 [.ptr [.sl 7 (itE il)]]]] (·=int (cfW il i j)):=by
 have hc:cfW il i j=lexC (wayF il i) (wayF il j):=by rw [cfW,if_pos ⟨hi,hj⟩]
 rw [hc]
 refine qae mixed Tryz.func167 qiv ?_
 simp only [a0,l0,OS.ao,zk,zr,zi,zo,zl,zm,zu,zd,zh,zj,qd3,qdR,ZZ,WW,Zd,reduceCtorEq,zd,ze,zb,zf,za]
 refine ⟨[.sl 1 (strE (wayF il i)),.sl 1 (strE (wayF il j)),int (lexC (wayF il i) (wayF il j))],?_⟩
 refine zS ?_
 have wl:∀ i,(wayF il i).length≤2:=fun i=>by
  have:=quU il (atI il i)
  simp only [wayF,zK,List.length_reverse,zB,List.length_singleton]
  omega
 have w1:=wl i
 have w2:=wl j
 exact ⟨⟨by kernel_rfl,usep (qyV il hP i hi) rfl (.inl rfl)⟩,⟨by kernel_rfl,usep (qyV il hP j hj) rfl (.inl rfl)⟩,usep (qrR _ _ (by omega) (by omega)) rfl (.inl rfl)⟩
end
end Go.Proofs.YtehfjlpenlffmaaGreatDoor
