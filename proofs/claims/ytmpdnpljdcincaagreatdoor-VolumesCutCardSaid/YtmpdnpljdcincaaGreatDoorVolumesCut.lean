import Derived.Test.YtmpdnpljdcincaaGreatDoorZ24
set_option linter.unusedVariables false
set_option linter.unusedSimpArgs false
set_option linter.defProp false
namespace Go.Proofs.YtmpdnpljdcincaaGreatDoor
open Nat renaming le_refl→zD,reduceAdd→zd,reduceEqDiff→za,reduceLT→zf,reduceLeDiff→zb,reduceMul→ze
open Bool renaming and_eq_false_iff→yu,and_eq_true→zj
open Go.RowKit
abbrev qf5:IC:=(sR [qO 2 (.mov (.c (.bool false)))] (sR [qM 18 0,qO 19 (.bld [.nl 1,.int .i64 0] [(0,1,.t 18)]),qO 20 (.box 25 (.t 19)),qM 3 20] (sR [qM 22 3,qM 23 3,jC 24 7 [.t 23,.c (.int .i64 7)],⟨none,.fz (.t 24),none⟩,jC 25 6 [.t 22,.t 24],qM 21 25,qO 26 (.ext 0 (.t 21)),qO 27 (.ext 1 (.t 21)),qM 4 26,qM 5 27] (sR [qM 28 4,⟨none,.fz (.t 28),none⟩,jC 29 8 [.t 28],qM 30 3,qO 31 (.bsl 1 [.c (.int .i64 1),.c (.int .i64 2),.c (.int .i64 3),.c (.int .i64 10),.c (.int .i64 100000),.c (.int .i64 0)]),jC 32 19 [.t 30,.t 31],qM 33 3,qO 34 (.bsl 1 [.c (.str [65,66]),.c (.str [67,68,69]),.c (.str [90]),.c (.str [97])]),jC 35 20 [.t 33,.t 34],qO 6 (.alc 34 [.int .i64 0,.str [],.int .i64 0,.nl 7]),qS 4 6 29,qM 7 32,qM 8 35] (sR [qO 37 (.ld 4 true (.t 6)),qM 38 7,⟨none,.fz (.t 38),none⟩,jC 39 21 [.t 37,.t 38],qM 36 39,qO 40 (.ext 0 (.t 36)),qO 41 (.ext 1 (.t 36)),qM 9 40,qM 10 41] (sR [qO 42 (.ld 4 true (.t 6)),jC 43 22 [.t 42],qM 11 43] (.seq (sR [qM 44 11,qB 45 .eql 44 (cI 0),qM 46 45,⟨some 47,.mov (.t 7),(some (46,true))⟩,⟨some 48,.bin .lss (.t 47) (cI 1),(some (46,true))⟩,qO 49 (.pick (.t 46) (.t 48) (.c (.bool false)))] (jW 49 (.reg [jI 11 1]))) (.cut (.seq (sR [qM 50 10,qM 51 11,qT 52 .neq 50 51,qM 53 52,⟨some 54,.mov (.t 11),(some (53,false))⟩,⟨some 55,.bin .eql (.t 54) (cI 0),(some (53,false))⟩,⟨some 56,.mov (.t 55),(some (53,false))⟩,⟨some 57,.mov (.t 9),(some (56,true))⟩,⟨some 58,.ld 4 true (.t 6),(some (56,true))⟩,⟨some 59,.mov (.t 7),(some (56,true))⟩,⟨none,.fz (.t 59),none⟩,⟨some 60,.call 24 [.t 58,.t 59],(some (56,true))⟩,⟨some 61,.call 23 [.t 57,.t 60],(some (56,true))⟩,⟨some 62,.not (.t 61),(some (56,true))⟩,⟨some 63,.pick (.t 56) (.t 62) (.c (.bool false)),(some (53,false))⟩,qO 64 (.pick (.t 53) (.c (.bool true)) (.t 63))] (jW 64 (sR [qO 2 (.mov (.c (.bool false)))] .ret))) (sR [qM 66 4,qM 67 8,⟨none,.fz (.t 66),none⟩,⟨none,.fz (.t 67),none⟩,jC 68 25 [.t 66,.t 67],qM 65 68,qO 69 (.ext 0 (.t 65)),qO 70 (.ext 1 (.t 65)),qM 12 69,qM 13 70] (sR [qM 71 4,jC 72 26 [.t 71],qM 11 72] (.seq (sR [qM 73 11,qB 74 .eql 73 (cI 0),qM 75 74,⟨some 76,.mov (.t 8),(some (75,true))⟩,⟨some 77,.bin .eql (.t 76) (.c (.str [97])),(some (75,true))⟩,qO 78 (.pick (.t 75) (.t 77) (.c (.bool false)))] (jW 78 (.reg [jI 11 3]))) (.cut (.seq (sR [qM 79 13,qM 80 11,qT 81 .neq 79 80,qM 82 81,⟨some 83,.mov (.t 11),(some (82,false))⟩,⟨some 84,.bin .eql (.t 83) (cI 0),(some (82,false))⟩,⟨some 85,.mov (.t 84),(some (82,false))⟩,⟨some 86,.mov (.t 12),(some (85,true))⟩,⟨some 87,.mov (.t 4),(some (85,true))⟩,⟨some 88,.mov (.t 8),(some (85,true))⟩,⟨none,.fz (.t 87),none⟩,⟨none,.fz (.t 88),none⟩,⟨some 89,.call 28 [.t 87,.t 88],(some (85,true))⟩,⟨some 90,.call 27 [.t 86,.t 89],(some (85,true))⟩,⟨some 91,.not (.t 90),(some (85,true))⟩,⟨some 92,.pick (.t 85) (.t 91) (.c (.bool false)),(some (82,false))⟩,qO 93 (.pick (.t 82) (.c (.bool true)) (.t 92))] (jW 93 (sR [qO 2 (.mov (.c (.bool false)))] .ret))) (sR [qO 94 (.bsl 1 [.c (.str [111,110,101])]),qO 95 (.bsl 1 [.c (.str [115,101,99,114,101,116]),.c (.str [97,98])]),qO 96 (.bsl 1 [.c (.str [79,110,101])]),qO 97 (.bsl 1 [.c (.str [97,32,98])]),qO 98 (.bsl 1 [.c (.str [119,105,116,104,104,101,108,100])]),qO 99 (.bsl 1 [.t 94,.t 95,.c (.nl 1),.t 96,.t 97,.t 98]),qM 100 3,jC 101 29 [.t 100,.c (.int .i64 6)],qX 102 1 99 101,qL 103 102,qM 14 103] (sR [qO 105 (.ld 4 true (.t 6)),qM 106 14,jC 107 30 [.t 105,.t 106],qM 104 107,qO 108 (.ext 0 (.t 104)),qO 109 (.ext 1 (.t 104)),qM 15 108,qM 16 109] (.seq (sR [qO 110 (.ld 4 true (.t 6)),qM 111 14,jC 112 31 [.t 110,.t 111],qM 17 112] (sR [qM 113 17,qB 114 .neq 113 (cI 0)] (jW 114 (sR [jC 115 16 [],qM 116 115,⟨some 117,.mov (.t 16),(some (116,true))⟩,⟨some 118,.mov (.t 17),(some (116,true))⟩,⟨some 119,.bin .eql (.t 117) (.t 118),(some (116,true))⟩,qO 120 (.pick (.t 116) (.t 119) (.c (.bool false))),qM 2 120] .ret)))) (sR [jC 121 16 [],qM 122 121,⟨some 123,.mov (.t 16),(some (122,true))⟩,⟨some 124,.bin .eql (.t 123) (cI 0),(some (122,true))⟩,qO 125 (.pick (.t 122) (.t 124) (.c (.bool false))),qM 126 125,⟨some 127,.mov (.t 15),(some (126,true))⟩,⟨some 128,.ld 4 true (.t 6),(some (126,true))⟩,⟨some 129,.mov (.t 14),(some (126,true))⟩,⟨some 130,.call 32 [.t 128,.t 129],(some (126,true))⟩,⟨some 131,.call 18 [.t 127,.t 130],(some (126,true))⟩,qO 132 (.pick (.t 126) (.t 131) (.c (.bool false))),qM 2 132] .ret))))))))))))))))))
theorem qgh:chkF Tryz.prog Tryz.f4 qf5 [.t 2] 133=true:=by kernel_rfl
theorem up4T {f:FuncId} {t:TypeId} {cs args:List PV} {e z:Nat} {ψ:List (List PV)→List PV→List PV→Prop} (h:STup Tryz.prog E0 f t cs args e z ψ):STup Tryz.prog E4 f t cs args e z ψ:=fun w U vs v0 hU hE hEb hA hO=>h w U vs v0 hU hE.1 (fun c hc=>hEb c (.inl hc)) hA hO
def M6:List Int:=[1,2,3,10,100000,0]
def P4:List (List UInt8):=[[65,66],[67,68,69],[90],[97]]
def W6:List SRow:=[[[111,110,101]],[[115,101,99,114,101,116],[97,98]],[],[[79,110,101]],[[97,32,98]],[[119,105,116,104,104,101,108,100]]]
theorem qBQ:∀ p∈P4,qdS p=!decide (p=[97]):=by decide
theorem qAj {p:Prd} (hp:PdB p) (h:prdF p=0) (most:Int):(volF most p.shs).length≤1000∧∀ r∈volF most p.shs,r.length≤1000:=by
 have hl:=hp.shs
 have hG:=qqc h
 have hf:(grpF p.shs).flatten=p.shs:=by rw [grpF,qfA hG _ (zD _),List.take_length]
 have hg:(grpF p.shs).length≤p.shs.length:=qhE _ _
 constructor
 ·have:=(qkC most (grpF p.shs) (grpF p.shs).length).1
  unfold volF
  omega
 ·intro r hr
  have:=qmH (most:=most) (k:=(grpF p.shs).length) (n:=p.shs.length) (zD _) (by rw [hf];exact zD _) r hr
  omega
theorem qrN:∀ (l:List (Int×Int)) (a:Int),(gapF a l).length≤l.length
 |[],a=>by simp [gapF]
 |w :: r,a=>by
  have:=qrN r w.2
  rw [gapF,List.length_append,List.length_cons]
  split<;>simp<;>omega
theorem qwL {l:List Prd} (pre:List UInt8) (hB:∀ p∈l,PdB p):(gapC l pre).length≤1000 * l.length:=by
 have h1:=qrN (((l.filter fun p=>decide (p.pre=pre)).flatMap fun p=>winS p.shs).mergeSort fun a b=>decide (a.1≤b.1)) 1
 have h2:=(qnh ((l.filter fun p=>decide (p.pre=pre)).flatMap fun p=>winS p.shs)).1.length_eq
 have h3:=qo8 (l:=l) pre fun p hp=>(hB p hp).shs
 unfold qjO at h3
 unfold gapC
 omega
theorem qAi:∀ q,q < 6→(([[PV.sl 1 [[PV.str [111,110,101]]]],[PV.sl 1 [[PV.str [115,101,99,114,101,116]],[PV.str [97,98]]]],[PV.sl 1 []],[PV.sl 1 [[PV.str [79,110,101]]]],[PV.sl 1 [[PV.str [97,32,98]]]],[PV.sl 1 [[PV.str [119,105,116,104,104,101,108,100]]]]]:List (List PV)).getD q []).getD 0 (PV.bool false)=.sl 1 (strE (W6.getD q []))
 |0,_=>rfl
 |1,_=>rfl
 |2,_=>rfl
 |3,_=>rfl
 |4,_=>rfl
 |5,_=>rfl
 |n+6,h=>absurd h (by omega)
theorem qBD:∀ q,q < 6→(W6.getD q []).length≤2∧∀ w∈W6.getD q [],w.length≤8:=by decide
set_option maxHeartbeats 8000000 in
set_option maxRecDepth 100000 in
theorem qmD (z:List Int) (hl:z.length≤9223372036854775807):PCall Tryz.prog E4 4 [ints z] (·=.bool true):=by
 refine qag mixed Tryz.func4 qgh ?_
 refine zV ?_
 simp only [ints,ZZ,WW,Zd,reduceCtorEq,zd,ze,zb,zf,za]
 refine useS (k:=.l 20) (qsP z 0 7 (by omega) hl (by omega)) rfl rfl rfl zE_ ?_
 rintro x cs' ⟨il,k1,rfl,hil,hP,rfl,hk1⟩
 refine zS ?_
 refine qAk (k:=.l 20) (up4T (qj0 z k1 il hP (by omega) (by omega) hl)) rfl rfl rfl zE_ ?_
 rintro es ps cs' ⟨o,u,k2,rfl,rfl,ho,hoB,hu,hub,rfl,hk2⟩
 refine zS ?_
 refine use1 (qzf o) rfl (.inl rfl) ?_
 have h1B:PdB (oneP o):=by
  unfold oneP
  cases o with
  |nil=>exact qAP
  |cons p r=>exact hoB p (by simp)
 generalize oneP o=p at *
 refine zS ?_
 refine useS (k:=.l 20) (qcM z k2 M6 (by omega) hl (by decide) (by decide)) rfl rfl rfl zE_ ?_
 rintro x cs' ⟨most,rfl,hmost,rfl⟩
 have hm:0≤most∧most≤100000:=by simp [M6] at hmost;omega
 refine zS ?_
 refine useS (k:=.l 20) (qBz z (k2+1) P4 (by omega) hl (by decide) (by decide)) rfl rfl rfl zE_ ?_
 rintro x cs' ⟨s,rfl,hsm,rfl⟩
 have hpa:=qBQ s hsm
 have hsl:s.length≤3:=by simp [P4] at hsm;rcases hsm with rfl|rfl|rfl|rfl<;>simp
 have c0:=qsa p h1B
 have d0:=qe5 p h1B
 have c1:=up4 c0
 have c2:=up4 d0
 have c3:=up4 (qqZ o (by omega) hoB)
 have c4:=up4 (qeM o (by omega) hoB)
 have s1:=qqN (E:=E4) p.no p.pre p.dig p.shs (prdF p) most h1B.shs h1B.all (fun h=>qqc h) ⟨by omega,by omega⟩ c1
 have s2:=fun h=>qpH (E:=E4) p.no p.pre p.dig p.shs most h1B.shs h1B.all (qqc h) ⟨by omega,by omega⟩
 have s3:=qAd (E:=E4) o (by omega) hoB s (by omega) c3
 have s4:=fun h=>qvu (E:=E4) o (by omega) hoB h s
 have hve:volE (prdF p) most=if prdF p=0∧most < 1 then 1 else prdF p:=by
  by_cases h1:prdF p=0
  ·have h3:volE (prdF p) most=qak (!inE most 1 100000) 1:=by
    unfold volE
    rw [h1]
    by_cases hw:qak (!inE most 1 100000) 1=0<;>simp [qai,hw]
   by_cases h2:most < 1
   ·rw [if_pos ⟨h1,h2⟩,h3,show inE most 1 100000=false from by simp [inE];omega];rfl
   ·rw [if_neg (fun h=>h2 h.2),h3,h1,show inE most 1 100000=true from by simp [inE];omega];rfl
  ·rw [if_neg (fun h=>h1 h.1)]
   unfold volE
   simp only [qai,if_neg h1]
 have hge:qlT o s=if pdsF o=0∧s=[97] then 3 else pdsF o:=by
  unfold qlT
  rw [hpa]
  by_cases h1:pdsF o=0
  ·rw [if_pos h1]
   by_cases h2:s=[97]
   ·rw [decide_eq_true h2];exact (if_pos ⟨h1,h2⟩).symm
   ·rw [decide_eq_false h2];exact h1.symm.trans (if_neg (fun h=>h2 h.2)).symm
  ·rw [if_neg h1,if_neg (fun h=>h1 h.1)]
 have hvb:=fun h=>qAj h1B h most
 have s5:=fun h=>qpJ (E:=E4) (volF most p.shs) (by have:=(hvb h).1;omega) (fun r hr=>by have:=(hvb h).2 r hr;omega)
 have hgl:=qwL (l:=o) s hoB
 have s6:=qvw (E:=E4) (gapC o s) (gapC o s) (by omega)
 have s7:=fun ws hw hb=>up4 (qvi p h1B ws hw hb c0)
 have s8:=fun ws hw hb=>up4 (qlZ p ws hw hb d0)
 have s9:=fun h ws hw=>up4 (qqO p h1B h ws hw)
 have hul:=fun ws=>qmI p.shs ws
 have hsh:=h1B.shs
 have huf:∀ ws,unsF p ws=0→prdF p=0:=fun ws h=>by
  unfold unsF at h
  split at h
  ·assumption
  ·rename_i h0;exact absurd h h0
 obtain ⟨no,pre,dig,shs⟩:=p
 simp only [pdV] at s1 s2 s7 s8 s9 c2 hul hsh ⊢
 generalize prdF ⟨no,pre,dig,shs⟩=F at *
 refine zS ?_
 refine use1 s1 rfl (.inl rfl) ?_
 refine zS ?_
 refine use1 c2 rfl (.inl rfl) ?_
 refine zS ?_
 refine qgj (fun fr L=>fr=(oo::oo::oo::.adr (.l 20) 0::.p (.sl 4 (pdE o))::oo::.adr (.l 6) 0::.p (int most)::.p (.str s)::.p (.sl 1 (tbE (if (volE F most)=0 then volF most shs else [])))::.p (int (volE F most))::.p (int (volE F most))::oG (oF (oE (oD (oo::[])))))∧L=[(.l 20,.box ((stm z (k2+1+1)).map .p) T),(.l 6,.box [.p (int no),.p (.str pre),.p (int dig),.p (.sl 7 (shE shs))] tPrd)]) ?_ ?_ ?_
 ·intro h
  rw [zj,decide_eq_true_eq,decide_eq_true_eq] at h
  rw [if_pos h] at hve
  simp only [hve]
  refine zS ?_
  exact qdP _ _ zF_ zE_ ⟨rfl,rfl⟩
 ·intro h
  rw [yu,decide_eq_false_iff_not,decide_eq_false_iff_not] at h
  rw [if_neg (fun hc=>h.elim (fun h=>h hc.1) (fun h=>h hc.2))] at hve
  simp only [hve]
  refine zS ?_
  exact qdP _ _ zF_ zE_ ⟨rfl,rfl⟩
 rintro fr L ⟨rfl,rfl⟩
 have hvz:=fun h=>@qof F most h
 generalize volE F most=V at *
 simp only [ZZ,WW,Zd,reduceCtorEq,zd,ze,zb,zf,za,eq_self,decide_true]
 refine useG (fun h=>s2 (hvz (of_decide_eq_true h))) rfl (.inl rfl) ?_
 refine zS ?_
 refine useG (fun h=>by rw [if_pos (of_decide_eq_true h)];exact s5 (hvz (of_decide_eq_true h))) rfl (.inl rfl) ?_
 refine zS ?_
 refine br (fun h=>by simp at h) ?_
 intro _
 refine zS ?_
 refine use1 s3 rfl (.inl rfl) ?_
 refine zS ?_
 refine use1 c4 rfl (.inl rfl) ?_
 refine zS ?_
 refine qgj (fun fr L=>fr=(oo::oo::oo::.adr (.l 20) 0::.p (.sl 4 (pdE o))::oo::.adr (.l 6) 0::.p (int most)::.p (.str s)::oo::oo::.p (int (qlT o s))::.p (.sl 2 (wnE (if (qlT o s)=0 then gapC o s else [])))::.p (int (qlT o s))::oG (oF (oE (oC (oB (oo::[]))))))∧L=[(.l 20,.box ((stm z (k2+1+1)).map .p) T),(.l 6,.box [.p (int no),.p (.str pre),.p (int dig),.p (.sl 7 (shE shs))] tPrd)]) ?_ ?_ ?_
 ·intro h
  rw [zj,decide_eq_true_eq,decide_eq_true_eq] at h
  rw [if_pos h] at hge
  simp only [hge]
  refine zS ?_
  exact qdP _ _ zF_ zE_ ⟨rfl,rfl⟩
 ·intro h
  rw [yu,decide_eq_false_iff_not,decide_eq_false_iff_not] at h
  rw [if_neg (fun hc=>h.elim (fun h=>h hc.1) (fun h=>h hc.2))] at hge
  simp only [hge]
  refine zS ?_
  exact qdP _ _ zF_ zE_ ⟨rfl,rfl⟩
 rintro fr L ⟨rfl,rfl⟩
 have hgz:qlT o s=0→pdsF o=0:=fun h=>by
  rw [hge] at h
  split at h
  ·cases h
  ·exact h
 generalize qlT o s=V2 at *
 simp only [ZZ,WW,Zd,reduceCtorEq,zd,ze,zb,zf,za,eq_self,decide_true]
 refine useG (fun h=>s4 (hgz (of_decide_eq_true h))) rfl (.inl rfl) ?_
 refine zS ?_
 refine useG (fun h=>by rw [if_pos (of_decide_eq_true h)];rw [decide_eq_true rfl] at s6;exact s6) rfl (.inl rfl) ?_
 refine zS ?_
 refine br (fun h=>by simp at h) ?_
 intro _
 refine zS ?_
 refine useS (k:=.l 20) (qco z (k2+1+1) 6 (by omega) hl (by decide)) rfl rfl rfl zE_ ?_
 rintro x cs' ⟨y,rfl,rfl⟩
 have y1:=qdd y 6
 have y2:=qde y 6 (by omega)
 obtain ⟨q,hq⟩:∃ q:Nat,qc2 y 6=(q:Nat):=⟨(qc2 y 6).toNat,by omega⟩
 rw [hq] at y1 y2 ⊢
 clear hq
 have hq6:q < 6:=by omega
 refine zS ?_
 ((with_reducible and_intros)<;>try exact sc_)
 rw [qAi q hq6]
 obtain ⟨hw1,hw2⟩:=qBD q hq6
 generalize W6.getD q []=ws at *
 have s7:=s7 ws (by omega) (fun w hw=>by have:=hw2 w hw;omega)
 have s8:=s8 ws (by omega) (fun w hw=>by have:=hw2 w hw;omega)
 have s9:=fun h=>s9 (huf ws h) ws (by omega)
 have hul:=hul ws
 generalize hU:unsF ⟨no,pre,dig,shs⟩ ws=U at *
 refine use1 s7 rfl (.inl rfl) ?_
 refine zS ?_
 refine use1 s8 rfl (.inl rfl) ?_
 refine zS ?_
 refine br ?_ ?_
 ·intro h
  refine zS ?_
  refine use1 qj6 rfl (.inl rfl) ?_
  simp only [ZZ,WW,Zd,reduceCtorEq,zd,ze,zb,zf,za,eq_self,decide_true]
  try rfl
 intro h
 have h:U=0:=by simpa using h
 rw [if_pos h]
 refine zS ?_
 refine use1 qj6 rfl (.inl rfl) ?_
 simp only [ZZ,WW,Zd,reduceCtorEq,zd,ze,zb,zf,za,h,eq_self,decide_true]
 refine useG (fun _=>s9 h) rfl (.inl rfl) ?_
 refine zS ?_
 refine useG (fun _=>qlJ (unsL shs ws) (unsL shs ws) (by omega)) rfl (.inl rfl) ?_
 simp only [ZZ,WW,Zd,reduceCtorEq,zd,ze,zb,zf,za,eq_self,decide_true]
 try rfl
theorem qkX (a0:Option Addr) (len0 cap0:Nat) (z0:List Int) (w:World) (h0:qxu .i64 w a0 len0 cap0 z0) (he:E4.ok w∧∀ b,E4.bl b→b < w.heap.size) :
  Calls Tryz.prog 4 #[.slice a0 len0 cap0] w fun e w'=>e=.returned (.bool true)∧Below w.heap.size w w':=
 qya qmD a0 len0 cap0 z0 w h0 he.1 he.2
end Go.Proofs.YtmpdnpljdcincaaGreatDoor
