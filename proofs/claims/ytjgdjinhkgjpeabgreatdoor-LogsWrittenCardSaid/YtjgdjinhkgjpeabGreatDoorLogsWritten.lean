import Derived.Test.YtjgdjinhkgjpeabGreatDoorZ16
set_option linter.unusedVariables false
set_option linter.unusedSimpArgs false
set_option linter.defProp false
namespace Go.Proofs.YtjgdjinhkgjpeabGreatDoor
open Nat renaming reduceAdd→zd,reduceEqDiff→zb,reduceLT→zf,reduceLeDiff→za,reduceMul→ze
open Bool renaming and_eq_true→zi
open Go.RowKit
def qa3:IC:=(.seq (sR [qM 39 7,qM 40 5,qT 41 .neq 39 40,qM 42 41,⟨some 43,.mov (.t 5),(some (42,false))⟩,⟨some 44,.bin .eql (.t 43) (cI 0),(some (42,false))⟩,⟨some 45,.mov (.t 44),(some (42,false))⟩,⟨some 46,.mov (.t 6),(some (45,true))⟩,⟨some 47,.mov (.t 4),(some (45,true))⟩,⟨some 48,.call 8 [.t 47],(some (45,true))⟩,⟨some 49,.bin .neq (.t 46) (.t 48),(some (45,true))⟩,⟨some 50,.pick (.t 45) (.t 49) (.c (.bool false)),(some (42,false))⟩,qO 51 (.pick (.t 42) (.c (.bool true)) (.t 50))] (jW 51 (sR [qO 2 (.mov (.c (.bool false)))] .ret))) (sR [qM 52 3,jC 53 9 [.t 52],qM 8 53] (sR [qM 55 8,⟨none,.fz (.t 55),none⟩,jC 56 10 [.t 55],qM 54 56,qO 57 (.ext 0 (.t 54)),qO 58 (.ext 1 (.t 54)),qO 59 (.ext 2 (.t 54)),qM 9 57,qM 10 58,qM 11 59] (sR [qM 61 8,⟨none,.fz (.t 61),none⟩,jC 62 11 [.t 61],qM 60 62,qO 63 (.ext 0 (.t 60)),qO 64 (.ext 1 (.t 60)),qO 65 (.ext 2 (.t 60)),qM 12 63,qM 13 64,qM 14 65] (sR [jC 66 12 [],qM 67 66,⟨some 68,.mov (.t 11),(some (67,true))⟩,⟨some 69,.mov (.t 14),(some (67,true))⟩,⟨some 70,.bin .eql (.t 68) (.t 69),(some (67,true))⟩,qO 71 (.pick (.t 67) (.t 70) (.c (.bool false))),qM 72 71,⟨some 73,.mov (.t 10),(some (72,true))⟩,⟨some 74,.mov (.t 13),(some (72,true))⟩,⟨some 75,.bin .eql (.t 73) (.t 74),(some (72,true))⟩,qO 76 (.pick (.t 72) (.t 75) (.c (.bool false))),qM 77 76,⟨some 78,.mov (.t 9),(some (77,true))⟩,⟨some 79,.mov (.t 12),(some (77,true))⟩,⟨some 80,.call 13 [.t 78,.t 79],(some (77,true))⟩,qO 81 (.pick (.t 77) (.t 80) (.c (.bool false))),qM 2 81] .ret)))))
abbrev qeq:IC:=(sR [qO 2 (.mov (.c (.bool false)))] (sR [qM 15 0,qO 16 (.bld [.nl 1,.int .i64 0] [(0,1,.t 15)]),qO 17 (.box 25 (.t 16)),qM 3 17] (sR [qM 18 3,jC 19 4 [.t 18],qM 4 19] (sR [qM 20 4,jC 21 5 [.t 20],qM 5 21] (.seq (sR [qM 22 4,jC 23 6 [.t 22],qM 24 5,qT 25 .neq 23 24] (jW 25 (sR [qO 2 (.mov (.c (.bool false)))] .ret))) (sR [qM 27 4,jC 28 7 [.t 27],qM 26 28,qO 29 (.ext 0 (.t 26)),qO 30 (.ext 1 (.t 26)),qM 6 29,qM 7 30] (.seq (sR [qM 31 5,qB 32 .eql 31 (cI 0),qM 33 32,⟨some 34,.mov (.t 4),(some (33,true))⟩,⟨some 35,.call 8 [.t 34],(some (33,true))⟩,⟨some 36,.sln (.t 35),(some (33,true))⟩,⟨some 37,.bin .gtr (.t 36) (cI 200000),(some (33,true))⟩,qO 38 (.pick (.t 33) (.t 37) (.c (.bool false)))] (jW 38 (.reg [jI 5 2]))) (.cut qa3))))))))
theorem qeD:chkF Tryz.prog Tryz.f3 qeq [.t 2] 82=true:=by kernel_rfl
def LwM (z:List Int) (fr:List AV) (L:Objs):Prop:=∃ (u:List Lr) (p:List UInt8) (e:Int) (k2:Nat),u.length≤20∧(∀ r∈u,LrT r)∧k2≤11000∧(e=0→p=lgT u)∧fr=(oo::oo::oo::.adr (.l 17) 0::.p (.sl 8 (lrE u))::.p (int e)::.p (.str p)::.p (int e)::oG (oD (oB [])))∧L=[(.l 17,.box ((stm z k2).map .p) T)]
set_option maxRecDepth 100000 in
set_option maxHeartbeats 8000000 in
theorem qv7 (z:List Int) (hl:z.length≤9223372036854775807) (fr:List AV) (L:Objs) (hM:LwM z fr L):awp Tryz.prog E5 qa3 fr L (retQ [.t 2] fun x _=>x=.bool true):=by
 obtain ⟨u,p,e,k2,hu,hub,hk2,hep,rfl,rfl⟩:=hM
 simp only [qa3,ZZ,WW,Ze,reduceCtorEq,zd,ze,za,zf,zb]
 simp only [ZZ,WW,Ze,reduceCtorEq,zd,ze,za,zf,zb,decide_true,Bool.not_true,Bool.not_false,Bool.true_and]
 refine useG (fun h=>qiD u hub (by omega)) rfl (.inl rfl) ?_
 simp only [ZZ,WW,Ze,reduceCtorEq,zd,ze,za,zf,zb,decide_true,Bool.not_true,Bool.not_false,Bool.true_and,Bool.false_or]
 refine br ?_ ?_
 ·intro h
  exfalso
  rw [zi,decide_eq_true_eq,Bool.not_eq_true',decide_eq_false_iff_not] at h
  exact h.2 (hep h.1)
 intro _
 refine zS ?_
 refine useS (k:=.l 17) (qoQ z k2 (by omega) hl) rfl rfl rfl zE_ ?_
 rintro x cs' ⟨t,k3,rfl,htl,rfl,hk3⟩
 refine zS ?_
 refine use1 (qoU t htl) rfl (.inl rfl) ?_
 have hbd:=qvU t
 obtain ⟨o,ho⟩:∃ o,perF t=o:=⟨_,rfl⟩
 rw [ho] at hbd
 obtain ⟨q,i,f⟩:=o
 rw [ho]
 simp only [perR]
 refine zS ?_
 have hF:=qqv t htl
 rw [ho] at hF
 simp only [perR] at hF
 refine use1 hF rfl (.inl rfl) ?_
 refine zS ?_
 refine use1 (up5 qlr) rfl (.inl rfl) ?_
 simp only [ZZ,WW,Ze,reduceCtorEq,zd,ze,za,zf,zb,decide_true,Bool.and_self]
 refine useG (fun _=>qoO q (Nat.le_trans hbd.1 (by decide)) (fun c hc=>Nat.le_trans (hbd.2 c hc) (by decide))) rfl (.inl rfl) ?_
 simp only [ZZ,WW,Ze,reduceCtorEq,zd,ze,za,zf,zb,decide_true,Bool.and_self]
set_option maxRecDepth 100000 in
set_option maxHeartbeats 8000000 in
theorem qkb (z:List Int) (hl:z.length≤9223372036854775807):PCall Tryz.prog E5 3 [ints z] (·=.bool true):=by
 refine qah mixed Tryz.func3 qeD ?_
 refine zV ?_
 simp only [ints,ZZ,WW,Ze,reduceCtorEq,zd,ze,za,zf,zb]
 refine qqE (k:=.l 17) (qxa (qsp z 0 (by omega) hl)) rfl rfl rfl zE_ ?_
 rintro es cs' ⟨u,k1,rfl,hu,hub,rfl,hk1⟩
 have hB:∀ r∈u,LrB r:=fun r hr=>(hub r hr).B
 refine zS ?_
 refine use1 (up5 (qgj u hB)) rfl (.inr rfl) ?_
 refine zS ?_
 refine use1 (up5 (qgn u hB)) rfl (.inr rfl) ?_
 refine zS ?_
 refine br (fun h=>by simp at h) (fun _=>?_)
 refine zS ?_
 obtain ⟨p,e,hpe⟩:∃ (p:List UInt8) (e:Int),priL u=.tup [.str p,int e]:=by
  unfold priL
  split
  ·exact ⟨_,_,rfl⟩
  ·split<;>exact ⟨_,_,rfl⟩
 have tail:=qv7 z hl
 have hP:=qoT u hub (by omega)
 rw [hpe] at hP
 refine use1 hP rfl (.inr rfl) ?_
 refine zS ?_
 refine useG (fun _=>qiD u hub (by omega)) rfl (.inr rfl) ?_
 refine zS ?_
 unfold priL at hpe
 refine br ?_ ?_
 ·intro h
  rw [zi,decide_eq_true_eq,decide_eq_true_eq] at h
  rw [if_neg (fun e=>e h.1),if_pos (by omega)] at hpe
  have he:e=2:=by
   have:=hpe.symm
   simp at this
   exact this.2
  subst he
  refine zS ?_
  exact ⟨(oo::oo::oo::.adr (.l 17) 0::.p (.sl 8 (lrE u))::.p (int 2)::.p (.str p)::.p (int 2)::oG (oD (oB []))),[(.l 17,.box ((stm z k1).map .p) T)],ReOk.trans (qdx (k:=.l 19) rfl) (by simp only [ZZ,WW,Ze,reduceCtorEq,zd,ze,za,zf,zb];exact qbq zF_ zE_),tail _ _ ⟨u,p,2,k1,by omega,hub,by omega,fun e=>by omega,rfl,rfl⟩⟩
 ·intro h
  have he:e=qdd u∧(qdd u=0→p=lgT u):=by
   by_cases h1:qdd u=0
   ·rw [if_neg (fun e=>e h1),if_neg (by rw [Bool.and_eq_false_iff,decide_eq_false_iff_not,decide_eq_false_iff_not] at h;rcases h with h|h;exact absurd h1 h;omega)] at hpe
    simp only [PV.tup.injEq,List.cons.injEq,PV.str.injEq,PV.int.injEq,and_true,true_and] at hpe
    exact ⟨by rw [h1];exact hpe.2.symm,fun _=>hpe.1.symm⟩
   ·rw [if_pos h1] at hpe
    simp only [PV.tup.injEq,List.cons.injEq,PV.str.injEq,PV.int.injEq,and_true,true_and] at hpe
    exact ⟨hpe.2.symm,fun h2=>absurd h2 h1⟩
  obtain ⟨rfl,hp⟩:=he
  refine zS ?_
  exact ⟨(oo::oo::oo::.adr (.l 17) 0::.p (.sl 8 (lrE u))::.p (int (qdd u))::.p (.str p)::.p (int (qdd u))::oG (oD (oB []))),[(.l 17,.box ((stm z k1).map .p) T)],ReOk.trans (qdx (k:=.l 19) rfl) (by simp only [ZZ,WW,Ze,reduceCtorEq,zd,ze,za,zf,zb];exact qbq zF_ zE_),tail _ _ ⟨u,p,_,k1,by omega,hub,by omega,hp,rfl,rfl⟩⟩
theorem qiZ (a0:Option Addr) (len0 cap0:Nat) (z0:List Int) (w:World) (h0:qut .i64 w a0 len0 cap0 z0) (he:E5.ok w∧∀ b,E5.bl b→b < w.heap.size) :
  Calls Tryz.prog 3 #[.slice a0 len0 cap0] w fun e w'=>e=.returned (.bool true)∧Below w.heap.size w w':=
 quX qkb a0 len0 cap0 z0 w h0 he.1 he.2
end Go.Proofs.YtjgdjinhkgjpeabGreatDoor
