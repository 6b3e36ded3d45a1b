import Derived.Test.YtinffddgojhdfaaGreatDoorZ11
import Derived.Test.YtinffddgojhdfaaGreatDoorZ13
import Derived.Test.YtinffddgojhdfaaGreatDoorZ14
set_option linter.unusedVariables false
set_option linter.unusedSimpArgs false
set_option linter.defProp false
namespace Go.Proofs.YtinffddgojhdfaaGreatDoor
open Nat renaming reduceAdd→zd,reduceEqDiff→zb,reduceLT→zf,reduceLeDiff→za,reduceMul→ze
open List renaming getElem?_eq_getElem→zm,mem_of_getElem?→zB
open Bool renaming true_and→yd
open Go.RowKit
def qba:IC:=(.seq (.reg [qM 47 3,qM 48 5,⟨none,.fz (.t 48),none⟩,qO 49 (.call 27 [.t 47,.t 48]),qM 7 49]) (.seq (.reg [qM 51 5,⟨none,.fz (.t 51),none⟩,qO 52 (.call 28 [.t 51]),qM 50 52,qO 53 (.ext 0 (.t 50)),qO 54 (.ext 1 (.t 50)),qM 8 53,qM 9 54]) (.seq (.reg [qM 56 5,qM 57 7,⟨none,.fz (.t 56),none⟩,⟨none,.fz (.t 57),none⟩,qO 58 (.call 29 [.t 56,.t 57]),qM 55 58,qO 59 (.ext 0 (.t 55)),qO 60 (.ext 1 (.t 55)),qM 10 59,qM 11 60]) (.seq (.reg [qM 62 5,qM 63 6,⟨none,.fz (.t 62),none⟩,⟨none,.fz (.t 63),none⟩,qO 64 (.call 30 [.t 62,.t 63]),qM 61 64,qO 65 (.ext 0 (.t 61)),qO 66 (.ext 1 (.t 61)),qM 12 65,qM 13 66]) (.seq (.seq (.reg [qM 68 5,qO 69 (.call 10 [.t 68]),qM 67 69,qO 70 (.ext 0 (.t 67)),qO 71 (.ext 1 (.t 67)),qM 14 70,qM 15 71]) (.seq (.reg [qM 72 15,qO 73 (.bin .neq (.t 72) (.c (.int .i64 0)))]) (.cond (.t 73) (.seq (.reg [qO 74 (.call 11 []),qM 75 74,⟨some 76,.mov (.t 9),(some (75,true))⟩,⟨some 77,.mov (.t 15),(some (75,true))⟩,⟨some 78,.bin .eql (.t 76) (.t 77),(some (75,true))⟩,qO 79 (.pick (.t 75) (.t 78) (.c (.bool false))),qM 80 79,⟨some 81,.mov (.t 11),(some (80,true))⟩,⟨some 82,.mov (.t 15),(some (80,true))⟩,⟨some 83,.bin .eql (.t 81) (.t 82),(some (80,true))⟩,qO 84 (.pick (.t 80) (.t 83) (.c (.bool false))),qM 85 84,⟨some 86,.mov (.t 13),(some (85,true))⟩,⟨some 87,.mov (.t 15),(some (85,true))⟩,⟨some 88,.bin .eql (.t 86) (.t 87),(some (85,true))⟩,qO 89 (.pick (.t 85) (.t 88) (.c (.bool false))),qM 2 89]) .ret) .skip))) (.seq (.reg [qM 91 5,qM 92 7,⟨none,.fz (.t 91),none⟩,⟨none,.fz (.t 92),none⟩,qO 93 (.call 31 [.t 91,.t 92]),qM 90 93,qO 94 (.ext 0 (.t 90)),qO 95 (.ext 1 (.t 90)),qM 16 94,qM 17 95]) (.seq (.reg [qM 97 5,qM 98 6,⟨none,.fz (.t 97),none⟩,⟨none,.fz (.t 98),none⟩,qO 99 (.call 32 [.t 97,.t 98]),qM 96 99,qO 100 (.ext 0 (.t 96)),qO 101 (.ext 1 (.t 96)),qM 18 100,qM 19 101]) (.seq (.reg [qO 102 (.call 11 []),qM 103 102,⟨some 104,.mov (.t 9),(some (103,true))⟩,⟨some 105,.bin .eql (.t 104) (.c (.int .i64 0)),(some (103,true))⟩,qO 106 (.pick (.t 103) (.t 105) (.c (.bool false))),qM 107 106,⟨some 108,.mov (.t 8),(some (107,true))⟩,⟨some 109,.mov (.t 5),(some (107,true))⟩,⟨none,.fz (.t 109),none⟩,⟨some 110,.call 34 [.t 109],(some (107,true))⟩,⟨some 111,.call 33 [.t 108,.t 110],(some (107,true))⟩,qO 112 (.pick (.t 107) (.t 111) (.c (.bool false))),qM 113 112,⟨some 114,.mov (.t 11),(some (113,true))⟩,⟨some 115,.mov (.t 17),(some (113,true))⟩,⟨some 116,.bin .eql (.t 114) (.t 115),(some (113,true))⟩,qO 117 (.pick (.t 113) (.t 116) (.c (.bool false))),qM 118 117,⟨some 119,.mov (.t 10),(some (118,true))⟩,⟨some 120,.mov (.t 16),(some (118,true))⟩,⟨some 121,.call 25 [.t 119,.t 120],(some (118,true))⟩,qO 122 (.pick (.t 118) (.t 121) (.c (.bool false))),qM 123 122,⟨some 124,.mov (.t 13),(some (123,true))⟩,⟨some 125,.mov (.t 19),(some (123,true))⟩,⟨some 126,.bin .eql (.t 124) (.t 125),(some (123,true))⟩,qO 127 (.pick (.t 123) (.t 126) (.c (.bool false))),qM 128 127,⟨some 129,.mov (.t 12),(some (128,true))⟩,⟨some 130,.mov (.t 18),(some (128,true))⟩,⟨some 131,.call 25 [.t 129,.t 130],(some (128,true))⟩,qO 132 (.pick (.t 128) (.t 131) (.c (.bool false))),qM 2 132]) .ret))))))))
def qcX:IC:=(.seq (.reg [qO 2 (.mov (.c (.bool false)))]) (.seq (.reg [qM 20 0,qO 21 (.bld [.nl 1,.int .i64 0] [(0,1,.t 20)]),qO 22 (.box 25 (.t 21)),qM 3 22]) (.seq (.reg [qM 23 3,qO 24 (.call 26 [.t 23]),qM 4 24]) (.seq (.drg [qM 25 4,qO 26 (.ixa 1 (.t 25) (.c (.int .i64 0))),qO 27 (.ld 1 false (.t 26)),qM 28 4,qO 29 (.ixa 1 (.t 28) (.c (.int .i64 1))),qO 30 (.ld 1 false (.t 29)),qM 5 27,qM 6 30]) (.seq (.seq (.reg [qM 31 3,qO 32 (.call 17 [.t 31,.c (.int .i64 6)])]) (.block 0 (.seq (.reg [qO 34 (.bin .eql (.t 32) (.c (.int .i64 0))),qM 33 34]) (.cond (.t 33) (.reg [qM 35 3,qM 36 5,⟨none,.fz (.t 36),none⟩,qO 37 (.call 8 [.t 35,.t 36]),qM 5 37]) (.seq (.reg [qO 39 (.bin .eql (.t 32) (.c (.int .i64 1))),qM 38 39]) (.cond (.t 38) (.reg [qM 40 3,qM 41 6,⟨none,.fz (.t 41),none⟩,qO 42 (.call 8 [.t 40,.t 41]),qM 6 42]) (.seq (.reg [qO 44 (.bin .eql (.t 32) (.c (.int .i64 2))),qM 43 44]) (.cond (.t 43) (.reg [qM 45 3,qO 46 (.call 6 [.t 45]),qM 6 46]) .skip)))))))) (.cut qba))))))
def qcK:List IRes:=[.t 2]
theorem qfd:chkF Tryz.prog Tryz.f5 qcX qcK 133=true:=by kernel_rfl
theorem qve {l:List Dd} (h:(ckdF l).2=0):∀ d∈l,1≤d.no:=by
 unfold ckdF at h
 split at h
 ·exact absurd h (by decide)
 split at h
 ·rename_i h1
  have ha:=qeH h1
  intro d hd
  obtain ⟨k,hk⟩:=List.getElem?_of_mem hd
  exact (qtw (l:=l) (fun j hj=>ha j (by omega) (by omega)) k d hk).1
 ·rename_i h1
  exact absurd h h1
theorem quN {l:List Dd} (h:(ckdF l).2=0) (seen:List Stp):sinW l seen=sinV l seen:=by
 unfold sinW sinV
 rw [if_neg (fun e=>e h)]
 by_cases h0:sinF l seen=0
 ·rw [if_pos h0,if_pos h0]
  have h1:∀ j,j < seen.length→sinE l seen j=0:=fun j hj=>qeH h0 j (by omega) (by omega)
  have:=List.filter_congr (l:=l) (p:=prgB seen) (q:=refB seen) fun d hd=>qqW h1 (qve h d hd)
  rw [this]
 ·rw [if_neg h0,if_neg h0]
theorem qte {l:List Dd} (h:¬ (ckdF l).2=0) (seen:List Stp):(sinW l seen).2=(ckdF l).2:=by
 unfold sinW
 rw [if_pos h]
theorem qqX (l:List Dd) (seen:List Stp):(sinV l seen).1.length≤l.length:=by
 unfold sinV
 split
 ·exact List.length_filter_le _ _
 ·simp
theorem qre (a b:List Dd):(mrgV a b).1.length≤a.length+b.length:=by
 unfold mrgV
 have h:=qm1 (a++b)
 have hp:=(qef (mrgF (a++b))).length_eq
 rw [List.length_append] at h
 repeat' split
 all_goals first|(simp;done)|(show (srtD (mrgF (a++b))).length≤_;omega)
def DmM (z:List Int) (fr:List AV) (L:Objs):Prop:=∃ (a b:List Dd) (k2:Nat),DdsB a∧DdsB b∧a.length≤2001∧b.length≤2001∧k2≤5000∧fr=[oo,oo,oo,.adr (.l 22) 0,oo,.p (.sl 12 (ddE a)),.p (.sl 12 (ddE b)),oo,oo,oo,oo,oo,oo,oo,oo,oo,oo,oo,oo,oo,oo,oo,oo,oo,oo,oo,oo,oo,oo,oo,oo,oo,oo,oo,oo,oo,oo,oo,oo,oo,oo,oo,oo,oo,oo,oo,oo,oo,oo,oo,oo,oo,oo,oo,oo,oo,oo,oo,oo,oo,oo,oo,oo,oo,oo,oo,oo,oo,oo,oo,oo,oo,oo,oo,oo,oo,oo,oo,oo,oo,oo,oo,oo,oo,oo,oo,oo,oo,oo,oo,oo,oo,oo,oo,oo,oo,oo,oo,oo,oo,oo,oo,oo,oo,oo,oo,oo,oo,oo,oo,oo,oo,oo,oo,oo,oo,oo,oo,oo,oo,oo,oo,oo,oo,oo,oo,oo,oo,oo,oo,oo,oo,oo]∧L=[(.l 22,.box ((stm z k2).map .p) T)]
set_option maxRecDepth 100000 in
set_option maxHeartbeats 8000000 in
theorem qt8 (z:List Int) (hl:z.length≤9223372036854775807) (fr:List AV) (L:Objs) (hM:DmM z fr L):awp Tryz.prog ED qba fr L (retQ [.t 2] fun x _=>x=.bool true):=by
 obtain ⟨a,b,k2,haB,hbB,hal,hbl,hk2,rfl,rfl⟩:=hM
 simp only [qba,ZZ,WW,Ze,reduceCtorEq,zd,ze,za,zf,zb]
 refine useS (k:=.l 22) (qux z k2 a (by omega) hl haB hal) rfl rfl rfl zE_ ?_
 rintro x cs' ⟨seen,k3,rfl,hsB,hsl,rfl,hk3⟩
 have hvl:(vecF a).length≤2001:=Nat.le_trans (qg5 a a.length) hal
 simp only [ZZ,WW,Ze,reduceCtorEq,zd,ze,za,zf,zb]
 refine use1 (qoT a haB (by omega)) rfl (.inl rfl) ?_
 simp only [ZZ,WW,Ze,reduceCtorEq,zd,ze,za,zf,zb]
 refine use1 (qqn a seen haB (by omega) (by omega) (fun p hp=>(hsB p hp).1)) rfl (.inl rfl) ?_
 simp only [ZZ,WW,Ze,reduceCtorEq,zd,ze,za,zf,zb]
 refine use1 (qqv a b (by omega) (by omega) haB hbB) rfl (.inl rfl) ?_
 by_cases hc:(ckdF a).2=0
 ·have hS:=upD (qlo a seen (by omega) (by omega) (fun p hp=>(hsB p hp).1))
  have hG:=qdO a b (by omega) (by omega) haB hbB
  have hd0:decide ((ckdF a).2=0)=true:=decide_eq_true hc
  have hsl2:=qqX a seen
  have hml2:=qre a b
  rw [quN hc,mgW,if_neg (fun e=>e hc),vecW,if_neg (fun e=>e hc)]
  generalize sinV a seen=S at *
  generalize mrgV a b=G at *
  simp only [ZZ,WW,Ze,reduceCtorEq,zd,ze,za,zf,zb]
  refine use1 (qfj a haB (by omega)) rfl (.inl rfl) ?_
  simp only [ZZ,WW,Ze,reduceCtorEq,zd,ze,za,zf,zb,hd0,decide_true,decide_false,Bool.not_true,Bool.not_false,Bool.or_self,Bool.and_self,Bool.and_false,Bool.false_and,yd,Bool.and_true,Bool.or_false,Bool.false_or,Bool.or_true,Bool.true_or,implies_true,forall_const]
  refine use1 hS rfl (.inl rfl) ?_
  simp only [ZZ,WW,Ze,reduceCtorEq,zd,ze,za,zf,zb]
  refine use1 hG rfl (.inl rfl) ?_
  simp only [ZZ,WW,Ze,reduceCtorEq,zd,ze,za,zf,zb]
  refine use1 qjX rfl (.inl rfl) ?_
  simp only [ZZ,WW,Ze,reduceCtorEq,zd,ze,za,zf,zb,decide_true,decide_false,Bool.not_true,Bool.not_false,Bool.or_self,Bool.and_self,Bool.and_false,Bool.false_and,yd,Bool.and_true,Bool.or_false,Bool.false_or,Bool.or_true,Bool.true_or,implies_true,forall_const]
  refine useG (fun _=>qjs a (by omega)) rfl (.inl rfl) ?_
  simp only [ZZ,WW,Ze,reduceCtorEq,zd,ze,za,zf,zb,decide_true,decide_false,Bool.not_true,Bool.not_false,Bool.or_self,Bool.and_self,Bool.and_false,Bool.false_and,yd,Bool.and_true,Bool.or_false,Bool.false_or,Bool.or_true,Bool.true_or,implies_true,forall_const]
  refine useG (fun _=>qnx (vecF a) (by omega)) rfl (.inl rfl) ?_
  simp only [ZZ,WW,Ze,reduceCtorEq,zd,ze,za,zf,zb,decide_true,decide_false,Bool.not_true,Bool.not_false,Bool.or_self,Bool.and_self,Bool.and_false,Bool.false_and,yd,Bool.and_true,Bool.or_false,Bool.false_or,Bool.or_true,Bool.true_or,implies_true,forall_const]
  refine useG (fun _=>qjt S.1 (by omega)) rfl (.inl rfl) ?_
  simp only [ZZ,WW,Ze,reduceCtorEq,zd,ze,za,zf,zb,decide_true,decide_false,Bool.not_true,Bool.not_false,Bool.or_self,Bool.and_self,Bool.and_false,Bool.false_and,yd,Bool.and_true,Bool.or_false,Bool.false_or,Bool.or_true,Bool.true_or,implies_true,forall_const]
  refine useG (fun _=>qjt G.1 (by omega)) rfl (.inl rfl) ?_
  simp only [ZZ,WW,Ze,reduceCtorEq,zd,ze,za,zf,zb,decide_true,decide_false,Bool.not_true,Bool.not_false,Bool.or_self,Bool.and_self,Bool.and_false,Bool.false_and,yd,Bool.and_true,Bool.or_false,Bool.false_or,Bool.or_true,Bool.true_or,implies_true,forall_const]
 ·have e1:=qte hc seen
  rw [mgW,if_pos hc,vecW,if_pos hc]
  simp only [ZZ,WW,Ze,reduceCtorEq,zd,ze,za,zf,zb]
  refine use1 (qfj a haB (by omega)) rfl (.inl rfl) ?_
  rw [e1]
  generalize (ckdF a).2=e at *
  have hd0:decide (e=0)=false:=decide_eq_false hc
  simp only [ZZ,WW,Ze,reduceCtorEq,zd,ze,za,zf,zb,hd0,decide_true,decide_false,Bool.not_true,Bool.not_false,Bool.or_self,Bool.and_self,Bool.and_false,Bool.false_and,yd,Bool.and_true,Bool.or_false,Bool.false_or,Bool.or_true,Bool.true_or,implies_true,forall_const]
  refine use1 qjX rfl (.inl rfl) ?_
  simp only [ZZ,WW,Ze,reduceCtorEq,zd,ze,za,zf,zb,decide_true,decide_false,Bool.not_true,Bool.not_false,Bool.or_self,Bool.and_self,Bool.and_false,Bool.false_and,yd,Bool.and_true,Bool.or_false,Bool.false_or,Bool.or_true,Bool.true_or,implies_true,forall_const]
set_option maxRecDepth 100000 in
set_option maxHeartbeats 8000000 in
theorem qkY (z:List Int) (hl:z.length≤9223372036854775807):PCall Tryz.prog ED 5 [ints z] (·=.bool true):=by
 refine qah mixed Tryz.func5 qfd ?_
 simp only [a0,l0,OS.ao,List.map_cons,List.map_nil,List.length_cons,List.length_nil,List.cons_append,List.nil_append,Nat.reduceSub,zd,List.replicate_succ,List.replicate_zero,qcX,qcK,ZZ,WW,Ze,reduceCtorEq,zd,ze,za,zf,zb]
 simp only [ints,ZZ,WW,Ze,reduceCtorEq,zd,ze,za,zf,zb]
 refine quA (k:=.l 22) (qoo z 0 (by omega) hl) rfl rfl rfl zE_ ?_
 rintro es cs' ⟨s,k1,rfl,hS,rfl,hk1⟩
 have hs3:=hS.1
 obtain ⟨a,ha⟩:∃ a,s[0]?=some a:=⟨_,zm (by omega)⟩
 obtain ⟨b,hb⟩:∃ b,s[1]?=some b:=⟨_,zm (by omega)⟩
 have hga:=qiO ha
 have hgb:=qiO hb
 have hRa:=hS.2 a (zB ha)
 have hRb:=hS.2 b (zB hb)
 have hal:=hRa.len
 have hbl:=hRb.len
 have tail:=qt8 z hl
 simp only [ZZ,WW,Ze,reduceCtorEq,zd,ze,za,zf,zb]
 refine drg0 ?_
 have i0:(stE s).getD (Int.toNat 0) []=[.sl 12 (ddE a)]:=hga
 have i1:(stE s).getD (Int.toNat 1) []=[.sl 12 (ddE b)]:=hgb
 simp only [ZZ,WW,Ze,reduceCtorEq,zd,ze,za,zf,zb,qdf,i0,i1]
 refine ⟨⟨by omega,by omega⟩,by simp;omega,⟨by omega,by omega⟩,by simp;omega,?_⟩
 refine useS (k:=.l 22) (qb8 z k1 6 (by omega) hl (by decide)) rfl rfl rfl zE_ ?_
 rintro x cs' ⟨y,rfl,rfl⟩
 generalize qdM y 6=w
 simp only [ZZ,WW,Ze,reduceCtorEq,zd,ze,za,zf,zb]
 refine qhH (DmM z) ?_ ?_ (fun fr L h=>tail fr L h)
 ·intro _
  simp only [ZZ,WW,Ze,reduceCtorEq,zd,ze,za,zf,zb]
  refine useS (k:=.l 22) (qgj z (k1+1) a (by omega) hl hRa) rfl rfl rfl zE_ ?_
  rintro x cs' ⟨q,k2,rfl,hqB,hql,rfl,hk2⟩
  simp only [ZZ,WW,Ze,reduceCtorEq,zd,ze,za,zf,zb]
  exact qan [oo,oo,oo,.adr (.l 22) 0,oo,.p (.sl 12 (ddE q)),.p (.sl 12 (ddE b)),oo,oo,oo,oo,oo,oo,oo,oo,oo,oo,oo,oo,oo,oo,oo,oo,oo,oo,oo,oo,oo,oo,oo,oo,oo,oo,oo,oo,oo,oo,oo,oo,oo,oo,oo,oo,oo,oo,oo,oo,oo,oo,oo,oo,oo,oo,oo,oo,oo,oo,oo,oo,oo,oo,oo,oo,oo,oo,oo,oo,oo,oo,oo,oo,oo,oo,oo,oo,oo,oo,oo,oo,oo,oo,oo,oo,oo,oo,oo,oo,oo,oo,oo,oo,oo,oo,oo,oo,oo,oo,oo,oo,oo,oo,oo,oo,oo,oo,oo,oo,oo,oo,oo,oo,oo,oo,oo,oo,oo,oo,oo,oo,oo,oo,oo,oo,oo,oo,oo,oo,oo,oo,oo,oo,oo,oo] [(.l 22,.box ((stm z k2).map .p) T)] (by (simp only [ZZ,WW,Ze,reduceCtorEq,zd,ze,za,zf,zb];try trivial)) zE_ ⟨q,b,k2,hqB,hRb.b,by omega,by omega,by omega,rfl,rfl⟩
 intro _
 simp only [ZZ,WW,Ze,reduceCtorEq,zd,ze,za,zf,zb]
 refine br ?_ ?_
 ·intro _
  simp only [ZZ,WW,Ze,reduceCtorEq,zd,ze,za,zf,zb]
  refine useS (k:=.l 22) (qgj z (k1+1) b (by omega) hl hRb) rfl rfl rfl zE_ ?_
  rintro x cs' ⟨q,k2,rfl,hqB,hql,rfl,hk2⟩
  simp only [ZZ,WW,Ze,reduceCtorEq,zd,ze,za,zf,zb]
  exact qan [oo,oo,oo,.adr (.l 22) 0,oo,.p (.sl 12 (ddE a)),.p (.sl 12 (ddE q)),oo,oo,oo,oo,oo,oo,oo,oo,oo,oo,oo,oo,oo,oo,oo,oo,oo,oo,oo,oo,oo,oo,oo,oo,oo,oo,oo,oo,oo,oo,oo,oo,oo,oo,oo,oo,oo,oo,oo,oo,oo,oo,oo,oo,oo,oo,oo,oo,oo,oo,oo,oo,oo,oo,oo,oo,oo,oo,oo,oo,oo,oo,oo,oo,oo,oo,oo,oo,oo,oo,oo,oo,oo,oo,oo,oo,oo,oo,oo,oo,oo,oo,oo,oo,oo,oo,oo,oo,oo,oo,oo,oo,oo,oo,oo,oo,oo,oo,oo,oo,oo,oo,oo,oo,oo,oo,oo,oo,oo,oo,oo,oo,oo,oo,oo,oo,oo,oo,oo,oo,oo,oo,oo,oo,oo,oo] [(.l 22,.box ((stm z k2).map .p) T)] (by (simp only [ZZ,WW,Ze,reduceCtorEq,zd,ze,za,zf,zb];try trivial)) zE_ ⟨a,q,k2,hRa.b,hqB,by omega,by omega,by omega,rfl,rfl⟩
 intro _
 simp only [ZZ,WW,Ze,reduceCtorEq,zd,ze,za,zf,zb]
 refine br ?_ ?_
 ·intro _
  simp only [ZZ,WW,Ze,reduceCtorEq,zd,ze,za,zf,zb]
  refine useS (k:=.l 22) (qsd z (k1+1) (by omega) hl) rfl rfl rfl zE_ ?_
  rintro x cs' ⟨q,k2,rfl,hRq,rfl,hk2⟩
  have hql:=hRq.len
  simp only [ZZ,WW,Ze,reduceCtorEq,zd,ze,za,zf,zb]
  exact qan [oo,oo,oo,.adr (.l 22) 0,oo,.p (.sl 12 (ddE a)),.p (.sl 12 (ddE q)),oo,oo,oo,oo,oo,oo,oo,oo,oo,oo,oo,oo,oo,oo,oo,oo,oo,oo,oo,oo,oo,oo,oo,oo,oo,oo,oo,oo,oo,oo,oo,oo,oo,oo,oo,oo,oo,oo,oo,oo,oo,oo,oo,oo,oo,oo,oo,oo,oo,oo,oo,oo,oo,oo,oo,oo,oo,oo,oo,oo,oo,oo,oo,oo,oo,oo,oo,oo,oo,oo,oo,oo,oo,oo,oo,oo,oo,oo,oo,oo,oo,oo,oo,oo,oo,oo,oo,oo,oo,oo,oo,oo,oo,oo,oo,oo,oo,oo,oo,oo,oo,oo,oo,oo,oo,oo,oo,oo,oo,oo,oo,oo,oo,oo,oo,oo,oo,oo,oo,oo,oo,oo,oo,oo,oo,oo] [(.l 22,.box ((stm z k2).map .p) T)] (by (simp only [ZZ,WW,Ze,reduceCtorEq,zd,ze,za,zf,zb];try trivial)) zE_ ⟨a,q,k2,hRa.b,hRq.b,by omega,by omega,by omega,rfl,rfl⟩
 ·intro _
  simp only [ZZ,WW,Ze,reduceCtorEq,zd,ze,za,zf,zb]
  exact qan [oo,oo,oo,.adr (.l 22) 0,oo,.p (.sl 12 (ddE a)),.p (.sl 12 (ddE b)),oo,oo,oo,oo,oo,oo,oo,oo,oo,oo,oo,oo,oo,oo,oo,oo,oo,oo,oo,oo,oo,oo,oo,oo,oo,oo,oo,oo,oo,oo,oo,oo,oo,oo,oo,oo,oo,oo,oo,oo,oo,oo,oo,oo,oo,oo,oo,oo,oo,oo,oo,oo,oo,oo,oo,oo,oo,oo,oo,oo,oo,oo,oo,oo,oo,oo,oo,oo,oo,oo,oo,oo,oo,oo,oo,oo,oo,oo,oo,oo,oo,oo,oo,oo,oo,oo,oo,oo,oo,oo,oo,oo,oo,oo,oo,oo,oo,oo,oo,oo,oo,oo,oo,oo,oo,oo,oo,oo,oo,oo,oo,oo,oo,oo,oo,oo,oo,oo,oo,oo,oo,oo,oo,oo,oo,oo] [(.l 22,.box ((stm z (k1+1)).map .p) T)] (by (simp only [ZZ,WW,Ze,reduceCtorEq,zd,ze,za,zf,zb];try trivial)) zE_ ⟨a,b,_,hRa.b,hRb.b,by omega,by omega,by omega,rfl,rfl⟩
theorem qja (a0:Option Addr) (len0 cap0:Nat) (z0:List Int) (w:World) (h0:qr3 .i64 w a0 len0 cap0 z0) (he:ED.ok w∧∀ b,ED.bl b→b < w.heap.size) :
  Calls Tryz.prog 5 #[.slice a0 len0 cap0] w fun e w'=>e=.returned (.bool true)∧Below w.heap.size w w':=
 qsx qkY a0 len0 cap0 z0 w h0 he.1 he.2
end Go.Proofs.YtinffddgojhdfaaGreatDoor
