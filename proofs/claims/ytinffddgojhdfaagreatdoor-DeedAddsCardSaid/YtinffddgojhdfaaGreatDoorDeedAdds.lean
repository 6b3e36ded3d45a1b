import Derived.Test.YtinffddgojhdfaaGreatDoorZ11
import Derived.Test.YtinffddgojhdfaaGreatDoorZ14
set_option linter.unusedVariables false
set_option linter.unusedSimpArgs false
set_option linter.defProp false
namespace Go.Proofs.YtinffddgojhdfaaGreatDoor
open Nat renaming reduceAdd→zd,reduceEqDiff→zb,reduceLT→zf,reduceLeDiff→za,reduceMul→ze
open Bool renaming and_false→yn,and_true→yc,false_and→zW,not_false→yd,not_true→yq,or_false→yk,true_and→zQ
open Go.RowKit
def qbn:IC:=(.seq (.reg [qO 160 (.call 11 []),qM 161 160,⟨some 162,.mov (.t 14),(some (161,true))⟩,⟨some 163,.mov (.t 23),(some (161,true))⟩,⟨some 164,.bin .eql (.t 162) (.t 163),(some (161,true))⟩,qO 165 (.pick (.t 161) (.t 164) (.c (.bool false))),qM 166 165,⟨some 167,.mov (.t 16),(some (166,true))⟩,⟨some 168,.mov (.t 25),(some (166,true))⟩,⟨some 169,.bin .eql (.t 167) (.t 168),(some (166,true))⟩,qO 170 (.pick (.t 166) (.t 169) (.c (.bool false))),qM 171 170,⟨some 172,.mov (.t 13),(some (171,true))⟩,⟨some 173,.mov (.t 22),(some (171,true))⟩,⟨some 174,.call 25 [.t 172,.t 173],(some (171,true))⟩,qO 175 (.pick (.t 171) (.t 174) (.c (.bool false))),qM 176 175,⟨some 177,.mov (.t 15),(some (176,true))⟩,⟨some 178,.mov (.t 24),(some (176,true))⟩,⟨some 179,.call 25 [.t 177,.t 178],(some (176,true))⟩,qO 180 (.pick (.t 176) (.t 179) (.c (.bool false))),qM 181 180,⟨some 182,.mov (.t 28),(some (181,true))⟩,qO 183 (.pick (.t 181) (.t 182) (.c (.bool false))),qM 2 183]) .ret)
def qbo:IC:=(.seq (.reg [qM 68 4,qM 69 5,qM 70 6,qM 71 7,qM 72 8,qM 73 9,qM 74 10,qO 75 (.ld 2 true (.t 11)),⟨none,.fz (.t 68),none⟩,⟨none,.fz (.t 69),none⟩,⟨none,.fz (.t 70),none⟩,qO 76 (.call 18 [.t 68,.t 69,.t 70,.t 71,.t 72,.t 73,.t 74,.t 75]),qM 67 76,qO 77 (.ext 0 (.t 67)),qO 78 (.ext 1 (.t 67)),qM 13 77,qM 14 78]) (.seq (.reg [qM 80 4,qM 81 5,qM 82 6,qO 83 (.ld 2 true (.t 12)),⟨none,.fz (.t 80),none⟩,⟨none,.fz (.t 81),none⟩,⟨none,.fz (.t 82),none⟩,qO 84 (.call 19 [.t 80,.t 81,.t 82,.t 83]),qM 79 84,qO 85 (.ext 0 (.t 79)),qO 86 (.ext 1 (.t 79)),qM 15 85,qM 16 86]) (.seq (.reg [qM 88 4,qM 89 5,qO 90 (.call 20 [.t 88,.t 89]),qM 87 90,qO 91 (.ext 0 (.t 87)),qO 92 (.ext 1 (.t 87)),qO 93 (.ext 2 (.t 87)),qM 17 91,qM 18 92,qM 19 93]) (.seq (.seq (.reg [qM 95 4,qO 96 (.call 10 [.t 95]),qM 94 96,qO 97 (.ext 0 (.t 94)),qO 98 (.ext 1 (.t 94)),qM 20 97,qM 21 98]) (.seq (.reg [qM 99 21,qO 100 (.bin .neq (.t 99) (.c (.int .i64 0)))]) (.cond (.t 100) (.seq (.reg [qO 101 (.call 11 []),qM 102 101,⟨some 103,.mov (.t 14),(some (102,true))⟩,⟨some 104,.mov (.t 21),(some (102,true))⟩,⟨some 105,.bin .eql (.t 103) (.t 104),(some (102,true))⟩,qO 106 (.pick (.t 102) (.t 105) (.c (.bool false))),qM 107 106,⟨some 108,.mov (.t 16),(some (107,true))⟩,⟨some 109,.mov (.t 21),(some (107,true))⟩,⟨some 110,.bin .eql (.t 108) (.t 109),(some (107,true))⟩,qO 111 (.pick (.t 107) (.t 110) (.c (.bool false))),qM 112 111,⟨some 113,.mov (.t 19),(some (112,true))⟩,⟨some 114,.mov (.t 21),(some (112,true))⟩,⟨some 115,.bin .eql (.t 113) (.t 114),(some (112,true))⟩,qO 116 (.pick (.t 112) (.t 115) (.c (.bool false))),qM 2 116]) .ret) .skip))) (.seq (.reg [qM 118 4,qM 119 5,qM 120 6,qM 121 7,qM 122 8,qM 123 9,qM 124 10,qO 125 (.ld 2 true (.t 11)),⟨none,.fz (.t 118),none⟩,⟨none,.fz (.t 119),none⟩,⟨none,.fz (.t 120),none⟩,qO 126 (.call 21 [.t 118,.t 119,.t 120,.t 121,.t 122,.t 123,.t 124,.t 125]),qM 117 126,qO 127 (.ext 0 (.t 117)),qO 128 (.ext 1 (.t 117)),qM 22 127,qM 23 128]) (.seq (.reg [qM 130 4,qM 131 5,qM 132 6,qO 133 (.ld 2 true (.t 12)),⟨none,.fz (.t 130),none⟩,⟨none,.fz (.t 131),none⟩,⟨none,.fz (.t 132),none⟩,qO 134 (.call 22 [.t 130,.t 131,.t 132,.t 133]),qM 129 134,qO 135 (.ext 0 (.t 129)),qO 136 (.ext 1 (.t 129)),qM 24 135,qM 25 136]) (.seq (.reg [qM 138 4,qM 139 5,qO 140 (.call 23 [.t 138,.t 139]),qM 137 140,qO 141 (.ext 0 (.t 137)),qO 142 (.ext 1 (.t 137)),qM 26 141,qM 27 142]) (.seq (.reg [qM 143 19,qO 144 (.bin .eql (.t 143) (.c (.int .i64 0))),qM 145 144,⟨some 146,.mov (.t 17),(some (145,true))⟩,⟨some 147,.mov (.t 26),(some (145,true))⟩,⟨some 148,.bin .eql (.t 146) (.t 147),(some (145,true))⟩,qO 149 (.pick (.t 145) (.t 148) (.c (.bool false))),qM 150 149,⟨some 151,.mov (.t 18),(some (150,true))⟩,⟨some 152,.mov (.t 27),(some (150,true))⟩,⟨some 153,.bin .eql (.t 151) (.t 152),(some (150,true))⟩,qO 154 (.pick (.t 150) (.t 153) (.c (.bool false))),qM 28 154]) (.seq (.seq (.reg [qM 155 5,qO 156 (.call 24 [.t 155]),qO 157 (.not (.t 156))]) (.cond (.t 157) (.reg [qM 158 19,qO 159 (.bin .eql (.t 158) (.c (.int .i64 5))),qM 28 159]) .skip)) (.cut qbn))))))))))
def qde:IC:=(.seq (.reg [qO 2 (.mov (.c (.bool false)))]) (.seq (.reg [qM 29 0,qO 30 (.bld [.nl 1,.int .i64 0] [(0,1,.t 29)]),qO 31 (.box 25 (.t 30)),qM 3 31]) (.seq (.reg [qM 32 3,qO 33 (.call 12 [.t 32]),qM 34 3,qO 35 (.call 13 [.t 34]),qM 4 33,qM 5 35]) (.seq (.reg [qM 37 3,qO 38 (.call 14 [.t 37]),qM 36 38,qO 39 (.ext 0 (.t 36)),qO 40 (.ext 1 (.t 36)),qO 41 (.ext 2 (.t 36)),qO 42 (.ext 3 (.t 36)),qO 43 (.ext 4 (.t 36)),qO 44 (.ext 5 (.t 36)),qO 11 (.alc 37 [.int .i64 0,.int .i64 0]),qM 6 39,qM 7 40,qM 8 41,qM 9 42,qM 10 43,⟨none,.st 2 (.t 11) (.t 44),none⟩]) (.seq (.reg [qM 45 3,qO 46 (.bsl 1 [.c (.str [97]),.c (.str [98]),.c (.str [122])]),qO 47 (.call 15 [.t 45,.t 46]),qM 48 3,qO 49 (.call 16 [.t 48,.c (.int .i64 0),.c (.int .i64 5)]),⟨none,.fz (.t 47),none⟩,⟨none,.fz (.t 49),none⟩,qO 50 (.bld [.str [],.int .i64 0] [(0,1,.t 47),(1,1,.t 49)]),qO 12 (.alc 43 [.str [],.int .i64 0]),⟨none,.st 2 (.t 12) (.t 50),none⟩]) (.seq (.seq (.reg [qM 51 4,qO 52 (.len (.t 51)),qO 53 (.bin .gtr (.t 52) (.c (.int .i64 0))),qM 54 53,⟨some 55,.mov (.t 3),(some (54,true))⟩,⟨some 56,.call 7 [.t 55,.c (.int .i64 4)],(some (54,true))⟩,⟨some 57,.not (.t 56),(some (54,true))⟩,qO 58 (.pick (.t 54) (.t 57) (.c (.bool false)))]) (.cond (.t 58) (.reg [qM 59 4,qM 60 3,qM 61 4,qO 62 (.len (.t 61)),qO 63 (.call 17 [.t 60,.t 62]),qO 64 (.ixa 12 (.t 59) (.t 63)),qO 65 (.fla 0 (.t 64)),qO 66 (.ld 2 true (.t 65)),⟨none,.st 2 (.t 12) (.t 66),none⟩]) .skip)) (.cut qbo)))))))
def qc4:List IRes:=[.t 2]
theorem qfO:chkF Tryz.prog Tryz.f4 qde qc4 184=true:=by kernel_rfl
theorem qva {l:List Dd} (h:(ckdF l).2=0) (site:List UInt8) (t k:Int) (id f v:List UInt8) (a b:Int):addW l site t k id f v a b=addV l site t k id f v a b:=by
 unfold addW addV addE
 rw [qjZ h,qoJ]
 by_cases h1:qfh l.length site t=0
 ·have ht:inE t 0 5761439=true:=by
   unfold qfh at h1
   split at h1
   ·omega
   ·split at h1
    ·omega
    ·split at h1
     ·omega
     ·rename_i h2;simpa using h2
  have e:oneF (newD site t k id f v a b)=if inE k 1 6=false then 4 else qgn (newD site t k id f v a b):=by
   unfold oneF
   rw [if_neg (by show ¬ inE t 0 5761439=false;rw [ht];simp)]
   rfl
  rw [e,h1]
  generalize qgn (newD site t k id f v a b)=z
  rw [if_neg (show ¬ ¬ (0:Int)=0 from fun h=>h rfl)]
  by_cases h3:k=3
  ·subst h3;simp [qaD,qaZ,inE]
  by_cases h6:k=6
  ·subst h6;simp [qaD,qaZ,inE]
  cases hk:inE k 1 6
  ·simp [qaD,qaZ,h3,h6]
  ·by_cases hz:z=0<;>simp [qaD,qaZ,h3,h6,hz]
 ·rw [if_pos h1]
  have e:qaD [qfh l.length site t,qaZ ((!inE k 1 6 || decide (k=3)) || decide (k=6)) 4,qgn (newD site t k id f v a b)]=qfh l.length site t:=by unfold qaD;rw [if_neg h1]
  rw [e,if_neg h1]
theorem qtR {l:List Dd} (h:¬ (ckdF l).2=0) (site:List UInt8) (t k:Int) (id f v:List UInt8) (a b:Int):(addW l site t k id f v a b).2=(ckdF l).2:=by
 unfold addW addE
 have e:∀ r,qaD (qgF l site t :: r)=(ckdF l).2:=fun r=>by rw [qk5 h];unfold qaD;rw [if_neg h]
 rw [e,if_neg h]
theorem qt2 {l:List Dd} (h:(ckdF l).2=0) (site:List UInt8) (t:Int) (os:List UInt8) (on:Int):undW l site t os on=undV l site t os on:=by
 unfold undW undV
 rw [qjZ h]
theorem qrT {l:List Dd} (h:¬ (ckdF l).2=0) (site:List UInt8) (t:Int) (os:List UInt8) (on:Int):(undW l site t os on).2=(ckdF l).2:=by
 unfold undW
 rw [qk5 h,if_pos h]
theorem qrX {l:List Dd} (h:¬ (ckdF l).2=0) (s:List UInt8):tipE l s=(ckdF l).2:=by
 unfold tipE qaD
 rw [if_neg h]
theorem qt3 {l:List Dd} (h:(ckdF l).2=0) (s:List UInt8):tipE l s=if keyB s=true then 0 else 5:=by
 unfold tipE qaD
 rw [if_pos h]
 cases keyB s<;>rfl
theorem qrk (l:List Dd) (site:List UInt8) (t k:Int) (id f v:List UInt8) (a b:Int):(addV l site t k id f v a b).1.length≤l.length+1:=by
 unfold addV
 repeat' split
 all_goals simp [(qd0 _).length_eq]
theorem qp4 (l:List Dd) (site:List UInt8) (t:Int) (os:List UInt8) (on:Int):(undV l site t os on).1.length≤l.length+1:=by
 unfold undV undX
 repeat' split
 all_goals simp [(qd0 _).length_eq]
def DaM (q:List Dd) (u:List UInt8) (t kd:Int) (id f v:List UInt8) (a b:Int) (fr:List AV) (L:Objs):Prop:=∃ (os:List UInt8) (on:Int),os.length≤1000∧(-1000000000000≤on∧on≤1000000000000)∧fr=[oo,oo,oo,oo,.p (.sl 12 (ddE q)),.p (.str u),.p (int t),.p (int kd),.p (.str id),.p (.str f),.p (.str v),.adr (.l 11) 0,.adr (.l 12) 0,oo,oo,oo,oo,oo,oo,oo,oo,oo,oo,oo,oo,oo,oo,oo,oo,oo,oo,oo,oo,oo,oo,oo,oo,oo,oo,oo,oo,oo,oo,oo,oo,oo,oo,oo,oo,oo,oo,oo,oo,oo,oo,oo,oo,oo,oo,oo,oo,oo,oo,oo,oo,oo,oo,oo,oo,oo,oo,oo,oo,oo,oo,oo,oo,oo,oo,oo,oo,oo,oo,oo,oo,oo,oo,oo,oo,oo,oo,oo,oo,oo,oo,oo,oo,oo,oo,oo,oo,oo,oo,oo,oo,oo,oo,oo,oo,oo,oo,oo,oo,oo,oo,oo,oo,oo,oo,oo,oo,oo,oo,oo,oo,oo,oo,oo,oo,oo,oo,oo,oo,oo,oo,oo,oo,oo,oo,oo,oo,oo,oo,oo,oo,oo,oo,oo,oo,oo,oo,oo,oo,oo,oo,oo,oo,oo,oo,oo,oo,oo,oo,oo,oo,oo,oo,oo,oo,oo,oo,oo,oo,oo,oo,oo,oo,oo,oo,oo,oo,oo,oo,oo]∧L=[(.l 11,.box [.p (int a),.p (int b)] 37),(.l 12,.box [.p (.str os),.p (int on)] tSt)]
set_option maxRecDepth 100000 in
set_option maxHeartbeats 8000000 in
theorem qtv (q:List Dd) (u:List UInt8) (t kd:Int) (id f v:List UInt8) (a b:Int) (hqB:DdsB q) (hql:q.length≤2001) (hu:u.length≤1) (hD:DoB t kd id f v a b) (fr:List AV) (L:Objs) (hM:DaM q u t kd id f v a b fr L) :
  awp Tryz.prog ED qbo fr L (retQ [.t 2] fun x _=>x=.bool true):=by
 obtain ⟨os,on,hos,hon,rfl,rfl⟩:=hM
 have hI:∀ k,k≤q.length→qmY k q.length:=fun k hk=>qrL k _ hk
 have dN:DdB (newD u t kd id f v a b):=hD.dd (by omega)
 have dU:DdB (undD u t 3 os on):=by
  have h1:=hD.c1
  exact ⟨by show u.length≤1000;omega,by simp [undD],by simp [undD],by simp [undD],hos,by simp [undD],by simp [undD],⟨by show _≤t;omega,by show t≤_;omega⟩,by simp [undD],by simp [undD],by simp [undD],hon⟩
 simp only [qbo,ZZ,WW,Ze,reduceCtorEq,zd,ze,za,zf,zb]
 refine use1 (qp1 q u t kd id f v a b hI (by omega) hqB dN) rfl (.inl rfl) ?_
 simp only [ZZ,WW,Ze,reduceCtorEq,zd,ze,za,zf,zb]
 refine use1 (qrl q u t os on hI (by omega) hqB dU) rfl (.inl rfl) ?_
 simp only [ZZ,WW,Ze,reduceCtorEq,zd,ze,za,zf,zb]
 refine use1 (qtS q u (by omega) hqB (by omega)) rfl (.inl rfl) ?_
 by_cases hc:(ckdF q).2=0
 ·have hR:=RD.of_ckd hc hqB
  have hA:=qnS q u t kd id f v a b (by omega) hqB hR.n dN (hR.fresh _)
  have hU:=ql1 q u t os on hR dU
  have hAl:=qrk q u t kd id f v a b
  have hUl:=qp4 q u t os on
  have hd0:decide ((ckdF q).2=0)=true:=decide_eq_true hc
  rw [qva hc,qt2 hc,qt3 hc]
  generalize addV q u t kd id f v a b=A at *
  generalize undV q u t os on=U at *
  cases hk:keyB u
  ·rw [if_neg (by simp),if_neg (by decide)]
   simp only [ZZ,WW,Ze,reduceCtorEq,zd,ze,za,zf,zb]
   refine use1 (qdy q hqB (by omega)) rfl (.inl rfl) ?_
   simp only [ZZ,WW,Ze,reduceCtorEq,zd,ze,za,zf,zb,hd0,decide_true,decide_false,yq,yd,Bool.or_self,Bool.and_self,yn,zW,zQ,yc,yk,Bool.false_or,Bool.or_true,Bool.true_or,implies_true,forall_const]
   refine use1 hA rfl (.inl rfl) ?_
   simp only [ZZ,WW,Ze,reduceCtorEq,zd,ze,za,zf,zb]
   refine use1 hU rfl (.inl rfl) ?_
   simp only [ZZ,WW,Ze,reduceCtorEq,zd,ze,za,zf,zb]
   refine use1 (qhO q u (by omega)) rfl (.inl rfl) ?_
   simp only [ZZ,WW,Ze,reduceCtorEq,zd,ze,za,zf,zb,decide_true,decide_false,yq,yd,Bool.or_self,Bool.and_self,yn,zW,zQ,yc,yk,Bool.false_or,Bool.or_true,Bool.true_or,implies_true,forall_const]
   have hkey:=upD (qeZ u (by omega))
   rw [hk] at hkey
   refine use1 hkey rfl (.inl rfl) ?_
   simp only [ZZ,WW,Ze,reduceCtorEq,zd,ze,za,zf,zb,decide_true,decide_false,yq,yd,Bool.or_self,Bool.and_self,yn,zW,zQ,yc,yk,Bool.false_or,Bool.or_true,Bool.true_or,implies_true,forall_const]
   refine qrP _ _ ReOk.refl ?_
   simp only [qbn,ZZ,WW,Ze,reduceCtorEq,zd,ze,za,zf,zb]
   refine use1 qhA rfl (.inl rfl) ?_
   simp only [ZZ,WW,Ze,reduceCtorEq,zd,ze,za,zf,zb,decide_true,decide_false,yq,yd,Bool.or_self,Bool.and_self,yn,zW,zQ,yc,yk,Bool.false_or,Bool.or_true,Bool.true_or,implies_true,forall_const]
   refine useG (fun _=>qe0 A.1 (by omega)) rfl (.inl rfl) ?_
   simp only [ZZ,WW,Ze,reduceCtorEq,zd,ze,za,zf,zb,decide_true,decide_false,yq,yd,Bool.or_self,Bool.and_self,yn,zW,zQ,yc,yk,Bool.false_or,Bool.or_true,Bool.true_or,implies_true,forall_const]
   refine useG (fun _=>qe0 U.1 (by omega)) rfl (.inl rfl) ?_
   simp only [ZZ,WW,Ze,reduceCtorEq,zd,ze,za,zf,zb,decide_true,decide_false,yq,yd,Bool.or_self,Bool.and_self,yn,zW,zQ,yc,yk,Bool.false_or,Bool.or_true,Bool.true_or,implies_true,forall_const]
  ·rw [if_pos rfl,if_pos rfl]
   simp only [ZZ,WW,Ze,reduceCtorEq,zd,ze,za,zf,zb]
   refine use1 (qdy q hqB (by omega)) rfl (.inl rfl) ?_
   simp only [ZZ,WW,Ze,reduceCtorEq,zd,ze,za,zf,zb,hd0,decide_true,decide_false,yq,yd,Bool.or_self,Bool.and_self,yn,zW,zQ,yc,yk,Bool.false_or,Bool.or_true,Bool.true_or,implies_true,forall_const]
   refine use1 hA rfl (.inl rfl) ?_
   simp only [ZZ,WW,Ze,reduceCtorEq,zd,ze,za,zf,zb]
   refine use1 hU rfl (.inl rfl) ?_
   simp only [ZZ,WW,Ze,reduceCtorEq,zd,ze,za,zf,zb]
   refine use1 (qhO q u (by omega)) rfl (.inl rfl) ?_
   simp only [ZZ,WW,Ze,reduceCtorEq,zd,ze,za,zf,zb,decide_true,decide_false,yq,yd,Bool.or_self,Bool.and_self,yn,zW,zQ,yc,yk,Bool.false_or,Bool.or_true,Bool.true_or,implies_true,forall_const]
   have hkey:=upD (qeZ u (by omega))
   rw [hk] at hkey
   refine use1 hkey rfl (.inl rfl) ?_
   simp only [ZZ,WW,Ze,reduceCtorEq,zd,ze,za,zf,zb,decide_true,decide_false,yq,yd,Bool.or_self,Bool.and_self,yn,zW,zQ,yc,yk,Bool.false_or,Bool.or_true,Bool.true_or,implies_true,forall_const]
   refine qrP _ _ ReOk.refl ?_
   simp only [qbn,ZZ,WW,Ze,reduceCtorEq,zd,ze,za,zf,zb]
   refine use1 qhA rfl (.inl rfl) ?_
   simp only [ZZ,WW,Ze,reduceCtorEq,zd,ze,za,zf,zb,decide_true,decide_false,yq,yd,Bool.or_self,Bool.and_self,yn,zW,zQ,yc,yk,Bool.false_or,Bool.or_true,Bool.true_or,implies_true,forall_const]
   refine useG (fun _=>qe0 A.1 (by omega)) rfl (.inl rfl) ?_
   simp only [ZZ,WW,Ze,reduceCtorEq,zd,ze,za,zf,zb,decide_true,decide_false,yq,yd,Bool.or_self,Bool.and_self,yn,zW,zQ,yc,yk,Bool.false_or,Bool.or_true,Bool.true_or,implies_true,forall_const]
   refine useG (fun _=>qe0 U.1 (by omega)) rfl (.inl rfl) ?_
   simp only [ZZ,WW,Ze,reduceCtorEq,zd,ze,za,zf,zb,decide_true,decide_false,yq,yd,Bool.or_self,Bool.and_self,yn,zW,zQ,yc,yk,Bool.false_or,Bool.or_true,Bool.true_or,implies_true,forall_const]
 ·rw [qrX hc,if_neg hc]
  have e1:=qtR hc u t kd id f v a b
  have e2:=qrT hc u t os on
  simp only [ZZ,WW,Ze,reduceCtorEq,zd,ze,za,zf,zb]
  refine use1 (qdy q hqB (by omega)) rfl (.inl rfl) ?_
  rw [e1,e2]
  generalize (ckdF q).2=e at *
  have hd0:decide (e=0)=false:=decide_eq_false hc
  simp only [ZZ,WW,Ze,reduceCtorEq,zd,ze,za,zf,zb,hd0,decide_true,decide_false,yq,yd,Bool.or_self,Bool.and_self,yn,zW,zQ,yc,yk,Bool.false_or,Bool.or_true,Bool.true_or,implies_true,forall_const]
  refine use1 qhA rfl (.inl rfl) ?_
  simp only [ZZ,WW,Ze,reduceCtorEq,zd,ze,za,zf,zb,decide_true,decide_false,yq,yd,Bool.or_self,Bool.and_self,yn,zW,zQ,yc,yk,Bool.false_or,Bool.or_true,Bool.true_or,implies_true,forall_const]
set_option maxRecDepth 100000 in
set_option maxHeartbeats 8000000 in
theorem qmJ (z:List Int) (hl:z.length≤9223372036854775807):PCall Tryz.prog ED 4 [ints z] (·=.bool true):=by
 refine qah mixed Tryz.func4 qfO ?_
 simp only [a0,l0,OS.ao,List.map_cons,List.map_nil,List.length_cons,List.length_nil,List.cons_append,List.nil_append,Nat.reduceSub,zd,List.replicate_succ,List.replicate_zero,qde,qc4,ZZ,WW,Ze,reduceCtorEq,zd,ze,za,zf,zb]
 simp only [ints,ZZ,WW,Ze,reduceCtorEq,zd,ze,za,zf,zb]
 refine useS (k:=.l 31) (qm3 z 0 (by omega) hl) rfl rfl rfl zE_ ?_
 rintro x cs' ⟨q,k1,rfl,hqB,hql,rfl,hk1⟩
 simp only [ZZ,WW,Ze,reduceCtorEq,zd,ze,za,zf,zb]
 refine useS (k:=.l 31) (qmV z k1 (by omega) hl) rfl rfl rfl zE_ ?_
 rintro x cs' ⟨u,k2,rfl,hu,rfl,hk2⟩
 simp only [ZZ,WW,Ze,reduceCtorEq,zd,ze,za,zf,zb]
 refine useS (k:=.l 31) (qnR z k2 (by omega) hl) rfl rfl rfl zE_ ?_
 rintro x cs' ⟨t,kd,id,f,v,a,b,k3,rfl,hD,rfl,hk3⟩
 simp only [ZZ,WW,Ze,reduceCtorEq,zd,ze,za,zf,zb]
 refine useS (k:=.l 31) (qvd z k3 [[97],[98],[122]] (by omega) hl (by simp) (by simp)) rfl rfl rfl zE_ ?_
 rintro x cs' ⟨o0,rfl,ho0,rfl⟩
 have ho0:o0.length≤1000:=by simp only [List.mem_cons,List.not_mem_nil,or_false] at ho0;rcases ho0 with rfl|rfl|rfl<;>decide
 simp only [ZZ,WW,Ze,reduceCtorEq,zd,ze,za,zf,zb]
 refine useS (k:=.l 31) (qhs z (k3+1) 0 5 (by omega) hl (by decide) (by decide) (by decide)) rfl rfl rfl zE_ ?_
 rintro x cs' ⟨n0,rfl,hn1,hn2,rfl⟩
 have tail:=qtv q u t kd id f v a b hqB hql hu hD
 simp only [ZZ,WW,Ze,reduceCtorEq,zd,ze,za,zf,zb,qac]
 refine qtW (fun hc=>?_) (fun hc=>?_)
 ·have hq:0 < q.length:=by have:=of_decide_eq_true hc;omega
  refine useS (k:=.l 31) (qi5 z (k3+1+1) 4 (by omega) hl (by decide)) rfl rfl rfl zE_ ?_
  rintro x cs' ⟨b2,rfl,rfl⟩
  simp only [ZZ,WW,Ze,reduceCtorEq,zd,ze,za,zf,zb,hc,qac]
  refine br ?_ ?_
  ·intro _
   simp only [ZZ,WW,Ze,reduceCtorEq,zd,ze,za,zf,zb,qac]
   refine useS (k:=.l 31) (qcb z (k3+1+1+1) (q.length:Nat) (by omega) hl (by omega)) rfl rfl rfl zE_ ?_
   rintro x cs' ⟨y1,rfl,rfl⟩
   obtain ⟨j,hj,hy1⟩:=qdX y1 q.length (by omega)
   rw [hy1]
   obtain ⟨d,hd⟩:∃ d,q[j]?=some d:=⟨_,List.getElem?_eq_getElem hj⟩
   have hg:=qa0 hd
   have dB:=hqB.get hd
   simp only [ZZ,WW,Ze,reduceCtorEq,zd,ze,za,zf,zb,hg,qac,ddC]
   refine ⟨⟨by omega,by omega⟩,hj,?_⟩
   exact qpp (tail [oo,oo,oo,oo,.p (.sl 12 (ddE q)),.p (.str u),.p (int t),.p (int kd),.p (.str id),.p (.str f),.p (.str v),.adr (.l 11) 0,.adr (.l 12) 0,oo,oo,oo,oo,oo,oo,oo,oo,oo,oo,oo,oo,oo,oo,oo,oo,oo,oo,oo,oo,oo,oo,oo,oo,oo,oo,oo,oo,oo,oo,oo,oo,oo,oo,oo,oo,oo,oo,oo,oo,oo,oo,oo,oo,oo,oo,oo,oo,oo,oo,oo,oo,oo,oo,oo,oo,oo,oo,oo,oo,oo,oo,oo,oo,oo,oo,oo,oo,oo,oo,oo,oo,oo,oo,oo,oo,oo,oo,oo,oo,oo,oo,oo,oo,oo,oo,oo,oo,oo,oo,oo,oo,oo,oo,oo,oo,oo,oo,oo,oo,oo,oo,oo,oo,oo,oo,oo,oo,oo,oo,oo,oo,oo,oo,oo,oo,oo,oo,oo,oo,oo,oo,oo,oo,oo,oo,oo,oo,oo,oo,oo,oo,oo,oo,oo,oo,oo,oo,oo,oo,oo,oo,oo,oo,oo,oo,oo,oo,oo,oo,oo,oo,oo,oo,oo,oo,oo,oo,oo,oo,oo,oo,oo,oo,oo,oo,oo,oo,oo,oo,oo] [(.l 11,.box [.p (int a),.p (int b)] 37),(.l 12,.box [.p (.str d.site),.p (int d.no)] tSt)] ⟨d.site,d.no,dB.b1,dB.c1,rfl,rfl⟩) (by (simp only [ZZ,WW,Ze,reduceCtorEq,zd,ze,za,zf,zb];try trivial)) zE_
  ·intro _
   simp only [ZZ,WW,Ze,reduceCtorEq,zd,ze,za,zf,zb]
   exact qpp (tail [oo,oo,oo,oo,.p (.sl 12 (ddE q)),.p (.str u),.p (int t),.p (int kd),.p (.str id),.p (.str f),.p (.str v),.adr (.l 11) 0,.adr (.l 12) 0,oo,oo,oo,oo,oo,oo,oo,oo,oo,oo,oo,oo,oo,oo,oo,oo,oo,oo,oo,oo,oo,oo,oo,oo,oo,oo,oo,oo,oo,oo,oo,oo,oo,oo,oo,oo,oo,oo,oo,oo,oo,oo,oo,oo,oo,oo,oo,oo,oo,oo,oo,oo,oo,oo,oo,oo,oo,oo,oo,oo,oo,oo,oo,oo,oo,oo,oo,oo,oo,oo,oo,oo,oo,oo,oo,oo,oo,oo,oo,oo,oo,oo,oo,oo,oo,oo,oo,oo,oo,oo,oo,oo,oo,oo,oo,oo,oo,oo,oo,oo,oo,oo,oo,oo,oo,oo,oo,oo,oo,oo,oo,oo,oo,oo,oo,oo,oo,oo,oo,oo,oo,oo,oo,oo,oo,oo,oo,oo,oo,oo,oo,oo,oo,oo,oo,oo,oo,oo,oo,oo,oo,oo,oo,oo,oo,oo,oo,oo,oo,oo,oo,oo,oo,oo,oo,oo,oo,oo,oo,oo,oo,oo,oo,oo,oo,oo,oo,oo,oo,oo,oo] [(.l 11,.box [.p (int a),.p (int b)] 37),(.l 12,.box [.p (.str o0),.p (int n0)] tSt)] ⟨o0,n0,ho0,⟨by omega,by omega⟩,rfl,rfl⟩) (by (simp only [ZZ,WW,Ze,reduceCtorEq,zd,ze,za,zf,zb];try trivial)) zE_
 ·simp only [ZZ,WW,Ze,reduceCtorEq,zd,ze,za,zf,zb,hc]
  exact qpp (tail [oo,oo,oo,oo,.p (.sl 12 (ddE q)),.p (.str u),.p (int t),.p (int kd),.p (.str id),.p (.str f),.p (.str v),.adr (.l 11) 0,.adr (.l 12) 0,oo,oo,oo,oo,oo,oo,oo,oo,oo,oo,oo,oo,oo,oo,oo,oo,oo,oo,oo,oo,oo,oo,oo,oo,oo,oo,oo,oo,oo,oo,oo,oo,oo,oo,oo,oo,oo,oo,oo,oo,oo,oo,oo,oo,oo,oo,oo,oo,oo,oo,oo,oo,oo,oo,oo,oo,oo,oo,oo,oo,oo,oo,oo,oo,oo,oo,oo,oo,oo,oo,oo,oo,oo,oo,oo,oo,oo,oo,oo,oo,oo,oo,oo,oo,oo,oo,oo,oo,oo,oo,oo,oo,oo,oo,oo,oo,oo,oo,oo,oo,oo,oo,oo,oo,oo,oo,oo,oo,oo,oo,oo,oo,oo,oo,oo,oo,oo,oo,oo,oo,oo,oo,oo,oo,oo,oo,oo,oo,oo,oo,oo,oo,oo,oo,oo,oo,oo,oo,oo,oo,oo,oo,oo,oo,oo,oo,oo,oo,oo,oo,oo,oo,oo,oo,oo,oo,oo,oo,oo,oo,oo,oo,oo,oo,oo,oo,oo,oo,oo,oo,oo] [(.l 11,.box [.p (int a),.p (int b)] 37),(.l 12,.box [.p (.str o0),.p (int n0)] tSt)] ⟨o0,n0,ho0,⟨by omega,by omega⟩,rfl,rfl⟩) (by (simp only [ZZ,WW,Ze,reduceCtorEq,zd,ze,za,zf,zb];try trivial)) zE_
theorem qkx (a0:Option Addr) (len0 cap0:Nat) (z0:List Int) (w:World) (h0:qro .i64 w a0 len0 cap0 z0) (he:ED.ok w∧∀ b,ED.bl b→b < w.heap.size) :
  Calls Tryz.prog 4 #[.slice a0 len0 cap0] w fun e w'=>e=.returned (.bool true)∧Below w.heap.size w w':=
 qrS qmJ a0 len0 cap0 z0 w h0 he.1 he.2
end Go.Proofs.YtinffddgojhdfaaGreatDoor
