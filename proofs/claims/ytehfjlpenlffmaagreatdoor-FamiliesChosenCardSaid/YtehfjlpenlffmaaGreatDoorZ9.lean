import Derived.Test.YtehfjlpenlffmaaGreatDoorZ5
import Derived.Test.YtehfjlpenlffmaaGreatDoorZ4
import Derived.Test.YtehfjlpenlffmaaGreatDoorZ7
import Derived.Laws.Cover4
import Derived.Test.YtehfjlpenlffmaaGreatDoorZ6
import Derived.Test.YtehfjlpenlffmaaGreatDoorZ8
set_option linter.unusedVariables false
set_option linter.unusedSimpArgs false
set_option linter.defProp false
namespace Go.Proofs.YtehfjlpenlffmaaGreatDoor
open Go.RowKit
def ir_base_Moment:IC:=(.seq (.reg [qO 2 (.mov (.c (.bool false)))]) (.seq (.reg [qM 3 0,qO 4 (.call 51 [.t 3,.c (.int .i64 0),.c (.int .i64 5761439)]),qM 2 4]) .ret))
def rs_base_Moment:List IRes:=[.t 2]
theorem ck_base_Moment:chkF Tryz.prog Tryz.f106 ir_base_Moment rs_base_Moment 5=true:=by kernel_rfl
section
variable {E:Envt}
theorem Moment_ok (n:Int):PCall Tryz.prog E 106 [int n] (·=.bool (inE n 0 5761439)):=by
 refine pcallF mixed Tryz.func106 ck_base_Moment ?_
 simp only [a0,l0,OS.ao,List.map_cons,List.map_nil,List.length_cons,List.length_nil,List.cons_append,List.nil_append,Nat.reduceSub,Nat.reduceAdd,List.replicate_succ,List.replicate_zero,ir_base_Moment,rs_base_Moment,ZZ,WW,Ze,reduceCtorEq,Nat.reduceAdd,Nat.reduceMul,Nat.reduceLeDiff,Nat.reduceLT,Nat.reduceEqDiff]
 refine use1 (In_ok n 0 5761439) rfl (.inl rfl) ?_
 simp only [ZZ,WW,Ze,reduceCtorEq,Nat.reduceAdd,Nat.reduceMul,Nat.reduceLeDiff,Nat.reduceLT,Nat.reduceEqDiff]
end
def ir_chasemake_Stream_Papers_L1:IC:=(.seq (.reg [qO 37 (.bin .lss (.t 36) (.t 35))]) (.seq (.cond (.t 37) .skip (.exit 2)) (.seq (.block 3 (.drg [qO 38 (.fla 6 (.t 7)),qO 39 (.ldl 1 false (.t 38)),qM 40 0,qM 41 0,qO 42 (.bsl 1 [.c (.int .i64 79),.c (.int .i64 80),.c (.int .i64 81)]),qO 43 (.dcall true 43 [.t 41,.t 42]),qO 44 (.pcall 0 44 [.c (.str [119]),.t 43]),qO 45 (.pcall 1 44 [.c (.str [97,98,32]),.c (.int .i64 30)]),qO 46 (.bsl 1 [.c (.str [111,110,101]),.c (.str [115,101,99,114,101,116,32,119,111,114,100,115]),.c (.str []),.c (.str [195,169,116,195,169,32,120]),.t 44,.t 45]),qO 47 (.dcall true 42 [.t 40,.t 46]),qO 48 (.bin .add (.t 47) (.c (.str [10]))),qO 49 (.bin .add (.t 39) (.t 48)),qO 50 (.fla 6 (.t 7)),⟨none,.st 1 (.t 50) (.t 49),none⟩])) (.reg [qO 51 (.bin .add (.t 36) (.c (.int .i64 1))),qM 36 51]))))
def ir_chasemake_Stream_Papers_L0:IC:=(.seq (.reg [qO 14 (.bin .lss (.t 13) (.t 12))]) (.seq (.cond (.t 14) .skip (.exit 0)) (.seq (.block 1 (.seq (.reg [qM 15 13,qM 6 15]) (.seq (.reg [qM 16 6,qO 17 (.bin .add (.c (.int .i64 97)) (.t 16)),qO 18 (.cvi .i32 (.t 17)),qO 19 (.cvs (.t 18)),qO 20 (.bin .add (.c (.str [105])) (.t 19)),qM 21 0,qO 22 (.bsl 1 [.c (.str [97,110,110]),.c (.str [98,111])]),qO 23 (.call 42 [.t 21,.t 22]),qM 24 0,qO 25 (.bsl 1 [.c (.int .i64 1),.c (.int .i64 3),.c (.int .i64 2),.c (.int .i64 4)]),qO 26 (.call 43 [.t 24,.t 25]),qM 27 0,qO 28 (.bsl 1 [.c (.int .i64 0),.c (.int .i64 5),.c (.int .i64 5),.c (.int .i64 40),.c (.int .i64 1440)]),qO 29 (.call 43 [.t 27,.t 28]),qM 30 0,qO 31 (.bsl 1 [.c (.str []),.c (.str [120])]),qO 32 (.call 42 [.t 30,.t 31]),⟨none,.fz (.t 23),none⟩,⟨none,.fz (.t 26),none⟩,⟨none,.fz (.t 29),none⟩,⟨none,.fz (.t 32),none⟩,qO 33 (.bld [.str [],.str [],.int .i64 0,.str [],.int .i64 0,.str [],.str []] [(0,1,.t 20),(1,1,.t 23),(2,1,.t 26),(4,1,.t 29),(3,1,.t 32)]),qO 7 (.alc 80 [.str [],.str [],.int .i64 0,.str [],.int .i64 0,.str [],.str []]),⟨none,.st 7 (.t 7) (.t 33),none⟩]) (.seq (.seq (.reg [qM 34 0,qO 35 (.call 10 [.t 34,.c (.int .i64 6)]),qO 36 (.mov (.c (.int .i64 0)))]) (.block 2 (.loop ir_chasemake_Stream_Papers_L1))) (.seq (.seq (.reg [qM 52 0,qO 53 (.call 9 [.t 52,.c (.int .i64 8)])]) (.cond (.t 53) (.reg [qM 54 0,qO 55 (.bsl 1 [.c (.int .i64 49),.c (.int .i64 50),.c (.int .i64 51),.c (.int .i64 101)]),qO 56 (.call 43 [.t 54,.t 55]),qO 57 (.call 44 [.c (.str [108,105,110,101,10]),.t 56]),qO 58 (.fla 6 (.t 7)),⟨none,.st 1 (.t 58) (.t 57),none⟩]) .skip)) (.cut (.seq (.seq (.reg [qM 59 6,qO 60 (.bin .gtr (.t 59) (.c (.int .i64 0))),qM 61 60,⟨some 62,.mov (.t 0),(some (61,true))⟩,⟨some 63,.call 9 [.t 62,.c (.int .i64 3)],(some (61,true))⟩,qO 64 (.pick (.t 61) (.t 63) (.c (.bool false)))]) (.cond (.t 64) (.seq (.reg [qM 65 5,qM 66 0,qM 67 5,qO 68 (.len (.t 67)),qO 69 (.call 10 [.t 66,.t 68]),qO 70 (.ixa 7 (.t 65) (.t 69)),qO 71 (.ld 7 true (.t 70)),qO 8 (.alc 80 [.str [],.str [],.int .i64 0,.str [],.int .i64 0,.str [],.str []]),⟨none,.st 7 (.t 8) (.t 71),none⟩]) (.seq (.reg [qO 72 (.fla 5 (.t 8)),qO 73 (.ld 1 false (.t 72)),qO 74 (.bin .eql (.t 73) (.c (.str []))),qM 75 74,⟨some 76,.fla 2 (.t 8),(some (75,true))⟩,⟨some 77,.ld 1 false (.t 76),(some (75,true))⟩,⟨some 78,.bin .eql (.t 77) (.c (.int .i64 1)),(some (75,true))⟩,⟨some 79,.mov (.t 78),(some (75,true))⟩,⟨some 80,.fla 2 (.t 8),(some (79,false))⟩,⟨some 81,.ld 1 false (.t 80),(some (79,false))⟩,⟨some 82,.bin .eql (.t 81) (.c (.int .i64 3)),(some (79,false))⟩,⟨some 83,.pick (.t 79) (.c (.bool true)) (.t 82),(some (75,true))⟩,qO 84 (.pick (.t 75) (.t 83) (.c (.bool false)))]) (.cond (.t 84) (.reg [qO 85 (.fla 0 (.t 8)),qO 86 (.ld 1 false (.t 85)),qO 87 (.fla 5 (.t 7)),⟨none,.st 1 (.t 87) (.t 86),none⟩]) .skip))) .skip)) (.cut (.reg [qM 88 5,qO 89 (.ld 7 true (.t 7)),qO 90 (.bsl 7 [.t 89]),qO 91 (.app 80 7 96 (.t 88) (.t 90)),qM 5 91]))))))))) (.reg [qO 92 (.bin .add (.t 13) (.c (.int .i64 1))),qM 13 92]))))
def ir_chasemake_Stream_Papers:IC:=(.seq (.reg [qO 4 (.mov (.c (.nl 7)))]) (.seq (.reg [qO 5 (.nilr 80 7)]) (.seq (.seq (.reg [qM 9 0,qM 10 1,qO 11 (.bin .add (.t 10) (.c (.int .i64 1))),qO 12 (.call 10 [.t 9,.t 11]),qO 13 (.mov (.c (.int .i64 0)))]) (.block 0 (.loop ir_chasemake_Stream_Papers_L0))) (.seq (.reg [qM 93 5,qM 4 93]) .ret))))
def rs_chasemake_Stream_Papers:List IRes:=[.t 4]
theorem ck_chasemake_Stream_Papers:chkF Tryz.prog Tryz.f8 ir_chasemake_Stream_Papers rs_chasemake_Stream_Papers 94=true:=by kernel_rfl
def nxV (l:List Int) (k:Nat):Int:=if l=[] then ((k:Int)+1) * 7919 else below (l.getD (k % l.length) 0) 1073741824+((k / l.length:Nat):Int) * (7919+((k % l.length:Nat):Int))
section
variable {E:Envt}
theorem Next_det (l:List Int) (k:Nat) (n:Int) (hk:k≤1000000) (hl:l.length≤9223372036854775807) (h2:n≤9223372036854775807) :
  SCall Tryz.prog E 10 T (stm l k) [int n] (fun x cs'=>x=int (below (nxV l k) n)∧cs'=stm l (k+1)):=by
 unfold SCall
 refine gcallP mixed Tryz.func10 ck_chasemake_Stream_Next ?_
 simp only [a0,l0,OS.ao,List.map_cons,List.map_nil,List.length_cons,List.length_nil,List.cons_append,List.nil_append,Nat.reduceSub,Nat.reduceAdd,List.replicate_succ,List.replicate_zero,stm,ir_chasemake_Stream_Next,rs_chasemake_Stream_Next,ZZ,WW,Ze,reduceCtorEq,Nat.reduceAdd,Nat.reduceMul,Nat.reduceLeDiff,Nat.reduceLT,Nat.reduceEqDiff]
 refine ⟨i64_of (by omega) (by omega),?_⟩
 simp only [ints,ZZ,WW,Ze,reduceCtorEq,Nat.reduceAdd,Nat.reduceMul,Nat.reduceLeDiff,Nat.reduceLT,Nat.reduceEqDiff]
 generalize hes:l.map (fun x=>[PV.int IntKind.i64 x])=es
 have hln:es.length=l.length:=by rw [← hes];simp
 have hc:[PV.sl 1 es,int ((k:Int)+1)]=[PV.sl 1 es,int ((k+1:Nat):Int)]:=by simp
 refine br ?_ ?_
 ·intro h
  have h0:((es.length:Int)=0):=of_decide_eq_true h
  have hnil:l=[]:=by
   apply List.eq_nil_of_length_eq_zero
   omega
  simp only [ZZ,WW,Ze,reduceCtorEq,Nat.reduceAdd,Nat.reduceMul,Nat.reduceLeDiff,Nat.reduceLT,Nat.reduceEqDiff]
  refine ⟨i64_of (by omega) (by omega),?_⟩
  refine use1 (Below_ok _ _ h2) rfl (.inl rfl) ?_
  simp only [ZZ,WW,Ze,reduceCtorEq,Nat.reduceAdd,Nat.reduceMul,Nat.reduceLeDiff,Nat.reduceLT,Nat.reduceEqDiff]
  exact fin_S [PV.sl 1 es,int ((k:Int)+1)] rfl ⟨by rw [nxV,if_pos hnil],hc⟩
 ·intro h
  have hne:¬ ((es.length:Int)=0):=of_decide_eq_false h
  have hnn:l≠[]:=by
   intro e
   rw [e] at hln
   simp only [List.length_nil] at hln
   omega
  simp only [ZZ,WW,Ze,reduceCtorEq,Nat.reduceAdd,Nat.reduceMul,Nat.reduceLeDiff,Nat.reduceLT,Nat.reduceEqDiff]
  refine drg0 ?_
  simp only [ZZ,WW,Ze,reduceCtorEq,Nat.reduceAdd,Nat.reduceMul,Nat.reduceLeDiff,Nat.reduceLT,Nat.reduceEqDiff]
  refine ⟨i64_of (by omega) (by omega),⟨by omega,?_⟩⟩
  refine drg0 ?_
  have hkk:(k:Int)+1 - 1=k:=by omega
  have hrem:(k:Int).tmod (es.length:Int)=((k % es.length:Nat):Int):=by rw [Int.tmod_eq_emod_of_nonneg (by omega)];rfl
  have hquo:(k:Int).tdiv (es.length:Int)=((k / es.length:Nat):Int):=by rw [Int.tdiv_eq_ediv_of_nonneg (by omega)];rfl
  have hq1:k / es.length≤k:=Nat.div_le_self _ _
  have hr1:k % es.length≤k:=Nat.mod_le _ _
  have hr2:k % es.length < es.length:=Nat.mod_lt _ (by omega)
  obtain ⟨x,hx⟩:∃ x,l[k % es.length]?=some x:=⟨_,List.getElem?_eq_getElem (by omega)⟩
  have hg:es.getD (k % es.length) []=[PV.int .i64 x]:=by rw [← hes];exact getD_map (by rw [hes];exact hx)
  have hnx:nxV l k=below x 1073741824+((k / es.length:Nat):Int) * (7919+((k % es.length:Nat):Int)):=by
   rw [nxV,if_neg hnn,← hln,List.getD_eq_getElem?_getD,hx]
   rfl
  rw [hnx]
  simp only [ZZ,WW,Ze,reduceCtorEq,Nat.reduceAdd,Nat.reduceMul,Nat.reduceLeDiff,Nat.reduceLT,Nat.reduceEqDiff,hkk,hrem,hquo,hg]
  generalize k / es.length=q at *
  generalize k % es.length=r at *
  refine ⟨i64_of (by omega) (by omega),⟨hne,i64_of (by omega) (by omega)⟩,⟨by omega,by omega⟩,by omega,?_⟩
  refine use1 (Below_ok _ _ (by decide)) rfl (.inl rfl) ?_
  have hb1:=below_lo x 1073741824
  have hb2:=below_hi x 1073741824 (by omega)
  have hm:(q:Int) * (7919+(r:Int))≤1000000 * 1007919:=Int.mul_le_mul (by omega) (by omega) (by omega) (by omega)
  have hm0:0≤(q:Int) * (7919+(r:Int)):=Int.mul_nonneg (by omega) (by omega)
  simp only [ZZ,WW,Ze,reduceCtorEq,Nat.reduceAdd,Nat.reduceMul,Nat.reduceLeDiff,Nat.reduceLT,Nat.reduceEqDiff]
  refine ⟨i64_of (by omega) (by omega),i64_of (by omega) (by omega),i64_of (by omega) (by omega),?_⟩
  refine use1 (Below_ok _ _ h2) rfl (.inl rfl) ?_
  simp only [ZZ,WW,Ze,reduceCtorEq,Nat.reduceAdd,Nat.reduceMul,Nat.reduceLeDiff,Nat.reduceLT,Nat.reduceEqDiff]
  exact fin_S [PV.sl 1 es,int ((k:Int)+1)] rfl ⟨rfl,hc⟩
theorem Pick_det (l:List Int) (k:Nat) (c:List Int) (hk:k≤1000000) (hl:l.length≤9223372036854775807) (h0:0 < c.length) (h1:c.length≤1000000) :
  ∃ y,y∈c∧SCall Tryz.prog E 43 T (stm l k) [ints c] (fun x cs'=>x=int y∧cs'=stm l (k+1)):=by
 obtain ⟨i,hi,hy⟩:=below_idx (nxV l k) c.length h0
 obtain ⟨z,hz⟩:∃ z,c[i]?=some z:=⟨_,List.getElem?_eq_getElem hi⟩
 refine ⟨z,List.mem_of_getElem? hz,?_⟩
 unfold SCall
 refine gcallP mixed Tryz.func43 ck_chasemake_Stream_Pick ?_
 simp only [a0,l0,OS.ao,List.map_cons,List.map_nil,List.length_cons,List.length_nil,List.cons_append,List.nil_append,Nat.reduceSub,Nat.reduceAdd,List.replicate_succ,List.replicate_zero,ir_chasemake_Stream_Pick,rs_chasemake_Stream_Pick,ZZ,WW,Ze,reduceCtorEq,Nat.reduceAdd,Nat.reduceMul,Nat.reduceLeDiff,Nat.reduceLT,Nat.reduceEqDiff]
 simp only [ints,ZZ,WW,Ze,reduceCtorEq,Nat.reduceAdd,Nat.reduceMul,Nat.reduceLeDiff,Nat.reduceLT,Nat.reduceEqDiff]
 generalize hes:c.map (fun x=>[PV.int IntKind.i64 x])=es
 have hln:es.length=c.length:=by rw [← hes];simp
 refine useS (Next_det l k _ hk hl (by omega)) rfl rfl rfl zE_ ?_
 rintro x cs' ⟨rfl,rfl⟩
 rw [hln,hy]
 have hg:es.getD i []=[PV.int .i64 z]:=by rw [← hes];exact getD_map hz
 simp only [ZZ,WW,Ze,reduceCtorEq,Nat.reduceAdd,Nat.reduceMul,Nat.reduceLeDiff,Nat.reduceLT,Nat.reduceEqDiff,hg]
 exact ⟨⟨by omega,by omega⟩,by omega,fin_S (stm l (k+1)) rfl ⟨rfl,rfl⟩⟩
theorem encT_le (c:Int):(Utf8.encode c).data.toList.length≤4:=by
 rw [Array.length_toList]
 exact encode_size_le c
abbrev Itm:Type:=List UInt8×List UInt8×Int×List UInt8×Int×List UInt8×List UInt8
def itC (x:Itm):List PV:=[.str x.1,.str x.2.1,int x.2.2.1,.str x.2.2.2.1,int x.2.2.2.2.1,.str x.2.2.2.2.2.1,.str x.2.2.2.2.2.2]
def itE (l:List Itm):List (List PV):=l.map itC
theorem itE_len (l:List Itm):(itE l).length=l.length:=by simp [itE]
theorem itE_get {l:List Itm} {k:Nat} {x:Itm} (h:l[k]?=some x):(itE l).getD k []=itC x:=getD_map h
theorem itE_app (l:List Itm) (a b:List UInt8) (c:Int) (d:List UInt8) (e:Int) (f g:List UInt8):itE l++[[.str a,.str b,int c,.str d,int e,.str f,.str g]]=itE (l++[(a,b,c,d,e,f,g)]):=by simp [itE,itC]
def itB1 (x:Itm):Prop:=x.1.length≤100∧x.2.1.length≤3∧(1≤x.2.2.1∧x.2.2.1≤4)∧x.2.2.2.1.length≤1∧(0≤x.2.2.2.2.1∧x.2.2.2.2.1≤1440)∧x.2.2.2.2.2.1.length≤100∧x.2.2.2.2.2.2.length≤600
def ItB (l:List Itm):Prop:=∀ x∈l,itB1 x
theorem ItB.nil:ItB []:=fun x hx=>by cases hx
theorem ItB.app {l:List Itm} (h:ItB l) {x:Itm} (hx:itB1 x):ItB (l++[x]):=by
 intro y hy
 rcases List.mem_append.1 hy with hy|hy
 ·exact h y hy
 ·rw [List.mem_singleton] at hy;subst hy;exact hx
abbrev tItem:Nat:=80
end
def ir_intake_kindWord:IC:=(.seq (.reg [qO 2 (.mov (.c (.str [])))]) (.seq (.seq (.reg [qM 3 0]) (.block 0 (.seq (.reg [qO 5 (.bin .eql (.t 3) (.c (.int .i64 1))),qM 4 5]) (.cond (.t 4) (.seq (.reg [qO 2 (.mov (.c (.str [109,97,105,108])))]) .ret) (.seq (.reg [qO 7 (.bin .eql (.t 3) (.c (.int .i64 2))),qM 6 7]) (.cond (.t 6) (.seq (.reg [qO 2 (.mov (.c (.str [102,105,108,101])))]) .ret) (.seq (.reg [qO 9 (.bin .eql (.t 3) (.c (.int .i64 3))),qM 8 9]) (.cond (.t 8) (.seq (.reg [qO 2 (.mov (.c (.str [98,111,120])))]) .ret) (.seq (.reg [qO 11 (.bin .eql (.t 3) (.c (.int .i64 4))),qM 10 11]) (.cond (.t 10) (.seq (.reg [qO 2 (.mov (.c (.str [110,111,116,101])))]) .ret) .skip)))))))))) (.seq (.reg [qO 2 (.mov (.c (.str [])))]) .ret)))
def rs_intake_kindWord:List IRes:=[.t 2]
theorem ck_intake_kindWord:chkF Tryz.prog Tryz.f223 ir_intake_kindWord rs_intake_kindWord 12=true:=by kernel_rfl
def ir_intake_CheckItem:IC:=(.seq (.reg [qO 1 (.box 80 (.t 0)),qO 2 (.mov (.c (.int .i64 0)))]) (.seq (.block 0 (.seq (.reg [qO 4 (.fla 0 (.t 1)),qO 5 (.ld 1 false (.t 4)),qO 6 (.call 53 [.t 5]),qO 7 (.not (.t 6)),qM 8 7,⟨some 9,.fla 1 (.t 1),(some (8,false))⟩,⟨some 10,.ld 1 false (.t 9),(some (8,false))⟩,⟨some 11,.call 53 [.t 10],(some (8,false))⟩,⟨some 12,.not (.t 11),(some (8,false))⟩,qO 13 (.pick (.t 8) (.c (.bool true)) (.t 12)),qM 3 13]) (.cond (.t 3) (.seq (.reg [qO 2 (.mov (.c (.int .i64 5)))]) .ret) (.seq (.reg [qO 15 (.fla 2 (.t 1)),qO 16 (.ld 1 false (.t 15)),qO 17 (.call 223 [.t 16]),qO 18 (.bin .eql (.t 17) (.c (.str []))),qM 14 18]) (.cond (.t 14) (.seq (.reg [qO 2 (.mov (.c (.int .i64 4)))]) .ret) (.seq (.reg [qO 20 (.fla 3 (.t 1)),qO 21 (.ld 1 false (.t 20)),qO 22 (.sln (.t 21)),qO 23 (.bin .gtr (.t 22) (.c (.int .i64 120))),qM 19 23]) (.cond (.t 19) (.seq (.reg [qO 2 (.mov (.c (.int .i64 2)))]) .ret) (.seq (.reg [qO 25 (.fla 3 (.t 1)),qO 26 (.ld 1 false (.t 25)),qO 27 (.call 108 [.t 26]),qO 28 (.not (.t 27)),qM 24 28]) (.cond (.t 24) (.seq (.reg [qO 2 (.mov (.c (.int .i64 3)))]) .ret) (.seq (.reg [qO 30 (.fla 4 (.t 1)),qO 31 (.ld 1 false (.t 30)),qO 32 (.call 106 [.t 31]),qO 33 (.not (.t 32)),qM 29 33]) (.cond (.t 29) (.seq (.reg [qO 2 (.mov (.c (.int .i64 1)))]) .ret) (.seq (.reg [qO 35 (.fla 5 (.t 1)),qO 36 (.ld 1 false (.t 35)),qO 37 (.bin .neq (.t 36) (.c (.str []))),qM 38 37,⟨some 39,.fla 5 (.t 1),(some (38,true))⟩,⟨some 40,.ld 1 false (.t 39),(some (38,true))⟩,⟨some 41,.call 53 [.t 40],(some (38,true))⟩,⟨some 42,.not (.t 41),(some (38,true))⟩,qO 43 (.pick (.t 38) (.t 42) (.c (.bool false))),qM 34 43]) (.cond (.t 34) (.seq (.reg [qO 2 (.mov (.c (.int .i64 5)))]) .ret) (.seq (.reg [qO 45 (.fla 5 (.t 1)),qO 46 (.ld 1 false (.t 45)),qO 47 (.fla 0 (.t 1)),qO 48 (.ld 1 false (.t 47)),qO 49 (.bin .eql (.t 46) (.t 48)),qM 44 49]) (.cond (.t 44) (.seq (.reg [qO 2 (.mov (.c (.int .i64 14)))]) .ret) (.seq (.reg [qO 51 (.fla 6 (.t 1)),qO 52 (.ld 1 false (.t 51)),qO 53 (.sln (.t 52)),qO 54 (.bin .gtr (.t 53) (.c (.int .i64 20000))),qM 50 54]) (.cond (.t 50) (.seq (.reg [qO 2 (.mov (.c (.int .i64 2)))]) .ret) (.seq (.reg [qO 56 (.fla 6 (.t 1)),qO 57 (.ld 1 false (.t 56)),qO 58 (.call 186 [.t 57]),qO 59 (.not (.t 58)),qM 55 59]) (.cond (.t 55) (.seq (.reg [qO 2 (.mov (.c (.int .i64 3)))]) .ret) .skip))))))))))))))))))) (.seq (.reg [qO 2 (.mov (.c (.int .i64 0)))]) .ret)))
def rs_intake_CheckItem:List IRes:=[.t 2]
theorem ck_intake_CheckItem:chkF Tryz.prog Tryz.f157 ir_intake_CheckItem rs_intake_CheckItem 60=true:=by kernel_rfl
def ir_chaseref2_in:IC:=(.seq (.reg [qO 6 (.mov (.c (.bool false)))]) (.seq (.reg [qM 7 1,qM 8 0,qO 9 (.bin .leq (.t 7) (.t 8)),qM 10 9,⟨some 11,.mov (.t 0),(some (10,true))⟩,⟨some 12,.mov (.t 2),(some (10,true))⟩,⟨some 13,.bin .leq (.t 11) (.t 12),(some (10,true))⟩,qO 14 (.pick (.t 10) (.t 13) (.c (.bool false))),qM 6 14]) .ret))
def rs_chaseref2_in:List IRes:=[.t 6]
theorem ck_chaseref2_in:chkF Tryz.prog Tryz.f210 ir_chaseref2_in rs_chaseref2_in 15=true:=by kernel_rfl
def ir_chaseref2_only:IC:=(.seq (.reg [qO 4 (.mov (.c (.bool false)))]) (.seq (.reg [qM 5 0,qM 6 1,qO 7 (.call 155 [.t 5,.t 6]),qO 8 (.bin .eql (.t 7) (.c (.str []))),qM 4 8]) .ret))
def rs_chaseref2_only:List IRes:=[.t 4]
theorem ck_chaseref2_only:chkF Tryz.prog Tryz.f270 ir_chaseref2_only rs_chaseref2_only 9=true:=by kernel_rfl
def ir_chaseref2_Key:IC:=(.seq (.reg [qO 2 (.mov (.c (.bool false)))]) (.seq (.reg [qM 3 0,qO 4 (.sln (.t 3)),qO 5 (.call 210 [.t 4,.c (.int .i64 1),.c (.int .i64 40)]),qM 6 5,⟨some 7,.mov (.t 0),(some (6,true))⟩,⟨some 8,.ssl (.t 7) none (some (.c (.int .i64 1))),(some (6,true))⟩,⟨some 9,.call 270 [.t 8,.c (.str [97,98,99,100,101,102,103,104,105,106,107,108,109,110,111,112,113,114,115,116,117,118,119,120,121,122])],(some (6,true))⟩,qO 10 (.pick (.t 6) (.t 9) (.c (.bool false))),qM 11 10,⟨some 12,.mov (.t 0),(some (11,true))⟩,⟨some 13,.call 270 [.t 12,.c (.str [97,98,99,100,101,102,103,104,105,106,107,108,109,110,111,112,113,114,115,116,117,118,119,120,121,122,48,49,50,51,52,53,54,55,56,57,45,95])],(some (11,true))⟩,qO 14 (.pick (.t 11) (.t 13) (.c (.bool false))),qM 2 14]) .ret))
def rs_chaseref2_Key:List IRes:=[.t 2]
theorem ck_chaseref2_Key:chkF Tryz.prog Tryz.f209 ir_chaseref2_Key rs_chaseref2_Key 15=true:=by kernel_rfl
def ir_chaseref2_IsText_L0:IC:=(.seq (.reg [qO 7 (.bin .lss (.t 6) (.t 5))]) (.seq (.cond (.t 7) .skip (.exit 0)) (.seq (.block 1 (.seq (.reg [qM 8 6,qM 3 8]) (.seq (.reg [qM 9 0,qM 10 3,qO 11 (.idx (.t 9) (.t 10)),qO 12 (.bin .lss (.t 11) (.c (.int .u8 32))),qM 13 12,⟨some 14,.mov (.t 0),(some (13,true))⟩,⟨some 15,.mov (.t 3),(some (13,true))⟩,⟨some 16,.idx (.t 14) (.t 15),(some (13,true))⟩,⟨some 17,.bin .neq (.t 16) (.c (.int .u8 10)),(some (13,true))⟩,qO 18 (.pick (.t 13) (.t 17) (.c (.bool false))),qM 19 18,⟨some 20,.mov (.t 0),(some (19,false))⟩,⟨some 21,.mov (.t 3),(some (19,false))⟩,⟨some 22,.idx (.t 20) (.t 21),(some (19,false))⟩,⟨some 23,.bin .eql (.t 22) (.c (.int .u8 127)),(some (19,false))⟩,qO 24 (.pick (.t 19) (.c (.bool true)) (.t 23))]) (.cond (.t 24) (.seq (.reg [qO 2 (.mov (.c (.bool false)))]) .ret) .skip)))) (.reg [qO 25 (.bin .add (.t 6) (.c (.int .i64 1))),qM 6 25]))))
def ir_chaseref2_IsText:IC:=(.seq (.reg [qO 2 (.mov (.c (.bool false)))]) (.seq (.seq (.reg [qM 4 0,qO 5 (.sln (.t 4)),qO 6 (.mov (.c (.int .i64 0)))]) (.block 0 (.loop ir_chaseref2_IsText_L0))) (.seq (.reg [qM 26 0,qO 27 (.call 208 [.t 26]),qM 28 27,⟨some 29,.mov (.t 0),(some (28,true))⟩,⟨some 30,.bin .eql (.t 29) (.c (.str [])),(some (28,true))⟩,⟨some 31,.mov (.t 30),(some (28,true))⟩,⟨some 32,.mov (.t 0),(some (31,false))⟩,⟨some 33,.mov (.t 0),(some (31,false))⟩,⟨some 34,.sln (.t 33),(some (31,false))⟩,⟨some 35,.bin .sub (.t 34) (.c (.int .i64 1)),(some (31,false))⟩,⟨some 36,.idx (.t 32) (.t 35),(some (31,false))⟩,⟨some 37,.bin .eql (.t 36) (.c (.int .u8 10)),(some (31,false))⟩,⟨some 38,.pick (.t 31) (.c (.bool true)) (.t 37),(some (28,true))⟩,qO 39 (.pick (.t 28) (.t 38) (.c (.bool false))),qM 2 39]) .ret)))
def rs_chaseref2_IsText:List IRes:=[.t 2]
theorem ck_chaseref2_IsText:chkF Tryz.prog Tryz.f212 ir_chaseref2_IsText rs_chaseref2_IsText 40=true:=by kernel_rfl
def ir_chaseref2_Plain_L0:IC:=(.seq (.reg [qO 7 (.bin .lss (.t 6) (.t 5))]) (.seq (.cond (.t 7) .skip (.exit 0)) (.seq (.block 1 (.seq (.reg [qM 8 6,qM 3 8]) (.seq (.reg [qM 9 0,qM 10 3,qO 11 (.idx (.t 9) (.t 10)),qO 12 (.bin .lss (.t 11) (.c (.int .u8 32))),qM 13 12,⟨some 14,.mov (.t 0),(some (13,false))⟩,⟨some 15,.mov (.t 3),(some (13,false))⟩,⟨some 16,.idx (.t 14) (.t 15),(some (13,false))⟩,⟨some 17,.bin .eql (.t 16) (.c (.int .u8 127)),(some (13,false))⟩,qO 18 (.pick (.t 13) (.c (.bool true)) (.t 17))]) (.cond (.t 18) (.seq (.reg [qO 2 (.mov (.c (.bool false)))]) .ret) .skip)))) (.reg [qO 19 (.bin .add (.t 6) (.c (.int .i64 1))),qM 6 19]))))
def ir_chaseref2_Plain:IC:=(.seq (.reg [qO 2 (.mov (.c (.bool false)))]) (.seq (.seq (.reg [qM 4 0,qO 5 (.sln (.t 4)),qO 6 (.mov (.c (.int .i64 0)))]) (.block 0 (.loop ir_chaseref2_Plain_L0))) (.seq (.reg [qM 20 0,qO 21 (.call 208 [.t 20]),qM 22 21,⟨some 23,.mov (.t 0),(some (22,true))⟩,⟨some 24,.call 155 [.t 23,.c (.str [32])],(some (22,true))⟩,⟨some 25,.mov (.t 0),(some (22,true))⟩,⟨some 26,.bin .eql (.t 24) (.t 25),(some (22,true))⟩,qO 27 (.pick (.t 22) (.t 26) (.c (.bool false))),qM 28 27,⟨some 29,.mov (.t 0),(some (28,true))⟩,⟨some 30,.call 156 [.t 29,.c (.str [32,32])],(some (28,true))⟩,⟨some 31,.not (.t 30),(some (28,true))⟩,qO 32 (.pick (.t 28) (.t 31) (.c (.bool false))),qM 2 32]) .ret)))
def rs_chaseref2_Plain:List IRes:=[.t 2]
theorem ck_chaseref2_Plain:chkF Tryz.prog Tryz.f211 ir_chaseref2_Plain rs_chaseref2_Plain 33=true:=by kernel_rfl
def ir_chaseref2_ItemFault:IC:=(.seq (.reg [qO 1 (.box 80 (.t 0)),qO 2 (.mov (.c (.int .i64 0)))]) (.seq (.block 0 (.seq (.reg [qO 4 (.fla 0 (.t 1)),qO 5 (.ld 1 false (.t 4)),qO 6 (.call 209 [.t 5]),qO 7 (.not (.t 6)),qM 8 7,⟨some 9,.fla 1 (.t 1),(some (8,false))⟩,⟨some 10,.ld 1 false (.t 9),(some (8,false))⟩,⟨some 11,.call 209 [.t 10],(some (8,false))⟩,⟨some 12,.not (.t 11),(some (8,false))⟩,qO 13 (.pick (.t 8) (.c (.bool true)) (.t 12)),qM 3 13]) (.cond (.t 3) (.seq (.reg [qO 2 (.mov (.c (.int .i64 5)))]) .ret) (.seq (.reg [qO 15 (.fla 2 (.t 1)),qO 16 (.ld 1 false (.t 15)),qO 17 (.call 210 [.t 16,.c (.int .i64 1),.c (.int .i64 4)]),qO 18 (.not (.t 17)),qM 14 18]) (.cond (.t 14) (.seq (.reg [qO 2 (.mov (.c (.int .i64 4)))]) .ret) (.seq (.reg [qO 20 (.fla 3 (.t 1)),qO 21 (.ld 1 false (.t 20)),qO 22 (.sln (.t 21)),qO 23 (.bin .gtr (.t 22) (.c (.int .i64 120))),qM 19 23]) (.cond (.t 19) (.seq (.reg [qO 2 (.mov (.c (.int .i64 2)))]) .ret) (.seq (.reg [qO 25 (.fla 3 (.t 1)),qO 26 (.ld 1 false (.t 25)),qO 27 (.call 211 [.t 26]),qO 28 (.not (.t 27)),qM 24 28]) (.cond (.t 24) (.seq (.reg [qO 2 (.mov (.c (.int .i64 3)))]) .ret) (.seq (.reg [qO 30 (.fla 4 (.t 1)),qO 31 (.ld 1 false (.t 30)),qO 32 (.call 210 [.t 31,.c (.int .i64 0),.c (.int .i64 5761439)]),qO 33 (.not (.t 32)),qM 29 33]) (.cond (.t 29) (.seq (.reg [qO 2 (.mov (.c (.int .i64 1)))]) .ret) (.seq (.reg [qO 35 (.fla 5 (.t 1)),qO 36 (.ld 1 false (.t 35)),qO 37 (.bin .neq (.t 36) (.c (.str []))),qM 38 37,⟨some 39,.fla 5 (.t 1),(some (38,true))⟩,⟨some 40,.ld 1 false (.t 39),(some (38,true))⟩,⟨some 41,.call 209 [.t 40],(some (38,true))⟩,⟨some 42,.not (.t 41),(some (38,true))⟩,qO 43 (.pick (.t 38) (.t 42) (.c (.bool false))),qM 34 43]) (.cond (.t 34) (.seq (.reg [qO 2 (.mov (.c (.int .i64 5)))]) .ret) (.seq (.reg [qO 45 (.fla 5 (.t 1)),qO 46 (.ld 1 false (.t 45)),qO 47 (.fla 0 (.t 1)),qO 48 (.ld 1 false (.t 47)),qO 49 (.bin .eql (.t 46) (.t 48)),qM 44 49]) (.cond (.t 44) (.seq (.reg [qO 2 (.mov (.c (.int .i64 14)))]) .ret) (.seq (.reg [qO 51 (.fla 6 (.t 1)),qO 52 (.ld 1 false (.t 51)),qO 53 (.sln (.t 52)),qO 54 (.bin .gtr (.t 53) (.c (.int .i64 20000))),qM 50 54]) (.cond (.t 50) (.seq (.reg [qO 2 (.mov (.c (.int .i64 2)))]) .ret) (.seq (.reg [qO 56 (.fla 6 (.t 1)),qO 57 (.ld 1 false (.t 56)),qO 58 (.call 212 [.t 57]),qO 59 (.not (.t 58)),qM 55 59]) (.cond (.t 55) (.seq (.reg [qO 2 (.mov (.c (.int .i64 3)))]) .ret) .skip))))))))))))))))))) (.seq (.reg [qO 2 (.mov (.c (.int .i64 0)))]) .ret)))
def rs_chaseref2_ItemFault:List IRes:=[.t 2]
theorem ck_chaseref2_ItemFault:chkF Tryz.prog Tryz.f150 ir_chaseref2_ItemFault rs_chaseref2_ItemFault 60=true:=by kernel_rfl
def kwE (n:Int):List UInt8:=if n=1 then [109,97,105,108] else if n=2 then [102,105,108,101] else if n=3 then [98,111,120] else if n=4 then [110,111,116,101] else []
theorem kw_nil (n:Int):decide (kwE n=[])=!inE n 1 4:=by
 unfold kwE inE
 by_cases h1:n=1
 ·subst h1;rfl
 by_cases h2:n=2
 ·subst h2;rfl
 by_cases h3:n=3
 ·subst h3;rfl
 by_cases h4:n=4
 ·subst h4;rfl
 rw [if_neg h1,if_neg h2,if_neg h3,if_neg h4,Bool.eq_iff_iff]
 simp only [Bool.not_eq_true',Bool.and_eq_false_iff,decide_eq_false_iff_not,decide_true,true_iff]
 omega
theorem bad_true (c:UInt8):((decide ((c.toNat:Int) < 32) && !decide ((c.toNat:Int)=10)) || decide ((c.toNat:Int)=127))=badB true c:=all256 (p:=fun c=>((decide ((c.toNat:Int) < 32) && !decide ((c.toNat:Int)=10)) || decide ((c.toNat:Int)=127))=badB true c) (by decide +kernel) c
theorem bad_false (c:UInt8):(decide ((c.toNat:Int) < 32) || decide ((c.toNat:Int)=127))=badB false c:=all256 (p:=fun c=>(decide ((c.toNat:Int) < 32) || decide ((c.toNat:Int)=127))=badB false c) (by decide +kernel) c
section
variable {E:Envt}
theorem kindWord_ok (n:Int):PCall Tryz.prog E 223 [int n] (·=.str (kwE n)):=by
 refine pcallF mixed Tryz.func223 ck_intake_kindWord ?_
 simp only [a0,l0,OS.ao,List.map_cons,List.map_nil,List.length_cons,List.length_nil,List.cons_append,List.nil_append,Nat.reduceSub,Nat.reduceAdd,List.replicate_succ,List.replicate_zero,ir_intake_kindWord,rs_intake_kindWord,ZZ,WW,Ze,reduceCtorEq,Nat.reduceAdd,Nat.reduceMul,Nat.reduceLeDiff,Nat.reduceLT,Nat.reduceEqDiff]
 unfold kwE
 refine br ?_ ?_
 ·intro h
  have h:=of_decide_eq_true h
  simp only [ZZ,WW,Ze,reduceCtorEq,Nat.reduceAdd,Nat.reduceMul,Nat.reduceLeDiff,Nat.reduceLT,Nat.reduceEqDiff]
  rw [if_pos h]
 intro h
 rw [if_neg (of_decide_eq_false h)]
 simp only [ZZ,WW,Ze,reduceCtorEq,Nat.reduceAdd,Nat.reduceMul,Nat.reduceLeDiff,Nat.reduceLT,Nat.reduceEqDiff]
 refine br ?_ ?_
 ·intro h
  have h:=of_decide_eq_true h
  simp only [ZZ,WW,Ze,reduceCtorEq,Nat.reduceAdd,Nat.reduceMul,Nat.reduceLeDiff,Nat.reduceLT,Nat.reduceEqDiff]
  rw [if_pos h]
 intro h
 rw [if_neg (of_decide_eq_false h)]
 simp only [ZZ,WW,Ze,reduceCtorEq,Nat.reduceAdd,Nat.reduceMul,Nat.reduceLeDiff,Nat.reduceLT,Nat.reduceEqDiff]
 refine br ?_ ?_
 ·intro h
  have h:=of_decide_eq_true h
  simp only [ZZ,WW,Ze,reduceCtorEq,Nat.reduceAdd,Nat.reduceMul,Nat.reduceLeDiff,Nat.reduceLT,Nat.reduceEqDiff]
  rw [if_pos h]
 intro h
 rw [if_neg (of_decide_eq_false h)]
 simp only [ZZ,WW,Ze,reduceCtorEq,Nat.reduceAdd,Nat.reduceMul,Nat.reduceLeDiff,Nat.reduceLT,Nat.reduceEqDiff]
 refine br ?_ ?_
 ·intro h
  have h:=of_decide_eq_true h
  simp only [ZZ,WW,Ze,reduceCtorEq,Nat.reduceAdd,Nat.reduceMul,Nat.reduceLeDiff,Nat.reduceLT,Nat.reduceEqDiff]
  rw [if_pos h]
 intro h
 rw [if_neg (of_decide_eq_false h)]
 simp only [ZZ,WW,Ze,reduceCtorEq,Nat.reduceAdd,Nat.reduceMul,Nat.reduceLeDiff,Nat.reduceLT,Nat.reduceEqDiff]
theorem in2_ok (n lo hi:Int):PCall Tryz.prog E 210 [int n,int lo,int hi] (·=.bool (inE n lo hi)):=by
 refine pcallF mixed Tryz.func210 ck_chaseref2_in ?_
 simp only [a0,l0,OS.ao,List.map_cons,List.map_nil,List.length_cons,List.length_nil,List.cons_append,List.nil_append,Nat.reduceSub,Nat.reduceAdd,List.replicate_succ,List.replicate_zero,ir_chaseref2_in,rs_chaseref2_in,ZZ,WW,Ze,reduceCtorEq,Nat.reduceAdd,Nat.reduceMul,Nat.reduceLeDiff,Nat.reduceLT,Nat.reduceEqDiff]
 rfl
theorem only_ok (s cs:List UInt8) (hs:s.length≤1000000000) (hc:cs.length≤1000) (ha:asc cs=true):PCall Tryz.prog E 270 [.str s,.str cs] (·=.bool (madeF s cs)):=by
 refine pcallF mixed Tryz.func270 ck_chaseref2_only ?_
 simp only [a0,l0,OS.ao,List.map_cons,List.map_nil,List.length_cons,List.length_nil,List.cons_append,List.nil_append,Nat.reduceSub,Nat.reduceAdd,List.replicate_succ,List.replicate_zero,ir_chaseref2_only,rs_chaseref2_only,ZZ,WW,Ze,reduceCtorEq,Nat.reduceAdd,Nat.reduceMul,Nat.reduceLeDiff,Nat.reduceLT,Nat.reduceEqDiff]
 refine use1 (TrimSet_ok s cs hs (by omega) ha) rfl (.inl rfl) ?_
 simp only [ZZ,WW,Ze,reduceCtorEq,Nat.reduceAdd,Nat.reduceMul,Nat.reduceLeDiff,Nat.reduceLT,Nat.reduceEqDiff]
 rfl
theorem Key2_ok (s:List UInt8) (hs:s.length≤1000000):PCall Tryz.prog E 209 [.str s] (·=.bool (keyB s)):=by
 refine pcallF mixed Tryz.func209 ck_chaseref2_Key ?_
 simp only [a0,l0,OS.ao,List.map_cons,List.map_nil,List.length_cons,List.length_nil,List.cons_append,List.nil_append,Nat.reduceSub,Nat.reduceAdd,List.replicate_succ,List.replicate_zero,ir_chaseref2_Key,rs_chaseref2_Key,ZZ,WW,Ze,reduceCtorEq,Nat.reduceAdd,Nat.reduceMul,Nat.reduceLeDiff,Nat.reduceLT,Nat.reduceEqDiff]
 refine use1 (in2_ok _ _ _) rfl (.inl rfl) ?_
 simp only [ZZ,WW,Ze,reduceCtorEq,Nat.reduceAdd,Nat.reduceMul,Nat.reduceLeDiff,Nat.reduceLT,Nat.reduceEqDiff]
 refine ⟨fun h=>⟨h,by omega,by simp only [inE,Bool.and_eq_true,decide_eq_true_eq] at h;omega⟩,?_⟩
 refine useG (fun _=>only_ok (s.take (Int.toNat 1)) smSet (by rw [List.length_take];omega) (by decide) (by decide)) rfl (.inl rfl) ?_
 simp only [ZZ,WW,Ze,reduceCtorEq,Nat.reduceAdd,Nat.reduceMul,Nat.reduceLeDiff,Nat.reduceLT,Nat.reduceEqDiff]
 refine useG (fun _=>only_ok s kcSet (by omega) (by decide) (by decide)) rfl (.inl rfl) ?_
 simp only [ZZ,WW,Ze,reduceCtorEq,Nat.reduceAdd,Nat.reduceMul,Nat.reduceLeDiff,Nat.reduceLT,Nat.reduceEqDiff]
 congr 1
 rw [madeF_all,madeF_all,keyB]
 have h1:(s.all fun c=>kcSet.contains c)=s.all kcB:=by congr 1;funext c;exact kcB_set c
 rw [h1]
 cases s with
 |nil=>rfl
 |cons a r=>
  have h2:((a :: r).take (Int.toNat 1)).all (fun c=>smSet.contains c)=smB a:=by
   show ([a]:List UInt8).all (fun c=>smSet.contains c)=smB a
   rw [List.all_cons,smB_set]
   simp
  rw [h2]
  rfl
end
theorem last10 (s:List UInt8) (h:s≠[]):decide (((s.getD ((s.length:Int) - 1).toNat 0).toNat:Int)=10)=sufE s [10]:=by
 obtain ⟨t,c,rfl⟩:∃ t c,s=t++[c]:=⟨s.dropLast,s.getLast h,(List.dropLast_concat_getLast h).symm⟩
 have e:(((t++[c]).length:Int) - 1).toNat=t.length:=by simp
 have e2:(t++[c]).getD t.length 0=c:=by simp [List.getD]
 have e3:(t++[c]).drop ((t++[c]).length - ([10]:List UInt8).length)=[c]:=by simp
 have e4:decide ((([10]:List UInt8).length:Int)≤(t++[c]).length)=true:=by simp;omega
 rw [e,e2]
 unfold sufE
 rw [e3,e4,Bool.true_and]
 exact all256 (p:=fun c=>decide ((c.toNat:Int)=10)=decide ([c]=[(10:UInt8)])) (by decide +kernel) c
theorem IsText2_ok (s:List UInt8) (hs:s.length≤1000000):PCall Tryz.prog E0 212 [.str s] (·=.bool (textE s)):=by
 refine pcallF mixed Tryz.func212 ck_chaseref2_IsText ?_
 simp only [a0,l0,OS.ao,List.map_cons,List.map_nil,List.length_cons,List.length_nil,List.cons_append,List.nil_append,Nat.reduceSub,Nat.reduceAdd,List.replicate_succ,List.replicate_zero,ir_chaseref2_IsText,rs_chaseref2_IsText,ZZ,WW,Ze,reduceCtorEq,Nat.reduceAdd,Nat.reduceMul,Nat.reduceLeDiff,Nat.reduceLT,Nat.reduceEqDiff]
 refine loop_intro (fun n fr L=>∃ (k:Nat),k≤s.length∧n=s.length - k∧(((s.take k).all fun c=>!badB true c)=true)∧fr=[.p (.str s),oo,oo,oo,oo,.p (int (s.length:Nat)),.p (int (k:Nat)),oo,oo,oo,oo,oo,oo,oo,oo,oo,oo,oo,oo,oo,oo,oo,oo,oo,oo,oo,oo,oo,oo,oo,oo,oo,oo,oo,oo,oo,oo,oo,oo,oo]∧L=[]) (s.length) [.p (.str s),oo,oo,oo,oo,.p (int (s.length:Nat)),.p (int (0:Nat)),oo,oo,oo,oo,oo,oo,oo,oo,oo,oo,oo,oo,oo,oo,oo,oo,oo,oo,oo,oo,oo,oo,oo,oo,oo,oo,oo,oo,oo,oo,oo,oo,oo] [] (by (simp only [ZZ,WW,Ze,reduceCtorEq,Nat.reduceAdd,Nat.reduceMul,Nat.reduceLeDiff,Nat.reduceLT,Nat.reduceEqDiff];try trivial)) (by (simp only [ZZ,WW,Ze,reduceCtorEq,Nat.reduceAdd,Nat.reduceMul,Nat.reduceLeDiff,Nat.reduceLT,Nat.reduceEqDiff];try trivial)) ⟨0,by omega,by omega,by simp,rfl,rfl⟩ ?_
 rintro n fr L ⟨k,hk,rfl,hall,rfl,rfl⟩
 simp only [ir_chaseref2_IsText_L0,ZZ,WW,Ze,reduceCtorEq,Nat.reduceAdd,Nat.reduceMul,Nat.reduceLeDiff,Nat.reduceLT,Nat.reduceEqDiff]
 refine br ?_ ?_
 ·intro h
  have hlt:k < s.length:=by have:=of_decide_eq_true h;omega
  obtain ⟨c,hc⟩:∃ x,s[k]?=some x:=⟨_,List.getElem?_eq_getElem hlt⟩
  have hg:s.getD k 0=c:=by simp [List.getD,hc]
  have hnx:=all_take (p:=fun c=>!badB true c) hc
  have hbq:=bad_true c
  simp only [ZZ,WW,Ze,reduceCtorEq,Nat.reduceAdd,Nat.reduceMul,Nat.reduceLeDiff,Nat.reduceLT,Nat.reduceEqDiff,hg]
  ((repeat' (with_reducible apply And.intro))<;>try ((exact sc_)))
  rw [hbq]
  refine br ?_ ?_
  ·intro hb
   simp only [ZZ,WW,Ze,reduceCtorEq,Nat.reduceAdd,Nat.reduceMul,Nat.reduceLeDiff,Nat.reduceLT,Nat.reduceEqDiff]
   have:(s.all fun c=>!badB true c)=false:=by
    rw [List.all_eq_false]
    exact ⟨c,List.mem_of_getElem? hc,by simp [hb]⟩
   simp [textE,visE,this]
  ·intro hb
   simp only [ZZ,WW,Ze,reduceCtorEq,Nat.reduceAdd,Nat.reduceMul,Nat.reduceLeDiff,Nat.reduceLT,Nat.reduceEqDiff]
   ((repeat' (with_reducible apply And.intro))<;>try ((exact sc_)))
   refine end_round (s.length - (k+1)) [.p (.str s),oo,oo,oo,oo,.p (int (s.length:Nat)),.p (int ((k+1):Nat)),oo,oo,oo,oo,oo,oo,oo,oo,oo,oo,oo,oo,oo,oo,oo,oo,oo,oo,oo,oo,oo,oo,oo,oo,oo,oo,oo,oo,oo,oo,oo,oo,oo] [] (by omega) (by (simp only [ZZ,WW,Ze,reduceCtorEq,Nat.reduceAdd,Nat.reduceMul,Nat.reduceLeDiff,Nat.reduceLT,Nat.reduceEqDiff];try trivial)) (by (simp only [ZZ,WW,Ze,reduceCtorEq,Nat.reduceAdd,Nat.reduceMul,Nat.reduceLeDiff,Nat.reduceLT,Nat.reduceEqDiff];try trivial)) ⟨k+1,by omega,rfl,by rw [hnx,hall,hb];rfl,rfl,rfl⟩
 intro h
 have hge:s.length≤k:=by have:=of_decide_eq_false h;omega
 rw [List.take_of_length_le hge] at hall
 simp only [ZZ,WW,Ze,reduceCtorEq,Nat.reduceAdd,Nat.reduceMul,Nat.reduceLeDiff,Nat.reduceLT,Nat.reduceEqDiff]
 refine use1 (Valid_ok s (by omega)) rfl (.inl rfl) ?_
 simp only [ZZ,WW,Ze,reduceCtorEq,Nat.reduceAdd,Nat.reduceMul,Nat.reduceLeDiff,Nat.reduceLT,Nat.reduceEqDiff]
 have hne:(Lib.validD s && (Lib.validD s && !decide (s=[])))=true→s≠[]∧1≤s.length:=fun h=>by
  simp only [Bool.and_eq_true,Bool.not_eq_true',decide_eq_false_iff_not] at h
  have h2:=h.2.2
  exact ⟨h2,by rcases s with _|⟨c,r⟩;exact absurd rfl h2;simp⟩
 refine ⟨fun h=>⟨h,i64_of (by omega) (by omega)⟩,fun h=>⟨h,h,by have:=(hne h).2;omega,by omega⟩,fun h=>⟨h,fun h2=>by rw [h,h2];rfl⟩,?_⟩
 have hv:visE s true=Lib.validD s:=by rw [visE,hall,Bool.true_and]
 rw [textE,hv]
 congr 2
 by_cases h0:s=[]
 ·subst h0;rfl
 ·rw [last10 s h0]
theorem Plain2_ok (s:List UInt8) (hs:s.length≤1000000):PCall Tryz.prog E0 211 [.str s] (·=.bool (plainB s)):=by
 refine pcallF mixed Tryz.func211 ck_chaseref2_Plain ?_
 simp only [a0,l0,OS.ao,List.map_cons,List.map_nil,List.length_cons,List.length_nil,List.cons_append,List.nil_append,Nat.reduceSub,Nat.reduceAdd,List.replicate_succ,List.replicate_zero,ir_chaseref2_Plain,rs_chaseref2_Plain,ZZ,WW,Ze,reduceCtorEq,Nat.reduceAdd,Nat.reduceMul,Nat.reduceLeDiff,Nat.reduceLT,Nat.reduceEqDiff]
 refine loop_intro (fun n fr L=>∃ (k:Nat),k≤s.length∧n=s.length - k∧(((s.take k).all fun c=>!badB false c)=true)∧fr=[.p (.str s),oo,oo,oo,oo,.p (int (s.length:Nat)),.p (int (k:Nat)),oo,oo,oo,oo,oo,oo,oo,oo,oo,oo,oo,oo,oo,oo,oo,oo,oo,oo,oo,oo,oo,oo,oo,oo,oo,oo]∧L=[]) (s.length) [.p (.str s),oo,oo,oo,oo,.p (int (s.length:Nat)),.p (int (0:Nat)),oo,oo,oo,oo,oo,oo,oo,oo,oo,oo,oo,oo,oo,oo,oo,oo,oo,oo,oo,oo,oo,oo,oo,oo,oo,oo] [] (by (simp only [ZZ,WW,Ze,reduceCtorEq,Nat.reduceAdd,Nat.reduceMul,Nat.reduceLeDiff,Nat.reduceLT,Nat.reduceEqDiff];try trivial)) (by (simp only [ZZ,WW,Ze,reduceCtorEq,Nat.reduceAdd,Nat.reduceMul,Nat.reduceLeDiff,Nat.reduceLT,Nat.reduceEqDiff];try trivial)) ⟨0,by omega,by omega,by simp,rfl,rfl⟩ ?_
 rintro n fr L ⟨k,hk,rfl,hall,rfl,rfl⟩
 simp only [ir_chaseref2_Plain_L0,ZZ,WW,Ze,reduceCtorEq,Nat.reduceAdd,Nat.reduceMul,Nat.reduceLeDiff,Nat.reduceLT,Nat.reduceEqDiff]
 refine br ?_ ?_
 ·intro h
  have hlt:k < s.length:=by have:=of_decide_eq_true h;omega
  obtain ⟨c,hc⟩:∃ x,s[k]?=some x:=⟨_,List.getElem?_eq_getElem hlt⟩
  have hg:s.getD k 0=c:=by simp [List.getD,hc]
  have hnx:=all_take (p:=fun c=>!badB false c) hc
  have hbq:=bad_false c
  simp only [ZZ,WW,Ze,reduceCtorEq,Nat.reduceAdd,Nat.reduceMul,Nat.reduceLeDiff,Nat.reduceLT,Nat.reduceEqDiff,hg]
  ((repeat' (with_reducible apply And.intro))<;>try ((exact sc_)))
  rw [hbq]
  refine br ?_ ?_
  ·intro hb
   simp only [ZZ,WW,Ze,reduceCtorEq,Nat.reduceAdd,Nat.reduceMul,Nat.reduceLeDiff,Nat.reduceLT,Nat.reduceEqDiff]
   have:(s.all fun c=>!badB false c)=false:=by
    rw [List.all_eq_false]
    exact ⟨c,List.mem_of_getElem? hc,by simp [hb]⟩
   simp [plainB,visE,this]
  ·intro hb
   simp only [ZZ,WW,Ze,reduceCtorEq,Nat.reduceAdd,Nat.reduceMul,Nat.reduceLeDiff,Nat.reduceLT,Nat.reduceEqDiff]
   ((repeat' (with_reducible apply And.intro))<;>try ((exact sc_)))
   refine end_round (s.length - (k+1)) [.p (.str s),oo,oo,oo,oo,.p (int (s.length:Nat)),.p (int ((k+1):Nat)),oo,oo,oo,oo,oo,oo,oo,oo,oo,oo,oo,oo,oo,oo,oo,oo,oo,oo,oo,oo,oo,oo,oo,oo,oo,oo] [] (by omega) (by (simp only [ZZ,WW,Ze,reduceCtorEq,Nat.reduceAdd,Nat.reduceMul,Nat.reduceLeDiff,Nat.reduceLT,Nat.reduceEqDiff];try trivial)) (by (simp only [ZZ,WW,Ze,reduceCtorEq,Nat.reduceAdd,Nat.reduceMul,Nat.reduceLeDiff,Nat.reduceLT,Nat.reduceEqDiff];try trivial)) ⟨k+1,by omega,rfl,by rw [hnx,hall,hb];rfl,rfl,rfl⟩
 intro h
 have hge:s.length≤k:=by have:=of_decide_eq_false h;omega
 rw [List.take_of_length_le hge] at hall
 simp only [ZZ,WW,Ze,reduceCtorEq,Nat.reduceAdd,Nat.reduceMul,Nat.reduceLeDiff,Nat.reduceLT,Nat.reduceEqDiff]
 refine use1 (Valid_ok s (by omega)) rfl (.inl rfl) ?_
 simp only [ZZ,WW,Ze,reduceCtorEq,Nat.reduceAdd,Nat.reduceMul,Nat.reduceLeDiff,Nat.reduceLT,Nat.reduceEqDiff]
 refine useG (fun _=>TrimSet_ok s [32] (by omega) (by decide) (by decide)) rfl (.inl rfl) ?_
 simp only [ZZ,WW,Ze,reduceCtorEq,Nat.reduceAdd,Nat.reduceMul,Nat.reduceLeDiff,Nat.reduceLT,Nat.reduceEqDiff]
 refine useG (fun _=>Contains_ok s [32,32] (by omega)) rfl (.inl rfl) ?_
 simp only [ZZ,WW,Ze,reduceCtorEq,Nat.reduceAdd,Nat.reduceMul,Nat.reduceLeDiff,Nat.reduceLT,Nat.reduceEqDiff]
 have hv:visE s false=Lib.validD s:=by rw [visE,hall,Bool.true_and]
 rw [plainB,trim_id,hv]
 cases Lib.validD s<;>cases Lib.hasPrefix s [32]<;>cases sufE s [32]<;>rfl
end Go.Proofs.YtehfjlpenlffmaaGreatDoor
