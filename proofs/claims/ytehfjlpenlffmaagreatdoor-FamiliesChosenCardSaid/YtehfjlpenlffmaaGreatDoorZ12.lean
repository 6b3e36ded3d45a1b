import Derived.Test.YtehfjlpenlffmaaGreatDoorZ11
import Derived.Test.YtehfjlpenlffmaaGreatDoorZ9
import Derived.Test.YtehfjlpenlffmaaGreatDoorZ5
import Derived.Test.YtehfjlpenlffmaaGreatDoorZ10
import Derived.Lib.Bytealg
import Derived.Test.YtehfjlpenlffmaaGreatDoorZ6
import Derived.Test.YtehfjlpenlffmaaGreatDoorZ4
import Derived.Test.YtehfjlpenlffmaaGreatDoorZ8
set_option linter.unusedVariables false
set_option linter.unusedSimpArgs false
set_option linter.defProp false
namespace Go.Proofs.YtehfjlpenlffmaaGreatDoor
open Go.RowKit
def ir_slices_Reverse_api_Ruling_api_Ruling_L0:IC:=(.seq (.seq (.reg [qM 7 2,qM 8 3,qO 9 (.bin .lss (.t 7) (.t 8))]) (.cond (.t 9) .skip (.exit 0))) (.seq (.block 1 (.drg [qM 14 0,qM 15 2,qM 16 0,qM 17 3,qM 18 0,qM 19 3,qO 20 (.ixa 3 (.t 18) (.t 19)),qO 21 (.ld 3 true (.t 20)),qM 22 0,qM 23 2,qO 24 (.ixa 3 (.t 22) (.t 23)),qO 25 (.ld 3 true (.t 24)),qO 26 (.ixa 3 (.t 14) (.t 15)),⟨none,.st 3 (.t 26) (.t 21),none⟩,qO 27 (.ixa 3 (.t 16) (.t 17)),⟨none,.st 3 (.t 27) (.t 25),none⟩])) (.reg [qM 10 2,qO 11 (.bin .add (.t 10) (.c (.int .i64 1))),qM 12 3,qO 13 (.bin .sub (.t 12) (.c (.int .i64 1))),qM 2 11,qM 3 13])))
def ir_slices_Reverse_api_Ruling_api_Ruling:IC:=(.seq (.reg [qM 4 0,qO 5 (.len (.t 4)),qO 6 (.bin .sub (.t 5) (.c (.int .i64 1))),qO 2 (.mov (.c (.int .i64 0))),qM 3 6]) (.block 0 (.loop ir_slices_Reverse_api_Ruling_api_Ruling_L0)))
def rs_slices_Reverse_api_Ruling_api_Ruling:List IRes:=[]
theorem ck_slices_Reverse_api_Ruling_api_Ruling:chkF Tryz.prog Tryz.f70 ir_slices_Reverse_api_Ruling_api_Ruling rs_slices_Reverse_api_Ruling_api_Ruling 28=true:=by kernel_rfl
def ir_chasemake_Stream_RightRulings_L0:IC:=(.seq (.reg [qO 12 (.bin .lss (.t 11) (.t 10))]) (.seq (.cond (.t 12) .skip (.exit 0)) (.seq (.block 1 (.seq (.reg [qO 13 (.ixa 7 (.t 9) (.t 11)),qO 14 (.ld 7 true (.t 13)),qO 7 (.alc 80 [.str [],.str [],.int .i64 0,.str [],.int .i64 0,.str [],.str []]),⟨none,.st 7 (.t 7) (.t 14),none⟩]) (.seq (.drg [⟨none,.fz (.t 19),none⟩,⟨none,.hole 8,none⟩,qO 15 (.fla 0 (.t 7)),qO 16 (.ldl 1 false (.t 15)),qM 17 0,qO 18 (.bsl 1 [.c (.int .i64 1),.c (.int .i64 1),.c (.int .i64 2),.c (.int .i64 3)]),qO 19 (.dcall true 43 [.t 17,.t 18]),qO 20 (.bld [.str [],.int .i64 0,.nl 2] [(0,1,.t 16),(1,1,.t 19)]),qO 8 (.alcd 76 [.str [],.int .i64 0,.nl 2]),⟨none,.st 3 (.t 8) (.t 20),none⟩]) (.seq (.seq (.reg [qO 21 (.fla 1 (.t 8)),qO 22 (.ld 1 false (.t 21)),qO 23 (.bin .eql (.t 22) (.c (.int .i64 1))),qM 24 23,⟨some 25,.mov (.t 0),(some (24,true))⟩,⟨some 26,.call 9 [.t 25,.c (.int .i64 2)],(some (24,true))⟩,qO 27 (.pick (.t 24) (.t 26) (.c (.bool false)))]) (.cond (.t 27) (.reg [qM 28 0,qO 29 (.fla 6 (.t 7)),qO 30 (.ld 1 false (.t 29)),qO 31 (.sln (.t 30)),qO 32 (.call 130 [.t 28,.t 31]),qO 33 (.fla 2 (.t 8)),⟨none,.st 1 (.t 33) (.t 32),none⟩]) .skip)) (.cut (.seq (.reg [qM 34 0,qO 35 (.call 9 [.t 34,.c (.int .i64 4)]),qO 36 (.not (.t 35))]) (.cond (.t 36) (.reg [qM 37 5,qO 38 (.ld 3 true (.t 8)),qO 39 (.bsl 3 [.t 38]),qO 40 (.app 76 3 48 (.t 37) (.t 39)),qM 5 40]) .skip))))))) (.cut (.reg [qO 41 (.bin .add (.t 11) (.c (.int .i64 1))),qM 11 41])))))
def ir_chasemake_Stream_RightRulings:IC:=(.seq (.reg [qO 4 (.mov (.c (.nl 3)))]) (.seq (.reg [qO 5 (.nilr 76 3)]) (.seq (.seq (.reg [qM 9 1,qO 10 (.len (.t 9)),qO 11 (.mov (.c (.int .i64 0)))]) (.block 0 (.loop ir_chasemake_Stream_RightRulings_L0))) (.seq (.reg [qM 42 5,qM 4 42]) .ret))))
def rs_chasemake_Stream_RightRulings:List IRes:=[.t 4]
theorem ck_chasemake_Stream_RightRulings:chkF Tryz.prog Tryz.f41 ir_chasemake_Stream_RightRulings rs_chasemake_Stream_RightRulings 43=true:=by kernel_rfl
abbrev tRul:Nat:=76
structure Rul where
 id:List UInt8
 what:Int
 spans:List (Int×Int)
def rlV (r:Rul):List PV:=[.str r.id,int r.what,.sl 2 (r.spans.map spn)]
def rlE (l:List Rul):List (List PV):=l.map rlV
theorem rlE_len (l:List Rul):(rlE l).length=l.length:=by simp [rlE]
theorem rlE_get {l:List Rul} {k:Nat} {x:Rul} (h:l[k]?=some x):(rlE l).getD k []=[.str x.id,int x.what,.sl 2 (x.spans.map spn)]:=getD_map h
theorem rlE_snoc (l:List Rul) (i:List UInt8) (w:Int) (s:List (Int×Int)):rlE l++[[.str i,int w,.sl 2 (s.map spn)]]=rlE (l++[⟨i,w,s⟩]):=by simp [rlE,rlV]
theorem rlE_snoc0 (l:List Rul) (i:List UInt8) (w:Int):rlE l++[[.str i,int w,.sl 2 []]]=rlE (l++[⟨i,w,[]⟩]):=rlE_snoc l i w []
theorem rlE_set (l:List Rul) (q:Nat) (i:List UInt8) (w:Int) (s:List (Int×Int)):(rlE l).set q [.str i,int w,.sl 2 (s.map spn)]=rlE (l.set q ⟨i,w,s⟩):=by
 show (rlE l).set q (rlV ⟨i,w,s⟩)=_
 simp [rlE]
structure RlM (N:Nat) (r:Rul):Prop where
 b1:r.id.length≤100
 b2:r.spans.length≤N
section
variable {E:Envt}
theorem RightRulings_ok (l:List Int) (k:Nat) (il:List Itm) (hil:il.length≤20) (hib:ItB il) (hk:k≤700000) (hl:l.length≤9223372036854775807) :
  SFresh Tryz.prog E 41 T (stm l k) [.sl 7 (itE il)] tRul 3 (fun es cs'=>∃ (o:List Rul) (k':Nat),es=rlE o∧o.length≤il.length∧(∀ r∈o,RlM 5 r)∧cs'=stm l k'∧k'≤k+1000):=by
 unfold SFresh
 refine gcallR mixed Tryz.func41 ck_chasemake_Stream_RightRulings ?_
 simp only [a0,l0,OS.ao,List.map_cons,List.map_nil,List.length_cons,List.length_nil,List.cons_append,List.nil_append,Nat.reduceSub,Nat.reduceAdd,List.replicate_succ,List.replicate_zero,ir_chasemake_Stream_RightRulings,rs_chasemake_Stream_RightRulings,ZZ,WW,Ze,reduceCtorEq,Nat.reduceAdd,Nat.reduceMul,Nat.reduceLeDiff,Nat.reduceLT,Nat.reduceEqDiff]
 have hR0:([]:List (List PV))=rlE []:=rfl
 rw [hR0]
 simp only [ZZ,WW,Ze,reduceCtorEq,Nat.reduceAdd,Nat.reduceMul,Nat.reduceLeDiff,Nat.reduceLT,Nat.reduceEqDiff,itE_len]
 refine loop_intro (fun n fr L=>∃ (i:Nat) (k':Nat) (o:List Rul),i≤il.length∧n=il.length - i∧(k'≤k+40 * i)∧(o.length≤i)∧(∀ r∈o,RlM 5 r)∧fr=[.adr (.b 0) 0,oo,oo,oo,oo,.row (.l 5),oo,oo,oo,.p (.sl 7 (itE il)),.p (int (il.length:Nat)),.p (int (i:Nat)),oo,oo,oo,oo,oo,oo,oo,oo,oo,oo,oo,oo,oo,oo,oo,oo,oo,oo,oo,oo,oo,oo,oo,oo,oo,oo,oo,oo,oo,oo,oo]∧L=[(.b 0,.box ((stm l k').map .p) T),(.l 5,.row (rlE o) tRul 3 true)]) (il.length) [.adr (.b 0) 0,oo,oo,oo,oo,.row (.l 5),oo,oo,oo,.p (.sl 7 (itE il)),.p (int (il.length:Nat)),.p (int (0:Nat)),oo,oo,oo,oo,oo,oo,oo,oo,oo,oo,oo,oo,oo,oo,oo,oo,oo,oo,oo,oo,oo,oo,oo,oo,oo,oo,oo,oo,oo,oo,oo] [(.b 0,.box ((stm l k).map .p) T),(.l 5,.row (rlE []) tRul 3 true)] (by simp only [ZZ,WW,Ze,reduceCtorEq,Nat.reduceAdd,Nat.reduceMul,Nat.reduceLeDiff,Nat.reduceLT,Nat.reduceEqDiff,itE_len];try trivial) (by (simp only [ZZ,WW,Ze,reduceCtorEq,Nat.reduceAdd,Nat.reduceMul,Nat.reduceLeDiff,Nat.reduceLT,Nat.reduceEqDiff];try trivial)) ⟨0,k,[],by omega,by omega,by omega,Nat.le_refl _,(fun r hr=>by cases hr),rfl,rfl⟩ ?_
 rintro n fr L ⟨i,k',o,hi,rfl,hk',hol,hob,rfl,rfl⟩
 simp only [ir_chasemake_Stream_RightRulings_L0,ZZ,WW,Ze,reduceCtorEq,Nat.reduceAdd,Nat.reduceMul,Nat.reduceLeDiff,Nat.reduceLT,Nat.reduceEqDiff]
 refine br ?_ ?_
 rotate_left
 ·intro h
  simp only [ZZ,WW,Ze,reduceCtorEq,Nat.reduceAdd,Nat.reduceMul,Nat.reduceLeDiff,Nat.reduceLT,Nat.reduceEqDiff]
  exact fin_SF 5 _ (stm l k') rfl rfl rfl ⟨o,k',rfl,by omega,hob,rfl,by omega⟩
 intro h
 have hlt:i < il.length:=by have:=of_decide_eq_true h;omega
 obtain ⟨x,hx⟩:∃ x,il[i]?=some x:=⟨_,List.getElem?_eq_getElem hlt⟩
 have hg:=itE_get hx
 obtain ⟨c1,c2,c3,c4,c5,c6,c7⟩:=hib x (List.mem_of_getElem? hx)
 obtain ⟨a1,a2,a3,a4,a5,a6,a7⟩:=x
 simp only [itC] at hg
 simp only at c1 c7
 clear c2 c3 c4 c5 c6
 simp only [ZZ,WW,Ze,reduceCtorEq,Nat.reduceAdd,Nat.reduceMul,Nat.reduceLeDiff,Nat.reduceLT,Nat.reduceEqDiff,hg,itE_len]
 ((repeat' (with_reducible apply And.intro))<;>try ((exact sc_)))
 refine drg0 ?_
 simp only [ZZ,WW,Ze,reduceCtorEq,Nat.reduceAdd,Nat.reduceMul,Nat.reduceLeDiff,Nat.reduceLT,Nat.reduceEqDiff]
 refine useD (Pick_ok l k' [1,1,2,3] (by omega) hl (by simp) (by simp)) ⟨_,_,1,rfl,by simp,rfl⟩ rfl rfl rfl zE_ (fun _=>⟨0,rfl⟩) ?_
 rintro x cs' ⟨w,rfl,hw,rfl⟩
 simp only [ZZ,WW,Ze,reduceCtorEq,Nat.reduceAdd,Nat.reduceMul,Nat.reduceLeDiff,Nat.reduceLT,Nat.reduceEqDiff]
 refine useGC (fun hc=>?_) (fun hc=>?_)
 ·refine useS (Flip_ok l (k'+1) 2 (by omega) hl (by decide)) rfl rfl rfl zE_ ?_
  rintro x cs' ⟨f2,rfl,rfl⟩
  simp only [ZZ,WW,Ze,reduceCtorEq,Nat.reduceAdd,Nat.reduceMul,Nat.reduceLeDiff,Nat.reduceLT,Nat.reduceEqDiff,hc]
  refine br ?_ ?_
  ·intro _
   simp only [ZZ,WW,Ze,reduceCtorEq,Nat.reduceAdd,Nat.reduceMul,Nat.reduceLeDiff,Nat.reduceLT,Nat.reduceEqDiff]
   refine useSF (SpanList_ok l (k'+1+1) a7.length (by omega) hl) rfl rfl rfl zE_ ?_
   rintro es cs' ⟨sp,k2,rfl,hsp,rfl,hk2⟩
   simp only [ZZ,WW,Ze,reduceCtorEq,Nat.reduceAdd,Nat.reduceMul,Nat.reduceLeDiff,Nat.reduceLT,Nat.reduceEqDiff]
   refine cut_re _ _ (re_row (k:=.l 32) rfl) ?_
   simp only [ZZ,WW,Ze,reduceCtorEq,Nat.reduceAdd,Nat.reduceMul,Nat.reduceLeDiff,Nat.reduceLT,Nat.reduceEqDiff]
   refine useS (Flip_ok l (k2) 4 (by omega) hl (by decide)) rfl rfl rfl zE_ ?_
   rintro x cs' ⟨b9,rfl,rfl⟩
   simp only [ZZ,WW,Ze,reduceCtorEq,Nat.reduceAdd,Nat.reduceMul,Nat.reduceLeDiff,Nat.reduceLT,Nat.reduceEqDiff]
   refine br ?_ ?_
   ·intro _
    simp only [ZZ,WW,Ze,reduceCtorEq,Nat.reduceAdd,Nat.reduceMul,Nat.reduceLeDiff,Nat.reduceLT,Nat.reduceEqDiff,rlE_len]
    ((repeat' (with_reducible apply And.intro))<;>try ((exact sc_)))
    refine cut_same zE_ ?_
    simp only [ZZ,WW,Ze,reduceCtorEq,Nat.reduceAdd,Nat.reduceMul,Nat.reduceLeDiff,Nat.reduceLT,Nat.reduceEqDiff]
    ((repeat' (with_reducible apply And.intro))<;>try ((exact sc_)))
    rw [rlE_snoc o a1 w sp]
    refine end_round (il.length - (i+1)) [.adr (.b 0) 0,oo,oo,oo,oo,.row (.l 5),oo,oo,oo,.p (.sl 7 (itE il)),.p (int (il.length:Nat)),.p (int ((i+1):Nat)),oo,oo,oo,oo,oo,oo,oo,oo,oo,oo,oo,oo,oo,oo,oo,oo,oo,oo,oo,oo,oo,oo,oo,oo,oo,oo,oo,oo,oo,oo,oo] [(.b 0,.box ((stm l (k2+1)).map .p) T),(.l 5,.row (rlE (o++[⟨a1,w,sp⟩])) tRul 3 true)] (by omega) (by (simp only [ZZ,WW,Ze,reduceCtorEq,Nat.reduceAdd,Nat.reduceMul,Nat.reduceLeDiff,Nat.reduceLT,Nat.reduceEqDiff];try trivial)) (by (simp only [ZZ,WW,Ze,reduceCtorEq,Nat.reduceAdd,Nat.reduceMul,Nat.reduceLeDiff,Nat.reduceLT,Nat.reduceEqDiff];try trivial)) ⟨i+1,k2+1,o++[⟨a1,w,sp⟩],by omega,rfl,by omega,by simp;omega,by intro r hr;rcases List.mem_append.1 hr with hr|hr;exact hob r hr;rw [List.mem_singleton] at hr;subst hr;exact ⟨c1,hsp⟩,rfl,rfl⟩
   ·intro _
    simp only [ZZ,WW,Ze,reduceCtorEq,Nat.reduceAdd,Nat.reduceMul,Nat.reduceLeDiff,Nat.reduceLT,Nat.reduceEqDiff]
    refine cut_same zE_ ?_
    simp only [ZZ,WW,Ze,reduceCtorEq,Nat.reduceAdd,Nat.reduceMul,Nat.reduceLeDiff,Nat.reduceLT,Nat.reduceEqDiff]
    ((repeat' (with_reducible apply And.intro))<;>try ((exact sc_)))
    refine end_round (il.length - (i+1)) [.adr (.b 0) 0,oo,oo,oo,oo,.row (.l 5),oo,oo,oo,.p (.sl 7 (itE il)),.p (int (il.length:Nat)),.p (int ((i+1):Nat)),oo,oo,oo,oo,oo,oo,oo,oo,oo,oo,oo,oo,oo,oo,oo,oo,oo,oo,oo,oo,oo,oo,oo,oo,oo,oo,oo,oo,oo,oo,oo] [(.b 0,.box ((stm l (k2+1)).map .p) T),(.l 5,.row (rlE o) tRul 3 true)] (by omega) (by (simp only [ZZ,WW,Ze,reduceCtorEq,Nat.reduceAdd,Nat.reduceMul,Nat.reduceLeDiff,Nat.reduceLT,Nat.reduceEqDiff];try trivial)) (by (simp only [ZZ,WW,Ze,reduceCtorEq,Nat.reduceAdd,Nat.reduceMul,Nat.reduceLeDiff,Nat.reduceLT,Nat.reduceEqDiff];try trivial)) ⟨i+1,k2+1,o,by omega,rfl,by omega,by omega,hob,rfl,rfl⟩
  ·intro _
   simp only [ZZ,WW,Ze,reduceCtorEq,Nat.reduceAdd,Nat.reduceMul,Nat.reduceLeDiff,Nat.reduceLT,Nat.reduceEqDiff]
   refine cut_same zE_ ?_
   simp only [ZZ,WW,Ze,reduceCtorEq,Nat.reduceAdd,Nat.reduceMul,Nat.reduceLeDiff,Nat.reduceLT,Nat.reduceEqDiff]
   refine useS (Flip_ok l (k'+1+1) 4 (by omega) hl (by decide)) rfl rfl rfl zE_ ?_
   rintro x cs' ⟨b9,rfl,rfl⟩
   simp only [ZZ,WW,Ze,reduceCtorEq,Nat.reduceAdd,Nat.reduceMul,Nat.reduceLeDiff,Nat.reduceLT,Nat.reduceEqDiff]
   refine br ?_ ?_
   ·intro _
    simp only [ZZ,WW,Ze,reduceCtorEq,Nat.reduceAdd,Nat.reduceMul,Nat.reduceLeDiff,Nat.reduceLT,Nat.reduceEqDiff,rlE_len]
    ((repeat' (with_reducible apply And.intro))<;>try ((exact sc_)))
    refine cut_same zE_ ?_
    simp only [ZZ,WW,Ze,reduceCtorEq,Nat.reduceAdd,Nat.reduceMul,Nat.reduceLeDiff,Nat.reduceLT,Nat.reduceEqDiff]
    ((repeat' (with_reducible apply And.intro))<;>try ((exact sc_)))
    rw [rlE_snoc0 o a1 w]
    refine end_round (il.length - (i+1)) [.adr (.b 0) 0,oo,oo,oo,oo,.row (.l 5),oo,oo,oo,.p (.sl 7 (itE il)),.p (int (il.length:Nat)),.p (int ((i+1):Nat)),oo,oo,oo,oo,oo,oo,oo,oo,oo,oo,oo,oo,oo,oo,oo,oo,oo,oo,oo,oo,oo,oo,oo,oo,oo,oo,oo,oo,oo,oo,oo] [(.b 0,.box ((stm l (k'+1+1+1)).map .p) T),(.l 5,.row (rlE (o++[⟨a1,w,[]⟩])) tRul 3 true)] (by omega) (by (simp only [ZZ,WW,Ze,reduceCtorEq,Nat.reduceAdd,Nat.reduceMul,Nat.reduceLeDiff,Nat.reduceLT,Nat.reduceEqDiff];try trivial)) (by (simp only [ZZ,WW,Ze,reduceCtorEq,Nat.reduceAdd,Nat.reduceMul,Nat.reduceLeDiff,Nat.reduceLT,Nat.reduceEqDiff];try trivial)) ⟨i+1,k'+1+1+1,o++[⟨a1,w,[]⟩],by omega,rfl,by omega,by simp;omega,by intro r hr;rcases List.mem_append.1 hr with hr|hr;exact hob r hr;rw [List.mem_singleton] at hr;subst hr;exact ⟨c1,by simp⟩,rfl,rfl⟩
   ·intro _
    simp only [ZZ,WW,Ze,reduceCtorEq,Nat.reduceAdd,Nat.reduceMul,Nat.reduceLeDiff,Nat.reduceLT,Nat.reduceEqDiff]
    refine cut_same zE_ ?_
    simp only [ZZ,WW,Ze,reduceCtorEq,Nat.reduceAdd,Nat.reduceMul,Nat.reduceLeDiff,Nat.reduceLT,Nat.reduceEqDiff]
    ((repeat' (with_reducible apply And.intro))<;>try ((exact sc_)))
    refine end_round (il.length - (i+1)) [.adr (.b 0) 0,oo,oo,oo,oo,.row (.l 5),oo,oo,oo,.p (.sl 7 (itE il)),.p (int (il.length:Nat)),.p (int ((i+1):Nat)),oo,oo,oo,oo,oo,oo,oo,oo,oo,oo,oo,oo,oo,oo,oo,oo,oo,oo,oo,oo,oo,oo,oo,oo,oo,oo,oo,oo,oo,oo,oo] [(.b 0,.box ((stm l (k'+1+1+1)).map .p) T),(.l 5,.row (rlE o) tRul 3 true)] (by omega) (by (simp only [ZZ,WW,Ze,reduceCtorEq,Nat.reduceAdd,Nat.reduceMul,Nat.reduceLeDiff,Nat.reduceLT,Nat.reduceEqDiff];try trivial)) (by (simp only [ZZ,WW,Ze,reduceCtorEq,Nat.reduceAdd,Nat.reduceMul,Nat.reduceLeDiff,Nat.reduceLT,Nat.reduceEqDiff];try trivial)) ⟨i+1,k'+1+1+1,o,by omega,rfl,by omega,by omega,hob,rfl,rfl⟩
 ·simp only [ZZ,WW,Ze,reduceCtorEq,Nat.reduceAdd,Nat.reduceMul,Nat.reduceLeDiff,Nat.reduceLT,Nat.reduceEqDiff,hc]
  refine cut_same zE_ ?_
  simp only [ZZ,WW,Ze,reduceCtorEq,Nat.reduceAdd,Nat.reduceMul,Nat.reduceLeDiff,Nat.reduceLT,Nat.reduceEqDiff]
  refine useS (Flip_ok l (k'+1) 4 (by omega) hl (by decide)) rfl rfl rfl zE_ ?_
  rintro x cs' ⟨b9,rfl,rfl⟩
  simp only [ZZ,WW,Ze,reduceCtorEq,Nat.reduceAdd,Nat.reduceMul,Nat.reduceLeDiff,Nat.reduceLT,Nat.reduceEqDiff]
  refine br ?_ ?_
  ·intro _
   simp only [ZZ,WW,Ze,reduceCtorEq,Nat.reduceAdd,Nat.reduceMul,Nat.reduceLeDiff,Nat.reduceLT,Nat.reduceEqDiff,rlE_len]
   ((repeat' (with_reducible apply And.intro))<;>try ((exact sc_)))
   refine cut_same zE_ ?_
   simp only [ZZ,WW,Ze,reduceCtorEq,Nat.reduceAdd,Nat.reduceMul,Nat.reduceLeDiff,Nat.reduceLT,Nat.reduceEqDiff]
   ((repeat' (with_reducible apply And.intro))<;>try ((exact sc_)))
   rw [rlE_snoc0 o a1 w]
   refine end_round (il.length - (i+1)) [.adr (.b 0) 0,oo,oo,oo,oo,.row (.l 5),oo,oo,oo,.p (.sl 7 (itE il)),.p (int (il.length:Nat)),.p (int ((i+1):Nat)),oo,oo,oo,oo,oo,oo,oo,oo,oo,oo,oo,oo,oo,oo,oo,oo,oo,oo,oo,oo,oo,oo,oo,oo,oo,oo,oo,oo,oo,oo,oo] [(.b 0,.box ((stm l (k'+1+1)).map .p) T),(.l 5,.row (rlE (o++[⟨a1,w,[]⟩])) tRul 3 true)] (by omega) (by (simp only [ZZ,WW,Ze,reduceCtorEq,Nat.reduceAdd,Nat.reduceMul,Nat.reduceLeDiff,Nat.reduceLT,Nat.reduceEqDiff];try trivial)) (by (simp only [ZZ,WW,Ze,reduceCtorEq,Nat.reduceAdd,Nat.reduceMul,Nat.reduceLeDiff,Nat.reduceLT,Nat.reduceEqDiff];try trivial)) ⟨i+1,k'+1+1,o++[⟨a1,w,[]⟩],by omega,rfl,by omega,by simp;omega,by intro r hr;rcases List.mem_append.1 hr with hr|hr;exact hob r hr;rw [List.mem_singleton] at hr;subst hr;exact ⟨c1,by simp⟩,rfl,rfl⟩
  ·intro _
   simp only [ZZ,WW,Ze,reduceCtorEq,Nat.reduceAdd,Nat.reduceMul,Nat.reduceLeDiff,Nat.reduceLT,Nat.reduceEqDiff]
   refine cut_same zE_ ?_
   simp only [ZZ,WW,Ze,reduceCtorEq,Nat.reduceAdd,Nat.reduceMul,Nat.reduceLeDiff,Nat.reduceLT,Nat.reduceEqDiff]
   ((repeat' (with_reducible apply And.intro))<;>try ((exact sc_)))
   refine end_round (il.length - (i+1)) [.adr (.b 0) 0,oo,oo,oo,oo,.row (.l 5),oo,oo,oo,.p (.sl 7 (itE il)),.p (int (il.length:Nat)),.p (int ((i+1):Nat)),oo,oo,oo,oo,oo,oo,oo,oo,oo,oo,oo,oo,oo,oo,oo,oo,oo,oo,oo,oo,oo,oo,oo,oo,oo,oo,oo,oo,oo,oo,oo] [(.b 0,.box ((stm l (k'+1+1)).map .p) T),(.l 5,.row (rlE o) tRul 3 true)] (by omega) (by (simp only [ZZ,WW,Ze,reduceCtorEq,Nat.reduceAdd,Nat.reduceMul,Nat.reduceLeDiff,Nat.reduceLT,Nat.reduceEqDiff];try trivial)) (by (simp only [ZZ,WW,Ze,reduceCtorEq,Nat.reduceAdd,Nat.reduceMul,Nat.reduceLeDiff,Nat.reduceLT,Nat.reduceEqDiff];try trivial)) ⟨i+1,k'+1+1,o,by omega,rfl,by omega,by omega,hob,rfl,rfl⟩
end
end Go.Proofs.YtehfjlpenlffmaaGreatDoor
namespace Go.Proofs.YtehfjlpenlffmaaGreatDoor
structure CmpP {α:Type} (c:α→α→Int):Prop where
 anti:∀ x y,c x y < 0↔0 < c y x
 tr:∀ x y z,c x y≤0→c y z≤0→c x z≤0
def ltC {α:Type} (c:α→α→Int) (x y:α):Bool:=decide (c x y < 0)
def orC {α:Type} (c d:α→α→Int) (x y:α):Int:=if c x y=0 then d x y else c x y
section
variable {α β:Type} {c d:α→α→Int}
theorem CmpP.ord (h:CmpP c):OrdP (ltC c) where
 asym x y h1:=by
  simp only [ltC,decide_eq_true_eq,decide_eq_false_iff_not] at *
  have:=h.anti x y
  omega
 ntr x y z h1 h2:=by
  simp only [ltC,decide_eq_false_iff_not] at *
  have a1:=h.anti x y
  have a2:=h.anti y z
  have a3:=h.anti x z
  have a4:=h.anti y x
  have a5:=h.anti z y
  have:=h.tr z y x
  omega
theorem CmpP.or (h:CmpP c) (k:CmpP d):CmpP (orC c d) where
 anti x y:=by
  have a1:=h.anti x y
  have a2:=h.anti y x
  have a3:=k.anti x y
  unfold orC
  split<;>split<;>omega
 tr x y z:=by
  have a1:=h.anti x y
  have a2:=h.anti y x
  have a3:=h.anti y z
  have a4:=h.anti z y
  have a5:=h.anti x z
  have a6:=h.anti z x
  have t1:=h.tr x y z
  have t2:=h.tr y z x
  have t3:=h.tr z x y
  have t4:=h.tr z y x
  have t5:=k.tr x y z
  unfold orC
  intro h1 h2
  split at h1<;>split at h2<;>split<;>omega
theorem CmpP.zero:CmpP (fun (_ _:α)=>(0:Int)):=⟨fun _ _=>by omega,fun _ _ _ _ _=>by omega⟩
theorem CmpP.on (f:β→α) (h:CmpP c):CmpP (fun x y=>c (f x) (f y)):=⟨fun _ _=>h.anti _ _,fun _ _ _=>h.tr _ _ _⟩
theorem CmpP.sub:CmpP (fun (x y:Int)=>x - y):=⟨fun _ _=>by omega,fun _ _ _ _ _=>by omega⟩
end
theorem cb_anti:∀ a b:List UInt8,Lib.compareBytes a b=- Lib.compareBytes b a
 |[],[]=>rfl
 |[],_ :: _=>rfl
 |_ :: _,[]=>rfl
 |a :: r,b :: s=>by
  have ih:=cb_anti r s
  simp only [Lib.compareBytes,UInt8.lt_iff_toNat_lt]
  by_cases p1:a.toNat < b.toNat<;>by_cases p2:b.toNat < a.toNat<;>simp only [p1,p2,if_true,if_false]<;>omega
theorem cb_zero:∀ {a b:List UInt8},Lib.compareBytes a b=0→a=b
 |[],[],_=>rfl
 |[],_ :: _,h=>by cases h
 |_ :: _,[],h=>by cases h
 |a :: r,b :: s,h=>by
  simp only [Lib.compareBytes,UInt8.lt_iff_toNat_lt] at h
  by_cases p1:a.toNat < b.toNat
  ·rw [if_pos p1] at h;cases h
  by_cases p2:b.toNat < a.toNat
  ·rw [if_neg p1,if_pos p2] at h;cases h
  rw [if_neg p1,if_neg p2] at h
  rw [cb_zero h,UInt8.toNat_inj.1 (show a.toNat=b.toNat by omega)]
theorem cb_tr:∀ a b c:List UInt8,Lib.compareBytes a b≤0→Lib.compareBytes b c≤0→Lib.compareBytes a c≤0
 |[],_,[],_,_=>by decide
 |[],_,_ :: _,_,_=>by simp [Lib.compareBytes]
 |_ :: _,[],_,h,_=>by simp [Lib.compareBytes] at h
 |_ :: _,_ :: _,[],_,h=>by simp [Lib.compareBytes] at h
 |a :: r,b :: s,c :: t,h1,h2=>by
  have ih:=cb_tr r s t
  simp only [Lib.compareBytes,UInt8.lt_iff_toNat_lt] at h1 h2 ⊢
  by_cases p1:a.toNat < b.toNat<;>by_cases p2:b.toNat < a.toNat<;>by_cases q1:b.toNat < c.toNat<;>by_cases q2:c.toNat < b.toNat<;>by_cases r1:a.toNat < c.toNat<;>by_cases r2:c.toNat < a.toNat<;>simp only [p1,p2,q1,q2,r1,r2,if_true,if_false] at h1 h2 ⊢<;>first|omega|exact ih h1 h2
theorem CmpP.cb:CmpP Lib.compareBytes:=⟨fun x y=>by have:=cb_anti x y;omega,cb_tr⟩
theorem cb_self (a:List UInt8):Lib.compareBytes a a=0:=by have:=cb_anti a a;omega
end Go.Proofs.YtehfjlpenlffmaaGreatDoor
namespace Go.Proofs.YtehfjlpenlffmaaGreatDoor
open Go.RowKit
def getI (il:List Itm) (s:List UInt8):Option Itm:=il.find? fun x=>decide (x.1=s)
def rl0:Rul:=⟨[],0,[]⟩
def ruE (il:List Itm) (l:List Rul) (k:Nat):Int:=
 let r:=l.getD k rl0
 firstE [whenE (getI il r.id).isNone 8,whenE (decide (0 < k) && (bytesLess r.id (l.getD (k - 1) rl0).id || decide (r.id=(l.getD (k - 1) rl0).id))) 7,whenE (!inE r.what 1 3) 4,whenE (decide (0 < r.spans.length) && !decide (r.what=1)) 3,spansF r.spans (((getI il r.id).getD it0).2.2.2.2.2.2.length:Nat)]
def rulF (il:List Itm) (l:List Rul):Int:=if 2000 < l.length then 2 else firstE ((List.range l.length).map (ruE il l))
theorem ruE_get (il:List Itm) (l:List Rul) {k:Nat} (h:k < l.length):((List.range l.length).map (ruE il l))[k]?=some (ruE il l k):=by
 rw [List.getElem?_map,List.getElem?_range h];rfl
def rlOf (l:List Rul) (s:List UInt8):Rul:=(l.find? fun r=>decide (r.id=s)).getD ⟨s,3,[]⟩
def showB (l:List Rul) (s:List UInt8):Bool:=decide ((rlOf l s).what=1)
def chT (il:List Itm) (l:List Rul):List (List UInt8):=(topsF il).filter fun s=>(s :: kidsF il s).any (showB l)
def encF (il:List Itm) (s:List UInt8):List PV:=[.str s,.sl 1 (strE (s :: kidsF il s))]
theorem famF_enc (il:List Itm):(famF il).map (fun f=>[PV.str f.1,.sl 1 (strE f.2)])=(topsF il).map (encF il):=by
 unfold famF
 rw [List.map_map]
 rfl
def itOf (il:List Itm) (s:List UInt8):Itm:=(getI il s).getD it0
def whoC (il:List Itm) (order:Int) (s t:List UInt8):Int:=if order=3 then Lib.compareBytes (itOf il s).2.1 (itOf il t).2.1 else 0
def whenP (il:List Itm) (order:Int) (s t:List UInt8):Int:=if order=1 then 0 else (itOf il s).2.2.2.2.1 - (itOf il t).2.2.2.2.1
def sgnI (a b:Int):Int:=if a < b then -1 else if b < a then 1 else 0
def whenR (il:List Itm) (order:Int) (s t:List UInt8):Int:=if order=1 then 0 else sgnI (itOf il s).2.2.2.2.1 (itOf il t).2.2.2.2.1
def cfP (il:List Itm) (order:Int):List UInt8→List UInt8→Int:=orC (whoC il order) (orC (whenP il order) Lib.compareBytes)
def cfR (il:List Itm) (order:Int):List UInt8→List UInt8→Int:=orC (whoC il order) (orC (whenR il order) Lib.compareBytes)
theorem cf_same (il:List Itm) (order:Int):ltC (cfP il order)=ltC (cfR il order):=by
 funext s t
 unfold ltC cfP cfR orC whenP whenR sgnI
 rw [decide_eq_decide]
 by_cases h1:whoC il order s t=0
 ·rw [if_pos h1,if_pos h1]
  by_cases h2:order=1
  ·rw [if_pos h2,if_pos h2]
  ·rw [if_neg h2,if_neg h2]
   generalize (itOf il s).2.2.2.2.1=a
   generalize (itOf il t).2.2.2.2.1=b
   by_cases p1:a < b
   ·rw [if_pos p1,if_neg (by omega),if_neg (by omega)]
    omega
   ·rw [if_neg p1]
    by_cases p2:b < a
    ·rw [if_pos p2,if_neg (by omega),if_neg (by omega)]
     omega
    ·rw [if_neg p2,if_pos (by omega),if_pos rfl]
 ·rw [if_neg h1,if_neg h1]
theorem cfP_cmp (il:List Itm) (order:Int):CmpP (cfP il order):=by
 refine CmpP.or ?_ (CmpP.or ?_ CmpP.cb)
 ·by_cases h:order=3
  ·have:whoC il order=fun s t=>Lib.compareBytes (itOf il s).2.1 (itOf il t).2.1:=by funext s t;rw [whoC,if_pos h]
   rw [this]
   exact CmpP.cb.on fun s=>(itOf il s).2.1
  ·have:whoC il order=fun s t=>0:=by funext s t;rw [whoC,if_neg h]
   rw [this]
   exact CmpP.zero
 ·by_cases h:order=1
  ·have:whenP il order=fun s t=>0:=by funext s t;rw [whenP,if_pos h]
   rw [this]
   exact CmpP.zero
  ·have:whenP il order=fun s t=>(itOf il s).2.2.2.2.1 - (itOf il t).2.2.2.2.1:=by funext s t;rw [whenP,if_neg h]
   rw [this]
   exact CmpP.sub.on fun s=>(itOf il s).2.2.2.2.1
theorem cfP_tot (il:List Itm) (order:Int) (s t:List UInt8) (h1:ltC (cfP il order) s t=false) (h2:ltC (cfP il order) t s=false):s=t:=by
 have a1:=(cfP_cmp il order).anti s t
 have a2:=(cfP_cmp il order).anti t s
 simp only [ltC,decide_eq_false_iff_not] at h1 h2
 have h0:cfP il order s t=0:=by omega
 unfold cfP orC at h0
 split at h0
 ·split at h0
  ·exact cb_zero h0
  ·rename_i h;exact absurd h0 h
 ·rename_i h;exact absurd h0 h
def chS (il:List Itm) (l:List Rul) (order:Int):List (List UInt8):=(chT il l).mergeSort fun s t=>!ltC (cfP il order) t s
theorem srtP_merge {α:Type} {lt:α→α→Bool} (hO:OrdP lt) (l:List α):SrtP lt (l.mergeSort fun s t=>!lt t s):=by
 have:=List.pairwise_mergeSort (le:=fun s t=>!lt t s) (fun a b c h1 h2=>by
  simp only [Bool.not_eq_true'] at *
  exact hO.ntr _ _ _ h2 h1) (fun a b=>by
  simp only [Bool.or_eq_true,Bool.not_eq_true']
  cases h:lt b a with
  |false=>exact .inl rfl
  |true=>exact .inr (hO.asym _ _ h)) l
 exact this.imp fun h=>by simpa using h
theorem chS_uniq {il:List Itm} {l:List Rul} {order:Int} {o:List (List UInt8)} (hp:o.Perm (chT il l)) (hs:SrtP (ltC (cfP il order)) o):o=chS il l order:=
 srt_uniq (cfP_tot il order) (hp.trans (List.mergeSort_perm _ _).symm) hs (srtP_merge (cfP_cmp il order).ord _)
theorem getI_rev {il:List Itm} (h:PapOk il) (s:List UInt8):il.reverse.find? (fun x=>decide (x.1=s))=getI il s:=by
 have h20:=h.1
 cases hf:getI il s with
 |none=>
  unfold getI at hf
  rw [List.find?_eq_none] at hf ⊢
  intro x hx
  exact hf x (List.mem_reverse.1 hx)
 |some y=>
  have h1:=List.find?_some hf
  have h2:=List.mem_of_find?_eq_some hf
  obtain ⟨j,hj⟩:=List.getElem?_of_mem h2
  rw [decide_eq_true_eq,(h.2 j y hj).b1] at h1
  rw [← h1]
  exact pap_find h hj
theorem getI_some {il:List Itm} (h:PapOk il) {s:List UInt8} {y:Itm} (hf:getI il s=some y):∃ j,il[j]?=some y∧s=pid j:=by
 have h1:=List.find?_some hf
 have h2:=List.mem_of_find?_eq_some hf
 obtain ⟨j,hj⟩:=List.getElem?_of_mem h2
 rw [decide_eq_true_eq,(h.2 j y hj).b1] at h1
 exact ⟨j,hj,h1.symm⟩
theorem getI_none {il:List Itm} {s:List UInt8} (hf:getI il s=none):∀ x∈il,decide (x.1=s)=false:=by
 unfold getI at hf
 rw [List.find?_eq_none] at hf
 intro x hx
 simpa using hf x hx
theorem kidP_get (il:List Itm):∀ {ts:List Nat} {j:Nat},(∀ t∈ts,t < 20)→j < 20→mpF (kidP il ts) (pid j)=if j∈ts then some (.sl 1 (strE (kidsF il (pid j)))) else none
 |[],j,_,_=>by simp [kidP,mpF]
 |t :: r,j,h,hj=>by
  have ih:=kidP_get il (ts:=r) (fun t ht=>h t (by simp [ht])) hj
  have ht:=h t (by simp)
  simp only [kidP,List.map_cons,mpF] at ih ⊢
  by_cases e:t=j
  ·subst e
   simp
  ·have e2:¬ pid t=pid j:=fun q=>e (pid_inj (by omega) (by omega) q)
   rw [if_neg e2,ih]
   have e3:¬ j=t:=fun q=>e q.symm
   simp [e3]
theorem strE_add (w:List (List UInt8)) (x:List UInt8):strE w++[[.str x]]=strE (w++[x]):=by simp [strE]
section
variable {E:Envt}
theorem below_leaf (A:List (List UInt8)) (B:List PV) (T:List (List PV)) (kv:List (List UInt8×PV)) (s:List UInt8) (h:mpF kv s=none):PCall Tryz.prog E 225 [.agg [.mpv A B,.mpv (kv.map (·.1)) (kv.map (·.2)),.sl 1 T],.str s] (·=.sl 1 [[.str s]]):=by
 refine pcallF mixed Tryz.func225 ck_intake_tree_below ?_
 simp only [a0,l0,OS.ao,List.map_cons,List.map_nil,List.length_cons,List.length_nil,List.cons_append,List.nil_append,Nat.reduceSub,Nat.reduceAdd,List.replicate_succ,List.replicate_zero,ir_intake_tree_below,rs_intake_tree_below,ZZ,WW,Ze,reduceCtorEq,Nat.reduceAdd,Nat.reduceMul,Nat.reduceLeDiff,Nat.reduceLT,Nat.reduceEqDiff]
 simp only [ZZ,WW,Ze,reduceCtorEq,Nat.reduceAdd,Nat.reduceMul,Nat.reduceLeDiff,Nat.reduceLT,Nat.reduceEqDiff,zip_kvY,mpD,h,Option.getD_none]
 refine loop_intro (fun n fr L=>∃ (k:Nat),k≤0∧n=0 - k∧fr=[oo,oo,oo,oo,oo,.row (.l 9),oo,oo,oo,oo,oo,oo,oo,.p (.nl 1),.p (int ((0:Nat):Nat)),.p (int (k:Nat)),oo,oo,oo,oo,oo,oo,oo,oo,oo,oo]∧L=[(.l 9,.row [[.str s]] 9 1 true)]) (0) [oo,oo,oo,oo,oo,.row (.l 9),oo,oo,oo,oo,oo,oo,oo,.p (.nl 1),.p (int ((0:Nat):Nat)),.p (int (0:Nat)),oo,oo,oo,oo,oo,oo,oo,oo,oo,oo] [(.l 9,.row [[.str s]] 9 1 true)] zF_ (by (simp only [ZZ,WW,Ze,reduceCtorEq,Nat.reduceAdd,Nat.reduceMul,Nat.reduceLeDiff,Nat.reduceLT,Nat.reduceEqDiff];try trivial)) ⟨0,by omega,by omega,rfl,rfl⟩ ?_
 rintro n fr L ⟨k,hk,rfl,rfl,rfl⟩
 simp only [ir_intake_tree_below_L0,ZZ,WW,Ze,reduceCtorEq,Nat.reduceAdd,Nat.reduceMul,Nat.reduceLeDiff,Nat.reduceLT,Nat.reduceEqDiff]
 refine br (fun h=>by simp at h;omega) ?_
 intro h
 simp only [ZZ,WW,Ze,reduceCtorEq,Nat.reduceAdd,Nat.reduceMul,Nat.reduceLeDiff,Nat.reduceLT,Nat.reduceEqDiff]
 done
theorem below_top (A:List (List UInt8)) (B:List PV) (T:List (List PV)) (kv:List (List UInt8×PV)) (s:List UInt8) (ks:List (List UInt8)) (hn:ks.length≤1000) (h:mpF kv s=some (.sl 1 (strE ks))) (hks:∀ t∈ks,mpF kv t=none):PCall Tryz.prog E 225 [.agg [.mpv A B,.mpv (kv.map (·.1)) (kv.map (·.2)),.sl 1 T],.str s] (·=.sl 1 (strE (s :: ks))):=by
 refine pcallF mixed Tryz.func225 ck_intake_tree_below ?_
 simp only [a0,l0,OS.ao,List.map_cons,List.map_nil,List.length_cons,List.length_nil,List.cons_append,List.nil_append,Nat.reduceSub,Nat.reduceAdd,List.replicate_succ,List.replicate_zero,ir_intake_tree_below,rs_intake_tree_below,ZZ,WW,Ze,reduceCtorEq,Nat.reduceAdd,Nat.reduceMul,Nat.reduceLeDiff,Nat.reduceLT,Nat.reduceEqDiff]
 simp only [ZZ,WW,Ze,reduceCtorEq,Nat.reduceAdd,Nat.reduceMul,Nat.reduceLeDiff,Nat.reduceLT,Nat.reduceEqDiff,zip_kvY,mpD,h,Option.getD_some,strE_len]
 refine loop_intro (fun n fr L=>∃ (k:Nat) (w:List (List UInt8)),k≤ks.length∧n=ks.length - k∧(w=s :: ks.take k)∧fr=[oo,oo,.adr (.l 2) 0,oo,oo,.row (.l 9),oo,oo,oo,oo,oo,oo,oo,.p (.sl 1 (strE ks)),.p (int (ks.length:Nat)),.p (int (k:Nat)),oo,oo,oo,oo,oo,oo,oo,oo,oo,oo]∧L=[(.l 2,.box [.p (.mpv A B),.p (.mpv (kv.map (·.1)) (kv.map (·.2))),.p (.sl 1 T)] 229),(.l 9,.row (strE w) 9 1 true)]) (ks.length) [oo,oo,.adr (.l 2) 0,oo,oo,.row (.l 9),oo,oo,oo,oo,oo,oo,oo,.p (.sl 1 (strE ks)),.p (int (ks.length:Nat)),.p (int (0:Nat)),oo,oo,oo,oo,oo,oo,oo,oo,oo,oo] [(.l 2,.box [.p (.mpv A B),.p (.mpv (kv.map (·.1)) (kv.map (·.2))),.p (.sl 1 T)] 229),(.l 9,.row (strE [s]) 9 1 true)] (by simp only [ZZ,WW,Ze,reduceCtorEq,Nat.reduceAdd,Nat.reduceMul,Nat.reduceLeDiff,Nat.reduceLT,Nat.reduceEqDiff,strE_len];try trivial) (by (simp only [ZZ,WW,Ze,reduceCtorEq,Nat.reduceAdd,Nat.reduceMul,Nat.reduceLeDiff,Nat.reduceLT,Nat.reduceEqDiff];try trivial)) ⟨0,[s],by omega,by omega,rfl,rfl,rfl⟩ ?_
 rintro n fr L ⟨k,w,hk,rfl,hw,rfl,rfl⟩
 simp only [ir_intake_tree_below_L0,ZZ,WW,Ze,reduceCtorEq,Nat.reduceAdd,Nat.reduceMul,Nat.reduceLeDiff,Nat.reduceLT,Nat.reduceEqDiff]
 refine br ?_ ?_
 ·intro h
  have hlt:k < ks.length:=by have:=of_decide_eq_true h;omega
  obtain ⟨x,hx⟩:∃ x,ks[k]?=some x:=⟨_,List.getElem?_eq_getElem hlt⟩
  have hg:=strE_get hx
  have htk:ks.take (k+1)=ks.take k++[x]:=by rw [List.take_succ_eq_append_getElem hlt,(List.getElem?_eq_some_iff.1 hx).2]
  simp only [ZZ,WW,Ze,reduceCtorEq,Nat.reduceAdd,Nat.reduceMul,Nat.reduceLeDiff,Nat.reduceLT,Nat.reduceEqDiff,hg,strE_len]
  ((repeat' (with_reducible apply And.intro))<;>try ((exact sc_)))
  refine use1 (below_leaf A B T kv x (hks x (List.mem_of_getElem? hx))) rfl (.inl rfl) ?_
  have hwl:w.length≤1001:=by rw [hw,List.length_cons,List.length_take];omega
  simp only [ZZ,WW,Ze,reduceCtorEq,Nat.reduceAdd,Nat.reduceMul,Nat.reduceLeDiff,Nat.reduceLT,Nat.reduceEqDiff,strE_len,strE_add]
  ((repeat' (with_reducible apply And.intro))<;>try ((exact sc_)))
  refine end_round (ks.length - (k+1)) [oo,oo,.adr (.l 2) 0,oo,oo,.row (.l 9),oo,oo,oo,oo,oo,oo,oo,.p (.sl 1 (strE ks)),.p (int (ks.length:Nat)),.p (int ((k+1):Nat)),oo,oo,oo,oo,oo,oo,oo,oo,oo,oo] [(.l 2,.box [.p (.mpv A B),.p (.mpv (kv.map (·.1)) (kv.map (·.2))),.p (.sl 1 T)] 229),(.l 9,.row (strE (w++[x])) 9 1 true)] (by omega) (by (simp only [ZZ,WW,Ze,reduceCtorEq,Nat.reduceAdd,Nat.reduceMul,Nat.reduceLeDiff,Nat.reduceLT,Nat.reduceEqDiff];try trivial)) (by (simp only [ZZ,WW,Ze,reduceCtorEq,Nat.reduceAdd,Nat.reduceMul,Nat.reduceLeDiff,Nat.reduceLT,Nat.reduceEqDiff];try trivial)) ⟨k+1,w++[x],by omega,rfl,by rw [hw,htk];rfl,rfl,rfl⟩
 intro h
 have hge:ks.length≤k:=by have:=of_decide_eq_false h;omega
 rw [List.take_of_length_le hge] at hw
 subst hw
 simp only [ZZ,WW,Ze,reduceCtorEq,Nat.reduceAdd,Nat.reduceMul,Nat.reduceLeDiff,Nat.reduceLT,Nat.reduceEqDiff]
 done
theorem below_ok {il:List Itm} (hP:PapOk il) (A:List (List UInt8)) (B:List PV) (T:List (List PV)) {ts:List Nat} (hl:∀ t∈ts,t < 20) (hk:∀ t,t < 20→(t∈ts↔kidsF il (pid t)≠[])) {t:Nat} (ht:t∈topI il):PCall Tryz.prog E 225 [.agg [.mpv A B,.mpv ((kidP il ts).map (·.1)) ((kidP il ts).map (·.2)),.sl 1 T],.str (pid t)] (·=.sl 1 (strE (pid t :: kidsF il (pid t)))):=by
 have h20:=hP.1
 obtain ⟨htl,_,htop⟩:=ky_top ht
 by_cases hm:t∈ts
 ·refine below_top A B T (kidP il ts) (pid t) (kidsF il (pid t)) (Nat.le_trans (kidsF_len _ _) (by omega)) (by rw [kidP_get il hl (by omega),if_pos hm]) ?_
  intro s hs
  rw [← kid_at] at hs
  obtain ⟨i,hi,rfl⟩:=List.mem_map.1 hs
  obtain ⟨hil,hi20,_,hup⟩:=ky_kid hP (by omega) hi
  rw [id_at hP hil,kidP_get il hl hi20,if_neg]
  intro hit
  refine (hk i hi20).1 hit ?_
  rw [← kid_at,List.map_eq_nil_iff]
  refine List.eq_nil_iff_forall_not_mem.2 fun j hj=>?_
  obtain ⟨hjl,_,_,hju⟩:=ky_kid hP hi20 hj
  obtain ⟨_,q|⟨m,hm1,q1,q2⟩⟩:=up_cases hP hjl
  ·rw [q] at hju
   exact pid_ne i hju.symm
  ·have:=pid_inj (by omega) (by omega) (q1.symm.trans hju)
   subst this
   rw [q2] at hup
   exact pid_ne t hup.symm
 ·have h0:kidsF il (pid t)=[]:=Classical.byContradiction fun q=>hm ((hk t (by omega)).2 q)
  rw [h0]
  exact below_leaf A B T (kidP il ts) (pid t) (by rw [kidP_get il hl (by omega),if_neg hm])
theorem Families_ok (il:List Itm) (hP:PapOk il):PCall Tryz.prog E0 161 [.sl 7 (itE il)] (·=.tup [.sl 2 ((topsF il).map (encF il)),int 0]):=by
 have h20:=hP.1
 refine pcallF mixed Tryz.func161 ck_intake_Families ?_
 simp only [a0,l0,OS.ao,List.map_cons,List.map_nil,List.length_cons,List.length_nil,List.cons_append,List.nil_append,Nat.reduceSub,Nat.reduceAdd,List.replicate_succ,List.replicate_zero,ir_intake_Families,rs_intake_Families,ZZ,WW,Ze,reduceCtorEq,Nat.reduceAdd,Nat.reduceMul,Nat.reduceLeDiff,Nat.reduceLT,Nat.reduceEqDiff]
 refine use1 (ICheck_ok il hP) rfl (.inl rfl) ?_
 simp only [ZZ,WW,Ze,reduceCtorEq,Nat.reduceAdd,Nat.reduceMul,Nat.reduceLeDiff,Nat.reduceLT,Nat.reduceEqDiff,decide_true,Bool.not_true]
 refine use (newTree_ok il hP) rfl (.inl rfl) ?_
 rintro _ ⟨kv,ts,rfl,hkv,hkn,hl,hd,hk⟩
 have hbl:=fun {t:Nat} (ht:t∈topI il)=>below_ok (E:=E0) hP (kv.map (·.1)) (kv.map (·.2)) (strE (topsF il)) hl hk ht
 generalize kv.map (·.1)=A at *
 generalize kv.map (·.2)=B at *
 generalize (kidP il ts).map (·.1)=C at *
 generalize (kidP il ts).map (·.2)=D at *
 have hTl:(topsF il).length≤20:=Nat.le_trans (kidsF_len il []) h20
 have hTi:=top_at il
 simp only [ZZ,WW,Ze,reduceCtorEq,Nat.reduceAdd,Nat.reduceMul,Nat.reduceLeDiff,Nat.reduceLT,Nat.reduceEqDiff,strE_len]
 refine loop_intro (fun n fr L=>∃ (k:Nat) (w:List (List PV)),k≤(topsF il).length∧n=(topsF il).length - k∧(w=((topsF il).take k).map (encF il))∧fr=[oo,oo,oo,oo,oo,.adr (.l 5) 0,.row (.l 6),oo,oo,oo,oo,oo,oo,oo,oo,oo,oo,.p (.sl 1 (strE (topsF il))),.p (int ((topsF il).length:Nat)),.p (int (k:Nat)),oo,oo,oo,oo,oo,oo,oo,oo,oo,oo,oo,oo,oo]∧L=[(.l 5,.box [.p (.mpv A B),.p (.mpv C D),.p (.sl 1 (strE (topsF il)))] 229),(.l 6,.row w 119 2 true)]) ((topsF il).length) [oo,oo,oo,oo,oo,.adr (.l 5) 0,.row (.l 6),oo,oo,oo,oo,oo,oo,oo,oo,oo,oo,.p (.sl 1 (strE (topsF il))),.p (int ((topsF il).length:Nat)),.p (int (0:Nat)),oo,oo,oo,oo,oo,oo,oo,oo,oo,oo,oo,oo,oo] [(.l 5,.box [.p (.mpv A B),.p (.mpv C D),.p (.sl 1 (strE (topsF il)))] 229),(.l 6,.row [] 119 2 true)] (by simp only [ZZ,WW,Ze,reduceCtorEq,Nat.reduceAdd,Nat.reduceMul,Nat.reduceLeDiff,Nat.reduceLT,Nat.reduceEqDiff,strE_len];try trivial) (by (simp only [ZZ,WW,Ze,reduceCtorEq,Nat.reduceAdd,Nat.reduceMul,Nat.reduceLeDiff,Nat.reduceLT,Nat.reduceEqDiff];try trivial)) ⟨0,[],by omega,by omega,rfl,rfl,rfl⟩ ?_
 rintro n fr L ⟨k,w,hk,rfl,hw,rfl,rfl⟩
 simp only [ir_intake_Families_L0,ZZ,WW,Ze,reduceCtorEq,Nat.reduceAdd,Nat.reduceMul,Nat.reduceLeDiff,Nat.reduceLT,Nat.reduceEqDiff]
 refine br ?_ ?_
 ·intro h
  have hlt:k < (topsF il).length:=by have:=of_decide_eq_true h;omega
  obtain ⟨x,hx⟩:∃ x,(topsF il)[k]?=some x:=⟨_,List.getElem?_eq_getElem hlt⟩
  have hg:=strE_get hx
  have htk:((topsF il).take (k+1)).map (encF il)=((topsF il).take k).map (encF il)++[[.str x,.sl 1 (strE (x :: kidsF il x))]]:=by rw [List.take_succ_eq_append_getElem hlt,(List.getElem?_eq_some_iff.1 hx).2,List.map_append];rfl
  obtain ⟨t,ht,htx⟩:∃ t,t∈topI il∧(atI il t).1=x:=by have:=List.mem_of_getElem? hx;rw [← hTi] at this;simpa using List.mem_map.1 this
  rw [id_at hP (ky_top ht).1] at htx
  have hc:=hbl ht
  rw [htx] at hc
  have hwl:w.length≤20:=by rw [hw,List.length_map,List.length_take];omega
  simp only [ZZ,WW,Ze,reduceCtorEq,Nat.reduceAdd,Nat.reduceMul,Nat.reduceLeDiff,Nat.reduceLT,Nat.reduceEqDiff,hg,strE_len]
  ((repeat' (with_reducible apply And.intro))<;>try ((exact sc_)))
  refine use1 hc rfl (.inl rfl) ?_
  simp only [ZZ,WW,Ze,reduceCtorEq,Nat.reduceAdd,Nat.reduceMul,Nat.reduceLeDiff,Nat.reduceLT,Nat.reduceEqDiff]
  ((repeat' (with_reducible apply And.intro))<;>try ((exact sc_)))
  refine end_round ((topsF il).length - (k+1)) [oo,oo,oo,oo,oo,.adr (.l 5) 0,.row (.l 6),oo,oo,oo,oo,oo,oo,oo,oo,oo,oo,.p (.sl 1 (strE (topsF il))),.p (int ((topsF il).length:Nat)),.p (int ((k+1):Nat)),oo,oo,oo,oo,oo,oo,oo,oo,oo,oo,oo,oo,oo] [(.l 5,.box [.p (.mpv A B),.p (.mpv C D),.p (.sl 1 (strE (topsF il)))] 229),(.l 6,.row (w++[[.str x,.sl 1 (strE (x :: kidsF il x))]]) 119 2 true)] (by omega) (by (simp only [ZZ,WW,Ze,reduceCtorEq,Nat.reduceAdd,Nat.reduceMul,Nat.reduceLeDiff,Nat.reduceLT,Nat.reduceEqDiff];try trivial)) (by (simp only [ZZ,WW,Ze,reduceCtorEq,Nat.reduceAdd,Nat.reduceMul,Nat.reduceLeDiff,Nat.reduceLT,Nat.reduceEqDiff];try trivial)) ⟨k+1,w++[[.str x,.sl 1 (strE (x :: kidsF il x))]],by omega,rfl,by rw [hw,htk],rfl,rfl⟩
 intro h
 have hge:(topsF il).length≤k:=by have:=of_decide_eq_false h;omega
 rw [List.take_of_length_le hge] at hw
 subst hw
 simp only [ZZ,WW,Ze,reduceCtorEq,Nat.reduceAdd,Nat.reduceMul,Nat.reduceLeDiff,Nat.reduceLT,Nat.reduceEqDiff]
end
def ir_slices_Index_int_int_L0:IC:=(.seq (.reg [qO 9 (.bin .lss (.t 8) (.t 7))]) (.seq (.cond (.t 9) .skip (.exit 0)) (.seq (.block 1 (.seq (.reg [qM 10 8,qM 5 10]) (.seq (.reg [qM 11 1,qM 12 0,qM 13 5,qO 14 (.ixa 1 (.t 12) (.t 13)),qO 15 (.ld 1 false (.t 14)),qO 16 (.bin .eql (.t 11) (.t 15))]) (.cond (.t 16) (.seq (.reg [qM 17 5,qM 4 17]) .ret) .skip)))) (.reg [qO 18 (.bin .add (.t 8) (.c (.int .i64 1))),qM 8 18]))))
def ir_slices_Index_int_int:IC:=(.seq (.reg [qO 4 (.mov (.c (.int .i64 0)))]) (.seq (.seq (.reg [qM 6 0,qO 7 (.len (.t 6)),qO 8 (.mov (.c (.int .i64 0)))]) (.block 0 (.loop ir_slices_Index_int_int_L0))) (.seq (.reg [qO 4 (.mov (.c (.int .i64 (-1))))]) .ret)))
def rs_slices_Index_int_int:List IRes:=[.t 4]
theorem ck_slices_Index_int_int:chkF Tryz.prog Tryz.f317 ir_slices_Index_int_int rs_slices_Index_int_int 19=true:=by kernel_rfl
def ir_slices_Contains_int_int:IC:=(.seq (.reg [qO 4 (.mov (.c (.bool false)))]) (.seq (.reg [qM 5 0,qM 6 1,qO 7 (.call 317 [.t 5,.t 6]),qO 8 (.bin .geq (.t 7) (.c (.int .i64 0))),qM 4 8]) .ret))
def rs_slices_Contains_int_int:List IRes:=[.t 4]
theorem ck_slices_Contains_int_int:chkF Tryz.prog Tryz.f271 ir_slices_Contains_int_int rs_slices_Contains_int_int 9=true:=by kernel_rfl
section
variable {E:Envt}
def ixE (l:List Int):List (List PV):=l.map fun x=>[PV.int .i64 x]
theorem ixE_len (l:List Int):(ixE l).length=l.length:=by simp [ixE]
theorem ixE_get {l:List Int} {k:Nat} {x:Int} (h:l[k]?=some x):(ixE l).getD k []=[.int .i64 x]:=getD_map h
def idxI (l:List Int) (x:Int) (k:Nat):Int:=if h:k < l.length then (if x=l[k] then k else idxI l x (k+1)) else -1
termination_by l.length - k
theorem IndexI_ok (l:List Int) (x:Int) (hl:l.length≤1000000000):PCall Tryz.prog E 317 [.sl 1 (ixE l),.int .i64 x] (·=int (idxI l x 0)):=by
 refine pcallF mixed Tryz.func317 ck_slices_Index_int_int ?_
 simp only [a0,l0,OS.ao,List.map_cons,List.map_nil,List.length_cons,List.length_nil,List.cons_append,List.nil_append,Nat.reduceSub,Nat.reduceAdd,List.replicate_succ,List.replicate_zero,ir_slices_Index_int_int,rs_slices_Index_int_int,ZZ,WW,Ze,reduceCtorEq,Nat.reduceAdd,Nat.reduceMul,Nat.reduceLeDiff,Nat.reduceLT,Nat.reduceEqDiff]
 simp only [ZZ,WW,Ze,reduceCtorEq,Nat.reduceAdd,Nat.reduceMul,Nat.reduceLeDiff,Nat.reduceLT,Nat.reduceEqDiff,ixE_len]
 refine loop_intro (fun n fr L=>∃ (k:Nat),k≤l.length∧n=l.length - k∧(idxI l x 0=idxI l x k)∧fr=[.p (.sl 1 (ixE l)),.p (.int .i64 x),oo,oo,oo,oo,oo,.p (int (l.length:Nat)),.p (int (k:Nat)),oo,oo,oo,oo,oo,oo,oo,oo,oo,oo]∧L=[]) (l.length) [.p (.sl 1 (ixE l)),.p (.int .i64 x),oo,oo,oo,oo,oo,.p (int (l.length:Nat)),.p (int (0:Nat)),oo,oo,oo,oo,oo,oo,oo,oo,oo,oo] [] (by simp only [ZZ,WW,Ze,reduceCtorEq,Nat.reduceAdd,Nat.reduceMul,Nat.reduceLeDiff,Nat.reduceLT,Nat.reduceEqDiff,ixE_len];try trivial) (by (simp only [ZZ,WW,Ze,reduceCtorEq,Nat.reduceAdd,Nat.reduceMul,Nat.reduceLeDiff,Nat.reduceLT,Nat.reduceEqDiff];try trivial)) ⟨0,by omega,by omega,rfl,rfl,rfl⟩ ?_
 rintro n fr L ⟨k,hk,rfl,hf,rfl,rfl⟩
 simp only [ir_slices_Index_int_int_L0,ZZ,WW,Ze,reduceCtorEq,Nat.reduceAdd,Nat.reduceMul,Nat.reduceLeDiff,Nat.reduceLT,Nat.reduceEqDiff]
 refine br ?_ ?_
 ·intro h
  have hlt:k < l.length:=by have:=of_decide_eq_true h;omega
  have hg:=ixE_get (List.getElem?_eq_getElem hlt)
  simp only [ZZ,WW,Ze,reduceCtorEq,Nat.reduceAdd,Nat.reduceMul,Nat.reduceLeDiff,Nat.reduceLT,Nat.reduceEqDiff,hg,ixE_len]
  ((repeat' (with_reducible apply And.intro))<;>try ((exact sc_)))
  refine br ?_ ?_
  ·intro h2
   have h2:x=l[k]:=of_decide_eq_true h2
   simp only [ZZ,WW,Ze,reduceCtorEq,Nat.reduceAdd,Nat.reduceMul,Nat.reduceLeDiff,Nat.reduceLT,Nat.reduceEqDiff]
   rw [hf,idxI,dif_pos hlt,if_pos h2]
  ·intro h2
   have h2:¬ x=l[k]:=of_decide_eq_false h2
   simp only [ZZ,WW,Ze,reduceCtorEq,Nat.reduceAdd,Nat.reduceMul,Nat.reduceLeDiff,Nat.reduceLT,Nat.reduceEqDiff]
   ((repeat' (with_reducible apply And.intro))<;>try ((exact sc_)))
   refine end_round (l.length - (k+1)) [.p (.sl 1 (ixE l)),.p (.int .i64 x),oo,oo,oo,oo,oo,.p (int (l.length:Nat)),.p (int ((k+1):Nat)),oo,oo,oo,oo,oo,oo,oo,oo,oo,oo] [] (by omega) (by (simp only [ZZ,WW,Ze,reduceCtorEq,Nat.reduceAdd,Nat.reduceMul,Nat.reduceLeDiff,Nat.reduceLT,Nat.reduceEqDiff];try trivial)) (by (simp only [ZZ,WW,Ze,reduceCtorEq,Nat.reduceAdd,Nat.reduceMul,Nat.reduceLeDiff,Nat.reduceLT,Nat.reduceEqDiff];try trivial)) ⟨k+1,by omega,rfl,by rw [hf,idxI,dif_pos hlt,if_neg h2],rfl,rfl⟩
 ·intro h
  have hge:¬ k < l.length:=by have:=of_decide_eq_false h;omega
  simp only [ZZ,WW,Ze,reduceCtorEq,Nat.reduceAdd,Nat.reduceMul,Nat.reduceLeDiff,Nat.reduceLT,Nat.reduceEqDiff]
  rw [hf,idxI,dif_neg hge]
theorem idxI_mem (l:List Int) (x:Int):∀ (n k:Nat),l.length - k≤n→(0≤idxI l x k↔x∈l.drop k):=by
 intro n
 induction n with
 |zero=>
  intro k hk
  rw [idxI,dif_neg (by omega),List.drop_eq_nil_of_le (by omega)]
  simp
 |succ n ih=>
  intro k hk
  rw [idxI]
  split
  ·rename_i h
   rw [List.drop_eq_getElem_cons h,List.mem_cons]
   split
   ·rename_i e;simp [e]
   ·rename_i e
    rw [ih (k+1) (by omega)]
    simp [e]
  ·rename_i h
   rw [List.drop_eq_nil_of_le (by omega)]
   simp
theorem ContainsI_ok (l:List Int) (x:Int) (hl:l.length≤1000000000):PCall Tryz.prog E 271 [.sl 1 (ixE l),.int .i64 x] (·=.bool (decide (x∈l))):=by
 refine pcallF mixed Tryz.func271 ck_slices_Contains_int_int ?_
 simp only [a0,l0,OS.ao,List.map_cons,List.map_nil,List.length_cons,List.length_nil,List.cons_append,List.nil_append,Nat.reduceSub,Nat.reduceAdd,List.replicate_succ,List.replicate_zero,ir_slices_Contains_int_int,rs_slices_Contains_int_int,ZZ,WW,Ze,reduceCtorEq,Nat.reduceAdd,Nat.reduceMul,Nat.reduceLeDiff,Nat.reduceLT,Nat.reduceEqDiff]
 refine use1 (IndexI_ok l x hl) rfl (.inl rfl) ?_
 simp only [ZZ,WW,Ze,reduceCtorEq,Nat.reduceAdd,Nat.reduceMul,Nat.reduceLeDiff,Nat.reduceLT,Nat.reduceEqDiff]
 have:=idxI_mem l x _ 0 (Nat.le_refl _)
 rw [List.drop_zero] at this
 simp only [this]
end
def ir_slices_IndexFunc_api_Item_api_Item_L0:IC:=(.seq (.reg [qO 9 (.bin .lss (.t 8) (.t 7))]) (.seq (.cond (.t 9) .skip (.exit 0)) (.seq (.block 1 (.seq (.reg [qM 10 8,qM 5 10]) (.seq (.reg [qM 11 1,qM 12 0,qM 13 5,qO 14 (.ixa 7 (.t 12) (.t 13)),qO 15 (.ld 7 true (.t 14)),qO 16 (.callv (.t 11) [.t 15])]) (.cond (.t 16) (.seq (.reg [qM 17 5,qM 4 17]) .ret) .skip)))) (.reg [qO 18 (.bin .add (.t 8) (.c (.int .i64 1))),qM 8 18]))))
def ir_slices_IndexFunc_api_Item_api_Item:IC:=(.seq (.reg [qO 4 (.mov (.c (.int .i64 0)))]) (.seq (.seq (.reg [qM 6 0,qO 7 (.len (.t 6)),qO 8 (.mov (.c (.int .i64 0)))]) (.block 0 (.loop ir_slices_IndexFunc_api_Item_api_Item_L0))) (.seq (.reg [qO 4 (.mov (.c (.int .i64 (-1))))]) .ret)))
def rs_slices_IndexFunc_api_Item_api_Item:List IRes:=[.t 4]
theorem ck_slices_IndexFunc_api_Item_api_Item:chkF Tryz.prog Tryz.f153 ir_slices_IndexFunc_api_Item_api_Item rs_slices_IndexFunc_api_Item_api_Item 19=true:=by kernel_rfl
def ir_chaseref2_place:IC:=(.seq (.reg [qO 3 (.box 9 (.t 1)),qO 4 (.mov (.c (.int .i64 0)))]) (.seq (.reg [qM 5 0,qO 6 (.mkf 213 [.t 3]),qO 7 (.call 153 [.t 5,.t 6]),qM 4 7]) .ret))
def rs_chaseref2_place:List IRes:=[.t 4]
theorem ck_chaseref2_place:chkF Tryz.prog Tryz.f151 ir_chaseref2_place rs_chaseref2_place 8=true:=by kernel_rfl
def ir_chaseref2_place_1:IC:=(.seq (.reg [qO 2 (.box 80 (.t 0)),qO 3 (.mov (.c (.bool false)))]) (.seq (.reg [qO 4 (.fla 0 (.t 2)),qO 5 (.ld 1 false (.t 4)),qO 6 (.ld 1 false (.t 1)),qO 7 (.bin .eql (.t 5) (.t 6)),qM 3 7]) .ret))
def rs_chaseref2_place_1:List IRes:=[.t 3]
theorem ck_chaseref2_place_1:chkF Tryz.prog Tryz.f213 ir_chaseref2_place_1 rs_chaseref2_place_1 8=true:=by kernel_rfl
def ir_chaseref2_above_L0:IC:=(.seq (.seq (.reg [qM 15 7,qO 16 (.bin .geq (.t 15) (.c (.int .i64 0))),qM 17 16,⟨some 18,.mov (.t 0),(some (17,true))⟩,⟨some 19,.mov (.t 1),(some (17,true))⟩,⟨some 20,.ixa 7 (.t 18) (.t 19),(some (17,true))⟩,⟨some 21,.fla 5 (.t 20),(some (17,true))⟩,⟨some 22,.ld 1 false (.t 21),(some (17,true))⟩,⟨some 23,.bin .neq (.t 22) (.c (.str [])),(some (17,true))⟩,qO 24 (.pick (.t 17) (.t 23) (.c (.bool false)))]) (.cond (.t 24) .skip (.exit 0))) (.seq (.block 1 (.seq (.reg [qM 32 6,qM 33 7,qO 34 (.bsl 1 [.t 33]),qO 35 (.app 3 1 8 (.t 32) (.t 34)),qM 6 35]) (.seq (.seq (.reg [qM 36 6,qO 37 (.len (.t 36)),qM 38 0,qO 39 (.len (.t 38)),qO 40 (.bin .gtr (.t 37) (.t 39))]) (.cond (.t 40) (.seq (.reg [qM 41 6,qM 4 41,qO 5 (.mov (.c (.bool false)))]) .ret) .skip)) (.seq (.reg [qM 42 0,qM 43 7,qO 44 (.ixa 7 (.t 42) (.t 43)),qO 45 (.fla 5 (.t 44)),qO 46 (.ld 1 false (.t 45)),qO 47 (.bin .eql (.t 46) (.c (.str [])))]) (.cond (.t 47) (.exit 0) .skip))))) (.reg [qM 25 0,qM 26 0,qM 27 7,qO 28 (.ixa 7 (.t 26) (.t 27)),qO 29 (.fla 5 (.t 28)),qO 30 (.ld 1 false (.t 29)),qO 31 (.call 151 [.t 25,.t 30]),qM 7 31])))
def ir_chaseref2_above:IC:=(.seq (.reg [qO 4 (.mov (.c (.nl 1))),qO 5 (.mov (.c (.bool false)))]) (.seq (.reg [qO 6 (.nilr 3 1)]) (.seq (.seq (.reg [qM 8 0,qM 9 0,qM 10 1,qO 11 (.ixa 7 (.t 9) (.t 10)),qO 12 (.fla 5 (.t 11)),qO 13 (.ld 1 false (.t 12)),qO 14 (.call 151 [.t 8,.t 13]),qM 7 14]) (.block 0 (.loop ir_chaseref2_above_L0))) (.cut (.seq (.reg [qM 48 6,qM 4 48,qO 5 (.mov (.c (.bool true)))]) .ret)))))
def rs_chaseref2_above:List IRes:=[.t 4,.t 5]
theorem ck_chaseref2_above:chkF Tryz.prog Tryz.f165 ir_chaseref2_above rs_chaseref2_above 49=true:=by kernel_rfl
def ir_chaseref2_returns:IC:=(.seq (.reg [qO 4 (.mov (.c (.bool false)))]) (.seq (.reg [qM 8 0,qM 9 1,qO 10 (.call 165 [.t 8,.t 9]),qM 7 10,qO 11 (.ext 0 (.t 7)),qO 12 (.ext 1 (.t 7)),qM 5 11,qM 6 12]) (.seq (.reg [qM 13 5,qM 14 1,qO 15 (.call 271 [.t 13,.t 14]),qM 4 15]) .ret)))
def rs_chaseref2_returns:List IRes:=[.t 4]
theorem ck_chaseref2_returns:chkF Tryz.prog Tryz.f214 ir_chaseref2_returns rs_chaseref2_returns 16=true:=by kernel_rfl
def ir_chaseref2_treeFault_L1:IC:=(.seq (.reg [qO 20 (.bin .lss (.t 19) (.t 18))]) (.seq (.cond (.t 20) .skip (.exit 2)) (.seq (.block 3 (.seq (.reg [qM 21 19,qM 4 21]) (.seq (.seq (.reg [qM 22 0,qM 23 0,qM 24 4,qO 25 (.ixa 7 (.t 23) (.t 24)),qO 26 (.fla 5 (.t 25)),qO 27 (.ld 1 false (.t 26)),qO 28 (.call 151 [.t 22,.t 27]),qM 5 28]) (.seq (.reg [qM 29 0,qM 30 4,qO 31 (.ixa 7 (.t 29) (.t 30)),qO 32 (.fla 5 (.t 31)),qO 33 (.ld 1 false (.t 32)),qO 34 (.bin .neq (.t 33) (.c (.str []))),qM 35 34,⟨some 36,.mov (.t 5),(some (35,true))⟩,⟨some 37,.bin .geq (.t 36) (.c (.int .i64 0)),(some (35,true))⟩,qO 38 (.pick (.t 35) (.t 37) (.c (.bool false))),qM 39 38,⟨some 40,.mov (.t 0),(some (39,true))⟩,⟨some 41,.mov (.t 5),(some (39,true))⟩,⟨some 42,.ixa 7 (.t 40) (.t 41),(some (39,true))⟩,⟨some 43,.fla 2 (.t 42),(some (39,true))⟩,⟨some 44,.ld 1 false (.t 43),(some (39,true))⟩,⟨some 45,.bin .neq (.t 44) (.c (.int .i64 1)),(some (39,true))⟩,qO 46 (.pick (.t 39) (.t 45) (.c (.bool false))),qM 47 46,⟨some 48,.mov (.t 0),(some (47,true))⟩,⟨some 49,.mov (.t 5),(some (47,true))⟩,⟨some 50,.ixa 7 (.t 48) (.t 49),(some (47,true))⟩,⟨some 51,.fla 2 (.t 50),(some (47,true))⟩,⟨some 52,.ld 1 false (.t 51),(some (47,true))⟩,⟨some 53,.bin .neq (.t 52) (.c (.int .i64 3)),(some (47,true))⟩,qO 54 (.pick (.t 47) (.t 53) (.c (.bool false)))]) (.cond (.t 54) (.seq (.reg [qO 2 (.mov (.c (.int .i64 16)))]) .ret) .skip))) (.seq (.reg [qM 56 0,qM 57 4,qO 58 (.call 165 [.t 56,.t 57]),qM 55 58,qO 59 (.ext 0 (.t 55)),qO 60 (.ext 1 (.t 55)),qM 6 59,qM 7 60]) (.seq (.reg [qM 61 6,qO 62 (.len (.t 61)),qO 63 (.bin .gtr (.t 62) (.c (.int .i64 4)))]) (.cond (.t 63) (.seq (.reg [qO 2 (.mov (.c (.int .i64 2)))]) .ret) .skip)))))) (.reg [qO 64 (.bin .add (.t 19) (.c (.int .i64 1))),qM 19 64]))))
def ir_chaseref2_treeFault_L0:IC:=(.seq (.reg [qO 11 (.bin .lss (.t 10) (.t 9))]) (.seq (.cond (.t 11) .skip (.exit 0)) (.seq (.block 1 (.seq (.reg [qM 12 10,qM 3 12]) (.seq (.reg [qM 13 0,qM 14 3,qO 15 (.call 214 [.t 13,.t 14])]) (.cond (.t 15) (.seq (.reg [qO 2 (.mov (.c (.int .i64 14)))]) .ret) .skip)))) (.reg [qO 16 (.bin .add (.t 10) (.c (.int .i64 1))),qM 10 16]))))
def ir_chaseref2_treeFault:IC:=(.seq (.reg [qO 2 (.mov (.c (.int .i64 0)))]) (.seq (.seq (.reg [qM 8 0,qO 9 (.len (.t 8)),qO 10 (.mov (.c (.int .i64 0)))]) (.block 0 (.loop ir_chaseref2_treeFault_L0))) (.seq (.seq (.reg [qM 17 0,qO 18 (.len (.t 17)),qO 19 (.mov (.c (.int .i64 0)))]) (.block 2 (.loop ir_chaseref2_treeFault_L1))) (.seq (.reg [qO 2 (.mov (.c (.int .i64 0)))]) .ret))))
def rs_chaseref2_treeFault:List IRes:=[.t 2]
theorem ck_chaseref2_treeFault:chkF Tryz.prog Tryz.f152 ir_chaseref2_treeFault rs_chaseref2_treeFault 65=true:=by kernel_rfl
def ir_chaseref2_ItemsFault_L1:IC:=(.seq (.reg [qO 33 (.bin .lss (.t 32) (.t 31))]) (.seq (.cond (.t 33) .skip (.exit 2)) (.seq (.block 3 (.seq (.reg [qO 34 (.ixa 7 (.t 30) (.t 32)),qO 35 (.ld 7 true (.t 34)),qO 8 (.alc 80 [.str [],.str [],.int .i64 0,.str [],.int .i64 0,.str [],.str []]),⟨none,.st 7 (.t 8) (.t 35),none⟩]) (.seq (.reg [qO 36 (.fla 5 (.t 8)),qO 37 (.ld 1 false (.t 36)),qO 38 (.bin .neq (.t 37) (.c (.str []))),qM 39 38,⟨some 40,.mov (.t 0),(some (39,true))⟩,⟨some 41,.fla 5 (.t 8),(some (39,true))⟩,⟨some 42,.ld 1 false (.t 41),(some (39,true))⟩,⟨some 43,.call 151 [.t 40,.t 42],(some (39,true))⟩,⟨some 44,.bin .lss (.t 43) (.c (.int .i64 0)),(some (39,true))⟩,qO 45 (.pick (.t 39) (.t 44) (.c (.bool false)))]) (.cond (.t 45) (.seq (.reg [qO 2 (.mov (.c (.int .i64 8)))]) .ret) .skip)))) (.reg [qO 46 (.bin .add (.t 32) (.c (.int .i64 1))),qM 32 46]))))
def ir_chaseref2_ItemsFault_L0:IC:=(.seq (.reg [qO 15 (.bin .lss (.t 14) (.t 13))]) (.seq (.cond (.t 15) .skip (.exit 0)) (.seq (.block 1 (.seq (.reg [qO 16 (.ixa 7 (.t 12) (.t 14)),qO 17 (.ld 7 true (.t 16)),qO 5 (.alc 80 [.str [],.str [],.int .i64 0,.str [],.int .i64 0,.str [],.str []]),⟨none,.st 7 (.t 5) (.t 17),none⟩]) (.seq (.seq (.reg [qO 18 (.ld 7 true (.t 5)),qO 19 (.call 150 [.t 18]),qM 6 19]) (.seq (.reg [qM 20 6,qO 21 (.bin .neq (.t 20) (.c (.int .i64 0)))]) (.cond (.t 21) (.seq (.reg [qM 22 6,qM 2 22]) .ret) .skip))) (.seq (.seq (.reg [qO 23 (.fla 0 (.t 5)),qO 24 (.ld 1 false (.t 23)),qM 25 3,qO 26 (.bin .leq (.t 24) (.t 25))]) (.cond (.t 26) (.seq (.reg [qO 2 (.mov (.c (.int .i64 7)))]) .ret) .skip)) (.reg [qO 27 (.fla 0 (.t 5)),qO 28 (.ld 1 false (.t 27)),qM 3 28]))))) (.reg [qO 29 (.bin .add (.t 14) (.c (.int .i64 1))),qM 14 29]))))
def ir_chaseref2_ItemsFault:IC:=(.seq (.reg [qO 2 (.mov (.c (.int .i64 0)))]) (.seq (.seq (.reg [qM 9 0,qO 10 (.len (.t 9)),qO 11 (.bin .gtr (.t 10) (.c (.int .i64 2000)))]) (.cond (.t 11) (.seq (.reg [qO 2 (.mov (.c (.int .i64 2)))]) .ret) .skip)) (.seq (.reg [qO 3 (.mov (.c (.str [])))]) (.seq (.seq (.reg [qM 12 0,qO 13 (.len (.t 12)),qO 14 (.mov (.c (.int .i64 0)))]) (.block 0 (.loop ir_chaseref2_ItemsFault_L0))) (.seq (.seq (.reg [qM 30 0,qO 31 (.len (.t 30)),qO 32 (.mov (.c (.int .i64 0)))]) (.block 2 (.loop ir_chaseref2_ItemsFault_L1))) (.seq (.reg [qM 47 0,qO 48 (.call 152 [.t 47]),qM 2 48]) .ret))))))
def rs_chaseref2_ItemsFault:List IRes:=[.t 2]
theorem ck_chaseref2_ItemsFault:chkF Tryz.prog Tryz.f71 ir_chaseref2_ItemsFault rs_chaseref2_ItemsFault 49=true:=by kernel_rfl
section
variable {E:Envt}
theorem IndexFuncI_ok (l:List Itm) (f:FuncId) (ps:List PV) (q:Itm→Bool) (hl:l.length≤1000000000) (hfn:Unit→fnB Tryz.prog f=true) (hps:Zl [] (ps.map .p)=true) (hf:∀ x∈l,PCall Tryz.prog E f (.agg (itC x) :: ps) (·=.bool (q x))) (hn:∀ x,Zbh [] (.p (.agg (itC x)) :: ps.map .p)=some (.agg (itC x) :: ps)) (hr:∀ x,Zbj (.p (.agg (itC x)) :: ps.map .p)=true):PCall Tryz.prog E 153 [.sl 7 (itE l),.clo f ps] (·=int (idxF q l)):=by
 refine pcallF mixed Tryz.func153 ck_slices_IndexFunc_api_Item_api_Item ?_
 simp only [a0,l0,OS.ao,List.map_cons,List.map_nil,List.length_cons,List.length_nil,List.cons_append,List.nil_append,Nat.reduceSub,Nat.reduceAdd,List.replicate_succ,List.replicate_zero,ir_slices_IndexFunc_api_Item_api_Item,rs_slices_IndexFunc_api_Item_api_Item,ZZ,WW,Ze,reduceCtorEq,Nat.reduceAdd,Nat.reduceMul,Nat.reduceLeDiff,Nat.reduceLT,Nat.reduceEqDiff]
 simp only [ZZ,WW,Ze,reduceCtorEq,Nat.reduceAdd,Nat.reduceMul,Nat.reduceLeDiff,Nat.reduceLT,Nat.reduceEqDiff,itE_len]
 refine loop_intro (fun n fr L=>∃ (k:Nat),k≤l.length∧n=l.length - k∧(∀ x∈l.take k,q x=false)∧fr=[.p (.sl 7 (itE l)),.p (.clo f ps),oo,oo,oo,oo,oo,.p (int (l.length:Nat)),.p (int (k:Nat)),oo,oo,oo,oo,oo,oo,oo,oo,oo,oo]∧L=[]) (l.length) [.p (.sl 7 (itE l)),.p (.clo f ps),oo,oo,oo,oo,oo,.p (int (l.length:Nat)),.p (int (0:Nat)),oo,oo,oo,oo,oo,oo,oo,oo,oo,oo] [] (by simp only [itE_len,ZZ,WW,Ze,reduceCtorEq,Nat.reduceAdd,Nat.reduceMul,Nat.reduceLeDiff,Nat.reduceLT,Nat.reduceEqDiff];try trivial) (by (simp only [ZZ,WW,Ze,reduceCtorEq,Nat.reduceAdd,Nat.reduceMul,Nat.reduceLeDiff,Nat.reduceLT,Nat.reduceEqDiff];try trivial)) ⟨0,by omega,by omega,by simp,rfl,rfl⟩ ?_
 rintro n fr L ⟨k,hk,rfl,hno,rfl,rfl⟩
 simp only [ir_slices_IndexFunc_api_Item_api_Item_L0,ZZ,WW,Ze,reduceCtorEq,Nat.reduceAdd,Nat.reduceMul,Nat.reduceLeDiff,Nat.reduceLT,Nat.reduceEqDiff]
 refine br ?_ ?_
 ·intro h
  have hlt:k < l.length:=by have:=of_decide_eq_true h;omega
  obtain ⟨x,hx⟩:∃ x,l[k]?=some x:=⟨_,List.getElem?_eq_getElem hlt⟩
  have hg:=itE_get hx
  simp only [itC] at hg
  simp only [ZZ,WW,Ze,reduceCtorEq,Nat.reduceAdd,Nat.reduceMul,Nat.reduceLeDiff,Nat.reduceLT,Nat.reduceEqDiff,hg,itE_len,hfn ()]
  refine ⟨⟨by omega,by omega⟩,by omega,hps,?_⟩
  refine use1 (hf x (List.mem_of_getElem? hx)) (hn x) (.inl (hr x)) ?_
  simp only [ZZ,WW,Ze,reduceCtorEq,Nat.reduceAdd,Nat.reduceMul,Nat.reduceLeDiff,Nat.reduceLT,Nat.reduceEqDiff]
  refine br ?_ ?_
  ·intro hq
   simp only [ZZ,WW,Ze,reduceCtorEq,Nat.reduceAdd,Nat.reduceMul,Nat.reduceLeDiff,Nat.reduceLT,Nat.reduceEqDiff]
   rw [idxF_hit hx hq hno]
  ·intro hq
   simp only [ZZ,WW,Ze,reduceCtorEq,Nat.reduceAdd,Nat.reduceMul,Nat.reduceLeDiff,Nat.reduceLT,Nat.reduceEqDiff]
   ((repeat' (with_reducible apply And.intro))<;>try ((exact sc_)))
   refine end_round (l.length - (k+1)) [.p (.sl 7 (itE l)),.p (.clo f ps),oo,oo,oo,oo,oo,.p (int (l.length:Nat)),.p (int ((k+1):Nat)),oo,oo,oo,oo,oo,oo,oo,oo,oo,oo] [] (by omega) (by (simp only [ZZ,WW,Ze,reduceCtorEq,Nat.reduceAdd,Nat.reduceMul,Nat.reduceLeDiff,Nat.reduceLT,Nat.reduceEqDiff];try trivial)) (by (simp only [ZZ,WW,Ze,reduceCtorEq,Nat.reduceAdd,Nat.reduceMul,Nat.reduceLeDiff,Nat.reduceLT,Nat.reduceEqDiff];try trivial)) ⟨k+1,by omega,rfl,by rw [List.take_succ_eq_append_getElem hlt];intro y hy;rcases List.mem_append.1 hy with hy|hy;exact hno y hy;rw [List.mem_singleton] at hy;rw [hy,(List.getElem?_eq_some_iff.1 hx).2];exact hq,rfl,rfl⟩
 ·intro h
  have hge:l.length≤k:=by have:=of_decide_eq_false h;omega
  rw [List.take_of_length_le hge] at hno
  simp only [ZZ,WW,Ze,reduceCtorEq,Nat.reduceAdd,Nat.reduceMul,Nat.reduceLeDiff,Nat.reduceLT,Nat.reduceEqDiff]
  rw [idxF_none hno]
theorem place1_ok (x:Itm) (s:List UInt8):PCall Tryz.prog E 213 [.agg (itC x),.ptr [.str s]] (·=.bool (decide (x.1=s))):=by
 simp only [itC]
 refine pcallF mixed Tryz.func213 ck_chaseref2_place_1 ?_
 simp only [a0,l0,OS.ao,List.map_cons,List.map_nil,List.length_cons,List.length_nil,List.cons_append,List.nil_append,Nat.reduceSub,Nat.reduceAdd,List.replicate_succ,List.replicate_zero,ir_chaseref2_place_1,rs_chaseref2_place_1,ZZ,WW,Ze,reduceCtorEq,Nat.reduceAdd,Nat.reduceMul,Nat.reduceLeDiff,Nat.reduceLT,Nat.reduceEqDiff]
def plF (il:List Itm) (s:List UInt8):Int:=idxF (fun x=>decide (x.1=s)) il
theorem place_ok (il:List Itm) (s:List UInt8) (hl:il.length≤1000000):PCall Tryz.prog E 151 [.sl 7 (itE il),.str s] (·=int (plF il s)):=by
 refine pcallF mixed Tryz.func151 ck_chaseref2_place ?_
 simp only [a0,l0,OS.ao,List.map_cons,List.map_nil,List.length_cons,List.length_nil,List.cons_append,List.nil_append,Nat.reduceSub,Nat.reduceAdd,List.replicate_succ,List.replicate_zero,ir_chaseref2_place,rs_chaseref2_place,ZZ,WW,Ze,reduceCtorEq,Nat.reduceAdd,Nat.reduceMul,Nat.reduceLeDiff,Nat.reduceLT,Nat.reduceEqDiff]
 refine use1 (IndexFuncI_ok il 213 [.ptr [.str s]] (fun x=>decide (x.1=s)) (by omega) (fun _=>by kernel_rfl) rfl (fun y _=>place1_ok y s) (fun _=>rfl) (fun _=>rfl)) rfl (.inr rfl) ?_
 simp only [ZZ,WW,Ze,reduceCtorEq,Nat.reduceAdd,Nat.reduceMul,Nat.reduceLeDiff,Nat.reduceLT,Nat.reduceEqDiff]
 rfl
theorem plF_nil {il:List Itm} (h:PapOk il):plF il []=-1:=by
 refine idxF_none fun x hx=>?_
 obtain ⟨i,hi⟩:=List.getElem?_of_mem hx
 rw [(h.2 i x hi).b1]
 simp [pid]
theorem plF_pid {il:List Itm} (h:PapOk il) {j:Nat} {y:Itm} (hy:il[j]?=some y):plF il (pid j)=j:=by
 have hjl:=(List.getElem?_eq_some_iff.1 hy).1
 have h20:=h.1
 refine idxF_hit hy (by rw [(h.2 j y hy).b1];simp) fun z hz=>?_
 obtain ⟨i,hi⟩:=List.getElem?_of_mem hz
 have hlt:i < j:=by have:=(List.getElem?_eq_some_iff.1 hi).1;rw [List.length_take] at this;omega
 rw [List.getElem?_take_of_lt hlt] at hi
 rw [(h.2 i z hi).b1,decide_eq_false_iff_not]
 intro e
 have:=pid_inj (by omega) (by omega) e
 omega
def upF (il:List Itm) (x:Itm):List Int:=if x.2.2.2.2.2.1=[] then [] else [plF il x.2.2.2.2.2.1]
theorem above2_ok (il:List Itm) (hP:PapOk il) (i:Nat) (x:Itm) (hx:il[i]?=some x):PCall Tryz.prog E 165 [.sl 7 (itE il),int (i:Nat)] (·=.tup [.sl 1 (ixE (upF il x)),.bool true]):=by
 have hp:=hP.2 i x hx
 have h20:=hP.1
 have hil:=(List.getElem?_eq_some_iff.1 hx).1
 have hg:=itE_get hx
 simp only [itC] at hg
 refine pcallF mixed Tryz.func165 ck_chaseref2_above ?_
 simp only [a0,l0,OS.ao,List.map_cons,List.map_nil,List.length_cons,List.length_nil,List.cons_append,List.nil_append,Nat.reduceSub,Nat.reduceAdd,List.replicate_succ,List.replicate_zero,ir_chaseref2_above,rs_chaseref2_above,ZZ,WW,Ze,reduceCtorEq,Nat.reduceAdd,Nat.reduceMul,Nat.reduceLeDiff,Nat.reduceLT,Nat.reduceEqDiff]
 simp only [ZZ,WW,Ze,reduceCtorEq,Nat.reduceAdd,Nat.reduceMul,Nat.reduceLeDiff,Nat.reduceLT,Nat.reduceEqDiff,hg,itE_len]
 ((repeat' (with_reducible apply And.intro))<;>try ((exact sc_)))
 refine use1 (place_ok il x.2.2.2.2.2.1 (by omega)) rfl (.inl rfl) ?_
 simp only [ZZ,WW,Ze,reduceCtorEq,Nat.reduceAdd,Nat.reduceMul,Nat.reduceLeDiff,Nat.reduceLT,Nat.reduceEqDiff]
 by_cases hq:x.2.2.2.2.2.1=[]
 ·have hpl:plF il x.2.2.2.2.2.1=-1:=by rw [hq];exact plF_nil hP
  rw [upF,if_pos hq,hpl]
  refine loop_intro (fun n fr L=>n=0∧fr=[.p (.sl 7 (itE il)),.p (int (i:Nat)),oo,oo,oo,oo,.row (.l 6),.p (int (-1)),oo,oo,oo,oo,oo,oo,oo,oo,oo,oo,oo,oo,oo,oo,oo,oo,oo,oo,oo,oo,oo,oo,oo,oo,oo,oo,oo,oo,oo,oo,oo,oo,oo,oo,oo,oo,oo,oo,oo,oo,oo]∧L=[(.l 6,.row [] 3 1 true)]) 0 [.p (.sl 7 (itE il)),.p (int (i:Nat)),oo,oo,oo,oo,.row (.l 6),.p (int (-1)),oo,oo,oo,oo,oo,oo,oo,oo,oo,oo,oo,oo,oo,oo,oo,oo,oo,oo,oo,oo,oo,oo,oo,oo,oo,oo,oo,oo,oo,oo,oo,oo,oo,oo,oo,oo,oo,oo,oo,oo,oo] [(.l 6,.row [] 3 1 true)] (by (simp only [ZZ,WW,Ze,reduceCtorEq,Nat.reduceAdd,Nat.reduceMul,Nat.reduceLeDiff,Nat.reduceLT,Nat.reduceEqDiff];try trivial)) zE_ ⟨rfl,rfl,rfl⟩ ?_
  rintro n fr L ⟨rfl,rfl,rfl⟩
  have n1:decide ((0:Int)≤-1)=false:=rfl
  simp only [ir_chaseref2_above_L0,ZZ,WW,Ze,reduceCtorEq,Nat.reduceAdd,Nat.reduceMul,Nat.reduceLeDiff,Nat.reduceLT,Nat.reduceEqDiff]
  simp only [ZZ,WW,Ze,reduceCtorEq,Nat.reduceAdd,Nat.reduceMul,Nat.reduceLeDiff,Nat.reduceLT,Nat.reduceEqDiff,hg,itE_len,n1]
  refine ⟨fun h=>h.elim,fun h=>h.elim,?_⟩
  refine cut_same zE_ ?_
  simp only [ZZ,WW,Ze,reduceCtorEq,Nat.reduceAdd,Nat.reduceMul,Nat.reduceLeDiff,Nat.reduceLT,Nat.reduceEqDiff]
  rfl
 ·obtain ⟨j,y,hj,hy,hy1,hy2,hpj⟩:=hp.b6.resolve_left hq
  have hpl:plF il x.2.2.2.2.2.1=(j:Nat):=by rw [hpj];exact plF_pid hP hy
  have hjl:=(List.getElem?_eq_some_iff.1 hy).1
  have hgy:=itE_get hy
  simp only [itC] at hgy
  have hq2:decide (x.2.2.2.2.2.1=[])=false:=by simpa using hq
  have hy3:decide (y.2.2.2.2.2.1=[])=true:=by simpa using hy1
  rw [upF,if_neg hq,hpl]
  refine loop_intro (fun n fr L=>n=0∧fr=[.p (.sl 7 (itE il)),.p (int (i:Nat)),oo,oo,oo,oo,.row (.l 6),.p (int (j:Nat)),oo,oo,oo,oo,oo,oo,oo,oo,oo,oo,oo,oo,oo,oo,oo,oo,oo,oo,oo,oo,oo,oo,oo,oo,oo,oo,oo,oo,oo,oo,oo,oo,oo,oo,oo,oo,oo,oo,oo,oo,oo]∧L=[(.l 6,.row [] 3 1 true)]) 0 [.p (.sl 7 (itE il)),.p (int (i:Nat)),oo,oo,oo,oo,.row (.l 6),.p (int (j:Nat)),oo,oo,oo,oo,oo,oo,oo,oo,oo,oo,oo,oo,oo,oo,oo,oo,oo,oo,oo,oo,oo,oo,oo,oo,oo,oo,oo,oo,oo,oo,oo,oo,oo,oo,oo,oo,oo,oo,oo,oo,oo] [(.l 6,.row [] 3 1 true)] (by (simp only [ZZ,WW,Ze,reduceCtorEq,Nat.reduceAdd,Nat.reduceMul,Nat.reduceLeDiff,Nat.reduceLT,Nat.reduceEqDiff];try trivial)) zE_ ⟨rfl,rfl,rfl⟩ ?_
  rintro n fr L ⟨rfl,rfl,rfl⟩
  have p1:decide ((0:Int)≤((j:Nat):Int))=true:=by rw [decide_eq_true_eq];omega
  simp only [ir_chaseref2_above_L0,ZZ,WW,Ze,reduceCtorEq,Nat.reduceAdd,Nat.reduceMul,Nat.reduceLeDiff,Nat.reduceLT,Nat.reduceEqDiff]
  simp only [ZZ,WW,Ze,reduceCtorEq,Nat.reduceAdd,Nat.reduceMul,Nat.reduceLeDiff,Nat.reduceLT,Nat.reduceEqDiff,hg,hgy,itE_len,hq2,hy3,p1]
  ((repeat' (with_reducible apply And.intro))<;>try ((exact sc_)))
  refine br (fun h=>by have:=of_decide_eq_true h;omega) ?_
  intro _
  simp only [ZZ,WW,Ze,reduceCtorEq,Nat.reduceAdd,Nat.reduceMul,Nat.reduceLeDiff,Nat.reduceLT,Nat.reduceEqDiff,hg,hgy,itE_len,hq2,hy3,p1]
  ((repeat' (with_reducible apply And.intro))<;>try ((exact sc_)))
  refine cut_same zE_ ?_
  simp only [ZZ,WW,Ze,reduceCtorEq,Nat.reduceAdd,Nat.reduceMul,Nat.reduceLeDiff,Nat.reduceLT,Nat.reduceEqDiff]
  rfl
theorem returns_ok (il:List Itm) (hP:PapOk il) (i:Nat) (x:Itm) (hx:il[i]?=some x):PCall Tryz.prog E 214 [.sl 7 (itE il),int (i:Nat)] (·=.bool false):=by
 have hp:=hP.2 i x hx
 have h20:=hP.1
 refine pcallF mixed Tryz.func214 ck_chaseref2_returns ?_
 simp only [a0,l0,OS.ao,List.map_cons,List.map_nil,List.length_cons,List.length_nil,List.cons_append,List.nil_append,Nat.reduceSub,Nat.reduceAdd,List.replicate_succ,List.replicate_zero,ir_chaseref2_returns,rs_chaseref2_returns,ZZ,WW,Ze,reduceCtorEq,Nat.reduceAdd,Nat.reduceMul,Nat.reduceLeDiff,Nat.reduceLT,Nat.reduceEqDiff]
 refine use1 (above2_ok il hP i x hx) rfl (.inl rfl) ?_
 simp only [ZZ,WW,Ze,reduceCtorEq,Nat.reduceAdd,Nat.reduceMul,Nat.reduceLeDiff,Nat.reduceLT,Nat.reduceEqDiff]
 have hul:(upF il x).length≤1:=by unfold upF;split<;>simp
 refine use1 (ContainsI_ok (upF il x) (i:Nat) (by omega)) rfl (.inl rfl) ?_
 simp only [ZZ,WW,Ze,reduceCtorEq,Nat.reduceAdd,Nat.reduceMul,Nat.reduceLeDiff,Nat.reduceLT,Nat.reduceEqDiff]
 have:((i:Nat):Int)∉upF il x:=by
  unfold upF
  split
  ·simp
  ·rename_i hq
   obtain ⟨j,y,hj,hy,hy1,hy2,hpj⟩:=hp.b6.resolve_left hq
   rw [hpj,plF_pid hP hy,List.mem_singleton]
   omega
 rw [decide_eq_false this]
theorem treeFault_ok (il:List Itm) (hP:PapOk il):PCall Tryz.prog E 152 [.sl 7 (itE il)] (·=int 0):=by
 have h20:=hP.1
 refine pcallF mixed Tryz.func152 ck_chaseref2_treeFault ?_
 simp only [a0,l0,OS.ao,List.map_cons,List.map_nil,List.length_cons,List.length_nil,List.cons_append,List.nil_append,Nat.reduceSub,Nat.reduceAdd,List.replicate_succ,List.replicate_zero,ir_chaseref2_treeFault,rs_chaseref2_treeFault,ZZ,WW,Ze,reduceCtorEq,Nat.reduceAdd,Nat.reduceMul,Nat.reduceLeDiff,Nat.reduceLT,Nat.reduceEqDiff]
 simp only [ZZ,WW,Ze,reduceCtorEq,Nat.reduceAdd,Nat.reduceMul,Nat.reduceLeDiff,Nat.reduceLT,Nat.reduceEqDiff,itE_len]
 refine loop_intro (fun n fr L=>∃ (k:Nat),k≤il.length∧n=il.length - k∧fr=[.p (.sl 7 (itE il)),oo,oo,oo,oo,oo,oo,oo,oo,.p (int (il.length:Nat)),.p (int (k:Nat)),oo,oo,oo,oo,oo,oo,oo,oo,oo,oo,oo,oo,oo,oo,oo,oo,oo,oo,oo,oo,oo,oo,oo,oo,oo,oo,oo,oo,oo,oo,oo,oo,oo,oo,oo,oo,oo,oo,oo,oo,oo,oo,oo,oo,oo,oo,oo,oo,oo,oo,oo,oo,oo,oo]∧L=[]) (il.length) [.p (.sl 7 (itE il)),oo,oo,oo,oo,oo,oo,oo,oo,.p (int (il.length:Nat)),.p (int (0:Nat)),oo,oo,oo,oo,oo,oo,oo,oo,oo,oo,oo,oo,oo,oo,oo,oo,oo,oo,oo,oo,oo,oo,oo,oo,oo,oo,oo,oo,oo,oo,oo,oo,oo,oo,oo,oo,oo,oo,oo,oo,oo,oo,oo,oo,oo,oo,oo,oo,oo,oo,oo,oo,oo,oo] [] (by simp only [ZZ,WW,Ze,reduceCtorEq,Nat.reduceAdd,Nat.reduceMul,Nat.reduceLeDiff,Nat.reduceLT,Nat.reduceEqDiff,itE_len];try trivial) (by (simp only [ZZ,WW,Ze,reduceCtorEq,Nat.reduceAdd,Nat.reduceMul,Nat.reduceLeDiff,Nat.reduceLT,Nat.reduceEqDiff];try trivial)) ⟨0,by omega,by omega,rfl,rfl⟩ ?_
 rintro n fr L ⟨k,hk,rfl,rfl,rfl⟩
 simp only [ir_chaseref2_treeFault_L0,ZZ,WW,Ze,reduceCtorEq,Nat.reduceAdd,Nat.reduceMul,Nat.reduceLeDiff,Nat.reduceLT,Nat.reduceEqDiff]
 refine br ?_ ?_
 ·intro h
  have hlt:k < il.length:=by have:=of_decide_eq_true h;omega
  obtain ⟨x,hx⟩:∃ x,il[k]?=some x:=⟨_,List.getElem?_eq_getElem hlt⟩
  simp only [ZZ,WW,Ze,reduceCtorEq,Nat.reduceAdd,Nat.reduceMul,Nat.reduceLeDiff,Nat.reduceLT,Nat.reduceEqDiff]
  refine use1 (returns_ok il hP k x hx) rfl (.inl rfl) ?_
  simp only [ZZ,WW,Ze,reduceCtorEq,Nat.reduceAdd,Nat.reduceMul,Nat.reduceLeDiff,Nat.reduceLT,Nat.reduceEqDiff]
  ((repeat' (with_reducible apply And.intro))<;>try ((exact sc_)))
  refine end_round (il.length - (k+1)) [.p (.sl 7 (itE il)),oo,oo,oo,oo,oo,oo,oo,oo,.p (int (il.length:Nat)),.p (int ((k+1):Nat)),oo,oo,oo,oo,oo,oo,oo,oo,oo,oo,oo,oo,oo,oo,oo,oo,oo,oo,oo,oo,oo,oo,oo,oo,oo,oo,oo,oo,oo,oo,oo,oo,oo,oo,oo,oo,oo,oo,oo,oo,oo,oo,oo,oo,oo,oo,oo,oo,oo,oo,oo,oo,oo,oo] [] (by omega) (by (simp only [ZZ,WW,Ze,reduceCtorEq,Nat.reduceAdd,Nat.reduceMul,Nat.reduceLeDiff,Nat.reduceLT,Nat.reduceEqDiff];try trivial)) (by (simp only [ZZ,WW,Ze,reduceCtorEq,Nat.reduceAdd,Nat.reduceMul,Nat.reduceLeDiff,Nat.reduceLT,Nat.reduceEqDiff];try trivial)) ⟨k+1,by omega,rfl,rfl,rfl⟩
 intro h
 clear h
 simp only [ZZ,WW,Ze,reduceCtorEq,Nat.reduceAdd,Nat.reduceMul,Nat.reduceLeDiff,Nat.reduceLT,Nat.reduceEqDiff,itE_len]
 refine loop_intro (fun n fr L=>∃ (k:Nat),k≤il.length∧n=il.length - k∧fr=[.p (.sl 7 (itE il)),oo,oo,oo,oo,oo,oo,oo,oo,oo,oo,oo,oo,oo,oo,oo,oo,oo,.p (int (il.length:Nat)),.p (int (k:Nat)),oo,oo,oo,oo,oo,oo,oo,oo,oo,oo,oo,oo,oo,oo,oo,oo,oo,oo,oo,oo,oo,oo,oo,oo,oo,oo,oo,oo,oo,oo,oo,oo,oo,oo,oo,oo,oo,oo,oo,oo,oo,oo,oo,oo,oo]∧L=[]) (il.length) [.p (.sl 7 (itE il)),oo,oo,oo,oo,oo,oo,oo,oo,oo,oo,oo,oo,oo,oo,oo,oo,oo,.p (int (il.length:Nat)),.p (int (0:Nat)),oo,oo,oo,oo,oo,oo,oo,oo,oo,oo,oo,oo,oo,oo,oo,oo,oo,oo,oo,oo,oo,oo,oo,oo,oo,oo,oo,oo,oo,oo,oo,oo,oo,oo,oo,oo,oo,oo,oo,oo,oo,oo,oo,oo,oo] [] (by simp only [ZZ,WW,Ze,reduceCtorEq,Nat.reduceAdd,Nat.reduceMul,Nat.reduceLeDiff,Nat.reduceLT,Nat.reduceEqDiff,itE_len];try trivial) (by (simp only [ZZ,WW,Ze,reduceCtorEq,Nat.reduceAdd,Nat.reduceMul,Nat.reduceLeDiff,Nat.reduceLT,Nat.reduceEqDiff];try trivial)) ⟨0,by omega,by omega,rfl,rfl⟩ ?_
 rintro n fr L ⟨k,hk,rfl,rfl,rfl⟩
 simp only [ir_chaseref2_treeFault_L1,ZZ,WW,Ze,reduceCtorEq,Nat.reduceAdd,Nat.reduceMul,Nat.reduceLeDiff,Nat.reduceLT,Nat.reduceEqDiff]
 refine br ?_ ?_
 ·intro h
  have hlt:k < il.length:=by have:=of_decide_eq_true h;omega
  obtain ⟨x,hx⟩:∃ x,il[k]?=some x:=⟨_,List.getElem?_eq_getElem hlt⟩
  have hp:=hP.2 k x hx
  have hg:=itE_get hx
  have hul:(upF il x).length≤1:=by unfold upF;split<;>simp
  have hul4:decide ((4:Int) < ((upF il x).length:Nat))=false:=by rw [decide_eq_false_iff_not];omega
  simp only [itC] at hg
  simp only [ZZ,WW,Ze,reduceCtorEq,Nat.reduceAdd,Nat.reduceMul,Nat.reduceLeDiff,Nat.reduceLT,Nat.reduceEqDiff,hg,itE_len]
  ((repeat' (with_reducible apply And.intro))<;>try ((exact sc_)))
  refine use1 (place_ok il x.2.2.2.2.2.1 (by omega)) rfl (.inl rfl) ?_
  by_cases hq:x.2.2.2.2.2.1=[]
  ·have hq2:decide (x.2.2.2.2.2.1=[])=true:=by simpa using hq
   have hpl:plF il x.2.2.2.2.2.1=-1:=by rw [hq];exact plF_nil hP
   have n1:decide ((0:Int)≤-1)=false:=rfl
   rw [hpl]
   have n2:(-1:Int).toNat=0:=rfl
   obtain ⟨x0,hx0⟩:∃ x0,il[0]?=some x0:=⟨_,List.getElem?_eq_getElem (by omega)⟩
   have hg0:=itE_get hx0
   simp only [itC] at hg0
   simp only [ZZ,WW,Ze,reduceCtorEq,Nat.reduceAdd,Nat.reduceMul,Nat.reduceLeDiff,Nat.reduceLT,Nat.reduceEqDiff,hg,hg0,itE_len,hq2,n1,n2]
   ((repeat' (with_reducible apply And.intro))<;>try ((exact sc_)))
   refine use1 (above2_ok il hP k x hx) rfl (.inl rfl) ?_
   simp only [ZZ,WW,Ze,reduceCtorEq,Nat.reduceAdd,Nat.reduceMul,Nat.reduceLeDiff,Nat.reduceLT,Nat.reduceEqDiff,ixE_len,hul4]
   ((repeat' (with_reducible apply And.intro))<;>try ((exact sc_)))
   refine end_round (il.length - (k+1)) [.p (.sl 7 (itE il)),oo,oo,oo,oo,oo,oo,oo,oo,oo,oo,oo,oo,oo,oo,oo,oo,oo,.p (int (il.length:Nat)),.p (int ((k+1):Nat)),oo,oo,oo,oo,oo,oo,oo,oo,oo,oo,oo,oo,oo,oo,oo,oo,oo,oo,oo,oo,oo,oo,oo,oo,oo,oo,oo,oo,oo,oo,oo,oo,oo,oo,oo,oo,oo,oo,oo,oo,oo,oo,oo,oo,oo] [] (by omega) (by (simp only [ZZ,WW,Ze,reduceCtorEq,Nat.reduceAdd,Nat.reduceMul,Nat.reduceLeDiff,Nat.reduceLT,Nat.reduceEqDiff];try trivial)) (by (simp only [ZZ,WW,Ze,reduceCtorEq,Nat.reduceAdd,Nat.reduceMul,Nat.reduceLeDiff,Nat.reduceLT,Nat.reduceEqDiff];try trivial)) ⟨k+1,by omega,rfl,rfl,rfl⟩
  ·have hq2:decide (x.2.2.2.2.2.1=[])=false:=by simpa using hq
   obtain ⟨j,y,hj,hy,hy1,hy2,hpj⟩:=hp.b6.resolve_left hq
   have hpl:plF il x.2.2.2.2.2.1=(j:Nat):=by rw [hpj];exact plF_pid hP hy
   have hgy:=itE_get hy
   simp only [itC] at hgy
   have p1:decide ((0:Int)≤((j:Nat):Int))=true:=by rw [decide_eq_true_eq];omega
   rw [hpl]
   rcases hy2 with h1|h1
   ·have h2:decide (y.2.2.1=1)=true:=by simpa using h1
    simp only [ZZ,WW,Ze,reduceCtorEq,Nat.reduceAdd,Nat.reduceMul,Nat.reduceLeDiff,Nat.reduceLT,Nat.reduceEqDiff,hg,hgy,itE_len,hq2,p1,h2]
    ((repeat' (with_reducible apply And.intro))<;>try ((exact sc_)))
    refine use1 (above2_ok il hP k x hx) rfl (.inl rfl) ?_
    simp only [ZZ,WW,Ze,reduceCtorEq,Nat.reduceAdd,Nat.reduceMul,Nat.reduceLeDiff,Nat.reduceLT,Nat.reduceEqDiff,ixE_len,hul4]
    ((repeat' (with_reducible apply And.intro))<;>try ((exact sc_)))
    refine end_round (il.length - (k+1)) [.p (.sl 7 (itE il)),oo,oo,oo,oo,oo,oo,oo,oo,oo,oo,oo,oo,oo,oo,oo,oo,oo,.p (int (il.length:Nat)),.p (int ((k+1):Nat)),oo,oo,oo,oo,oo,oo,oo,oo,oo,oo,oo,oo,oo,oo,oo,oo,oo,oo,oo,oo,oo,oo,oo,oo,oo,oo,oo,oo,oo,oo,oo,oo,oo,oo,oo,oo,oo,oo,oo,oo,oo,oo,oo,oo,oo] [] (by omega) (by (simp only [ZZ,WW,Ze,reduceCtorEq,Nat.reduceAdd,Nat.reduceMul,Nat.reduceLeDiff,Nat.reduceLT,Nat.reduceEqDiff];try trivial)) (by (simp only [ZZ,WW,Ze,reduceCtorEq,Nat.reduceAdd,Nat.reduceMul,Nat.reduceLeDiff,Nat.reduceLT,Nat.reduceEqDiff];try trivial)) ⟨k+1,by omega,rfl,rfl,rfl⟩
   ·have h2:decide (y.2.2.1=1)=false:=by rw [h1];rfl
    have h3:decide (y.2.2.1=3)=true:=by simpa using h1
    simp only [ZZ,WW,Ze,reduceCtorEq,Nat.reduceAdd,Nat.reduceMul,Nat.reduceLeDiff,Nat.reduceLT,Nat.reduceEqDiff,hg,hgy,itE_len,hq2,p1,h2,h3]
    ((repeat' (with_reducible apply And.intro))<;>try ((exact sc_)))
    refine use1 (above2_ok il hP k x hx) rfl (.inl rfl) ?_
    simp only [ZZ,WW,Ze,reduceCtorEq,Nat.reduceAdd,Nat.reduceMul,Nat.reduceLeDiff,Nat.reduceLT,Nat.reduceEqDiff,ixE_len,hul4]
    ((repeat' (with_reducible apply And.intro))<;>try ((exact sc_)))
    refine end_round (il.length - (k+1)) [.p (.sl 7 (itE il)),oo,oo,oo,oo,oo,oo,oo,oo,oo,oo,oo,oo,oo,oo,oo,oo,oo,.p (int (il.length:Nat)),.p (int ((k+1):Nat)),oo,oo,oo,oo,oo,oo,oo,oo,oo,oo,oo,oo,oo,oo,oo,oo,oo,oo,oo,oo,oo,oo,oo,oo,oo,oo,oo,oo,oo,oo,oo,oo,oo,oo,oo,oo,oo,oo,oo,oo,oo,oo,oo,oo,oo] [] (by omega) (by (simp only [ZZ,WW,Ze,reduceCtorEq,Nat.reduceAdd,Nat.reduceMul,Nat.reduceLeDiff,Nat.reduceLT,Nat.reduceEqDiff];try trivial)) (by (simp only [ZZ,WW,Ze,reduceCtorEq,Nat.reduceAdd,Nat.reduceMul,Nat.reduceLeDiff,Nat.reduceLT,Nat.reduceEqDiff];try trivial)) ⟨k+1,by omega,rfl,rfl,rfl⟩
 intro h
 simp only [ZZ,WW,Ze,reduceCtorEq,Nat.reduceAdd,Nat.reduceMul,Nat.reduceLeDiff,Nat.reduceLT,Nat.reduceEqDiff]
end
theorem pid_le2:∀ i j:Fin 26,i < j→(bytesLess (pid j.val) (pid i.val) || decide (pid j.val=pid i.val))=false:=by decide +kernel
theorem pid_le0:∀ j:Fin 26,(bytesLess (pid j.val) [] || decide (pid j.val=[]))=false:=by decide +kernel
set_option maxRecDepth 100000 in
theorem ItemsFault_ok (il:List Itm) (hP:PapOk il):PCall Tryz.prog E0 71 [.sl 7 (itE il)] (·=int 0):=by
 have h20:=hP.1
 refine pcallF mixed Tryz.func71 ck_chaseref2_ItemsFault ?_
 simp only [a0,l0,OS.ao,List.map_cons,List.map_nil,List.length_cons,List.length_nil,List.cons_append,List.nil_append,Nat.reduceSub,Nat.reduceAdd,List.replicate_succ,List.replicate_zero,ir_chaseref2_ItemsFault,rs_chaseref2_ItemsFault,ZZ,WW,Ze,reduceCtorEq,Nat.reduceAdd,Nat.reduceMul,Nat.reduceLeDiff,Nat.reduceLT,Nat.reduceEqDiff]
 have h2000:decide (2000 < (il.length:Int))=false:=by rw [decide_eq_false_iff_not];omega
 simp only [ZZ,WW,Ze,reduceCtorEq,Nat.reduceAdd,Nat.reduceMul,Nat.reduceLeDiff,Nat.reduceLT,Nat.reduceEqDiff,itE_len,h2000]
 refine loop_intro (fun n fr L=>∃ (k:Nat) (s:List UInt8),k≤il.length∧n=il.length - k∧((k=0∧s=[])∨∃ q,k=q+1∧s=pid q)∧fr=[.p (.sl 7 (itE il)),oo,oo,.p (.str s),oo,oo,oo,oo,oo,oo,oo,oo,.p (.sl 7 (itE il)),.p (int (il.length:Nat)),.p (int (k:Nat)),oo,oo,oo,oo,oo,oo,oo,oo,oo,oo,oo,oo,oo,oo,oo,oo,oo,oo,oo,oo,oo,oo,oo,oo,oo,oo,oo,oo,oo,oo,oo,oo,oo,oo]∧L=[]) (il.length) [.p (.sl 7 (itE il)),oo,oo,.p (.str []),oo,oo,oo,oo,oo,oo,oo,oo,.p (.sl 7 (itE il)),.p (int (il.length:Nat)),.p (int (0:Nat)),oo,oo,oo,oo,oo,oo,oo,oo,oo,oo,oo,oo,oo,oo,oo,oo,oo,oo,oo,oo,oo,oo,oo,oo,oo,oo,oo,oo,oo,oo,oo,oo,oo,oo] [] (by simp only [ZZ,WW,Ze,reduceCtorEq,Nat.reduceAdd,Nat.reduceMul,Nat.reduceLeDiff,Nat.reduceLT,Nat.reduceEqDiff,itE_len];try trivial) (by (simp only [ZZ,WW,Ze,reduceCtorEq,Nat.reduceAdd,Nat.reduceMul,Nat.reduceLeDiff,Nat.reduceLT,Nat.reduceEqDiff];try trivial)) ⟨0,[],by omega,by omega,.inl ⟨rfl,rfl⟩,rfl,rfl⟩ ?_
 rintro n fr L ⟨k,s,hk,rfl,hs,rfl,rfl⟩
 simp only [ir_chaseref2_ItemsFault_L0,ZZ,WW,Ze,reduceCtorEq,Nat.reduceAdd,Nat.reduceMul,Nat.reduceLeDiff,Nat.reduceLT,Nat.reduceEqDiff]
 refine br ?_ ?_
 ·intro h
  have hlt:k < il.length:=by have:=of_decide_eq_true h;omega
  obtain ⟨x,hx⟩:∃ x,il[k]?=some x:=⟨_,List.getElem?_eq_getElem hlt⟩
  have hg:=itE_get hx
  obtain ⟨hz,hS⟩:=(hP.2 k x hx).right (by omega)
  have hci:=ItemFault_ok x hS
  rw [hz] at hci
  have hb1:=(hP.2 k x hx).b1
  have hle:(bytesLess x.1 s || decide (x.1=s))=false:=by
   rw [hb1]
   rcases hs with ⟨_,rfl⟩|⟨q,hq,rfl⟩
   ·exact pid_le0 ⟨k,by omega⟩
   ·exact pid_le2 ⟨q,by omega⟩ ⟨k,by omega⟩ (by simp [Fin.lt_def];omega)
  simp only [itC] at hg hci
  simp only [ZZ,WW,Ze,reduceCtorEq,Nat.reduceAdd,Nat.reduceMul,Nat.reduceLeDiff,Nat.reduceLT,Nat.reduceEqDiff,hg,itE_len]
  ((repeat' (with_reducible apply And.intro))<;>try ((exact sc_)))
  refine use1 hci rfl (.inl rfl) ?_
  simp only [ZZ,WW,Ze,reduceCtorEq,Nat.reduceAdd,Nat.reduceMul,Nat.reduceLeDiff,Nat.reduceLT,Nat.reduceEqDiff,hle]
  refine br (fun h=>by simp at h) ?_
  intro _
  simp only [ZZ,WW,Ze,reduceCtorEq,Nat.reduceAdd,Nat.reduceMul,Nat.reduceLeDiff,Nat.reduceLT,Nat.reduceEqDiff,hle]
  ((repeat' (with_reducible apply And.intro))<;>try ((exact sc_)))
  refine end_round (il.length - (k+1)) [.p (.sl 7 (itE il)),oo,oo,.p (.str (x.1)),oo,oo,oo,oo,oo,oo,oo,oo,.p (.sl 7 (itE il)),.p (int (il.length:Nat)),.p (int ((k+1):Nat)),oo,oo,oo,oo,oo,oo,oo,oo,oo,oo,oo,oo,oo,oo,oo,oo,oo,oo,oo,oo,oo,oo,oo,oo,oo,oo,oo,oo,oo,oo,oo,oo,oo,oo] [] (by omega) (by (simp only [ZZ,WW,Ze,reduceCtorEq,Nat.reduceAdd,Nat.reduceMul,Nat.reduceLeDiff,Nat.reduceLT,Nat.reduceEqDiff];try trivial)) (by (simp only [ZZ,WW,Ze,reduceCtorEq,Nat.reduceAdd,Nat.reduceMul,Nat.reduceLeDiff,Nat.reduceLT,Nat.reduceEqDiff];try trivial)) ⟨k+1,x.1,by omega,rfl,.inr ⟨k,rfl,hb1⟩,rfl,rfl⟩
 intro h
 clear h
 simp only [ZZ,WW,Ze,reduceCtorEq,Nat.reduceAdd,Nat.reduceMul,Nat.reduceLeDiff,Nat.reduceLT,Nat.reduceEqDiff,itE_len]
 refine loop_intro (fun n fr L=>∃ (k:Nat),k≤il.length∧n=il.length - k∧fr=[.p (.sl 7 (itE il)),oo,oo,oo,oo,oo,oo,oo,oo,oo,oo,oo,oo,oo,oo,oo,oo,oo,oo,oo,oo,oo,oo,oo,oo,oo,oo,oo,oo,oo,.p (.sl 7 (itE il)),.p (int (il.length:Nat)),.p (int (k:Nat)),oo,oo,oo,oo,oo,oo,oo,oo,oo,oo,oo,oo,oo,oo,oo,oo]∧L=[]) (il.length) [.p (.sl 7 (itE il)),oo,oo,oo,oo,oo,oo,oo,oo,oo,oo,oo,oo,oo,oo,oo,oo,oo,oo,oo,oo,oo,oo,oo,oo,oo,oo,oo,oo,oo,.p (.sl 7 (itE il)),.p (int (il.length:Nat)),.p (int (0:Nat)),oo,oo,oo,oo,oo,oo,oo,oo,oo,oo,oo,oo,oo,oo,oo,oo] [] (by simp only [ZZ,WW,Ze,reduceCtorEq,Nat.reduceAdd,Nat.reduceMul,Nat.reduceLeDiff,Nat.reduceLT,Nat.reduceEqDiff,itE_len];try trivial) (by (simp only [ZZ,WW,Ze,reduceCtorEq,Nat.reduceAdd,Nat.reduceMul,Nat.reduceLeDiff,Nat.reduceLT,Nat.reduceEqDiff];try trivial)) ⟨0,by omega,by omega,rfl,rfl⟩ ?_
 rintro n fr L ⟨k,hk,rfl,rfl,rfl⟩
 simp only [ir_chaseref2_ItemsFault_L1,ZZ,WW,Ze,reduceCtorEq,Nat.reduceAdd,Nat.reduceMul,Nat.reduceLeDiff,Nat.reduceLT,Nat.reduceEqDiff]
 refine br ?_ ?_
 ·intro h
  have hlt:k < il.length:=by have:=of_decide_eq_true h;omega
  obtain ⟨x,hx⟩:∃ x,il[k]?=some x:=⟨_,List.getElem?_eq_getElem hlt⟩
  have hp:=hP.2 k x hx
  have hg:=itE_get hx
  simp only [itC] at hg
  by_cases hq:x.2.2.2.2.2.1=[]
  ·have hq2:decide (x.2.2.2.2.2.1=[])=true:=by simpa using hq
   simp only [ZZ,WW,Ze,reduceCtorEq,Nat.reduceAdd,Nat.reduceMul,Nat.reduceLeDiff,Nat.reduceLT,Nat.reduceEqDiff,hg,itE_len,hq2]
   ((repeat' (with_reducible apply And.intro))<;>try ((exact sc_)))
   refine useG (r:=int 0) (fun h=>by cases h) rfl (.inl rfl) ?_
   simp only [ZZ,WW,Ze,reduceCtorEq,Nat.reduceAdd,Nat.reduceMul,Nat.reduceLeDiff,Nat.reduceLT,Nat.reduceEqDiff]
   ((repeat' (with_reducible apply And.intro))<;>try ((exact sc_)))
   refine end_round (il.length - (k+1)) [.p (.sl 7 (itE il)),oo,oo,oo,oo,oo,oo,oo,oo,oo,oo,oo,oo,oo,oo,oo,oo,oo,oo,oo,oo,oo,oo,oo,oo,oo,oo,oo,oo,oo,.p (.sl 7 (itE il)),.p (int (il.length:Nat)),.p (int ((k+1):Nat)),oo,oo,oo,oo,oo,oo,oo,oo,oo,oo,oo,oo,oo,oo,oo,oo] [] (by omega) (by (simp only [ZZ,WW,Ze,reduceCtorEq,Nat.reduceAdd,Nat.reduceMul,Nat.reduceLeDiff,Nat.reduceLT,Nat.reduceEqDiff];try trivial)) (by (simp only [ZZ,WW,Ze,reduceCtorEq,Nat.reduceAdd,Nat.reduceMul,Nat.reduceLeDiff,Nat.reduceLT,Nat.reduceEqDiff];try trivial)) ⟨k+1,by omega,rfl,rfl,rfl⟩
  ·have hq2:decide (x.2.2.2.2.2.1=[])=false:=by simpa using hq
   obtain ⟨j,y,hj,hy,hy1,hy2,hpj⟩:=hp.b6.resolve_left hq
   have hpl:plF il x.2.2.2.2.2.1=(j:Nat):=by rw [hpj];exact plF_pid hP hy
   have n1:decide (((j:Nat):Int) < 0)=false:=by rw [decide_eq_false_iff_not];omega
   simp only [ZZ,WW,Ze,reduceCtorEq,Nat.reduceAdd,Nat.reduceMul,Nat.reduceLeDiff,Nat.reduceLT,Nat.reduceEqDiff,hg,itE_len,hq2]
   ((repeat' (with_reducible apply And.intro))<;>try ((exact sc_)))
   refine useG (fun _=>place_ok il x.2.2.2.2.2.1 (by omega)) rfl (.inl rfl) ?_
   rw [hpl]
   simp only [ZZ,WW,Ze,reduceCtorEq,Nat.reduceAdd,Nat.reduceMul,Nat.reduceLeDiff,Nat.reduceLT,Nat.reduceEqDiff,n1]
   ((repeat' (with_reducible apply And.intro))<;>try ((exact sc_)))
   refine end_round (il.length - (k+1)) [.p (.sl 7 (itE il)),oo,oo,oo,oo,oo,oo,oo,oo,oo,oo,oo,oo,oo,oo,oo,oo,oo,oo,oo,oo,oo,oo,oo,oo,oo,oo,oo,oo,oo,.p (.sl 7 (itE il)),.p (int (il.length:Nat)),.p (int ((k+1):Nat)),oo,oo,oo,oo,oo,oo,oo,oo,oo,oo,oo,oo,oo,oo,oo,oo] [] (by omega) (by (simp only [ZZ,WW,Ze,reduceCtorEq,Nat.reduceAdd,Nat.reduceMul,Nat.reduceLeDiff,Nat.reduceLT,Nat.reduceEqDiff];try trivial)) (by (simp only [ZZ,WW,Ze,reduceCtorEq,Nat.reduceAdd,Nat.reduceMul,Nat.reduceLeDiff,Nat.reduceLT,Nat.reduceEqDiff];try trivial)) ⟨k+1,by omega,rfl,rfl,rfl⟩
 intro h
 clear h
 simp only [ZZ,WW,Ze,reduceCtorEq,Nat.reduceAdd,Nat.reduceMul,Nat.reduceLeDiff,Nat.reduceLT,Nat.reduceEqDiff]
 refine use1 (treeFault_ok il hP) rfl (.inl rfl) ?_
 simp only [ZZ,WW,Ze,reduceCtorEq,Nat.reduceAdd,Nat.reduceMul,Nat.reduceLeDiff,Nat.reduceLT,Nat.reduceEqDiff]
end Go.Proofs.YtehfjlpenlffmaaGreatDoor
