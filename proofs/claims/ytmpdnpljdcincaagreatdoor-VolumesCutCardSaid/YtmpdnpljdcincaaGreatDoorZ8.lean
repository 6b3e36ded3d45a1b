import Derived.Test.YtmpdnpljdcincaaGreatDoorZ7
import Derived.Test.YtmpdnpljdcincaaGreatDoorSpec
import Derived.Lib.Join
import Derived.Shelf.Small.Utf8
import Derived.BigQuiet
import Derived.WalkMore
import Derived.Deep.QuietTactic
import Derived.Shelf.RegionOpenPlain
import Derived.Laws.Runes
import Derived.Laws.RangeString
import Derived.Lib.IndexBytes
import Derived.Laws.Strings3
import Derived.Test.YtmpdnpljdcincaaGreatDoorLaySplit
import Derived.Lib.SplitLaws
import Derived.Test.YtmpdnpljdcincaaGreatDoorLayIndexAny
import Derived.Test.YtmpdnpljdcincaaGreatDoorLayTrim
import Derived.Test.YtmpdnpljdcincaaGreatDoorLayTrimLeft
import Derived.Test.YtmpdnpljdcincaaGreatDoorLayCompare
import Derived.Test.YtmpdnpljdcincaaGreatDoorLayItoa
import Derived.Test.YtmpdnpljdcincaaGreatDoorLayAtoi
import Derived.Lib.AtoiErrMem
import Derived.Shelf.Strconv.Atoi
set_option linter.unusedVariables false
set_option linter.unusedSimpArgs false
set_option linter.defProp false
namespace Go.Proofs.YtmpdnpljdcincaaGreatDoor
open Nat renaming reduceAdd→zd,reduceEqDiff→za,reduceLT→zf,reduceLeDiff→zb,reduceMul→ze
open List renaming append_assoc→yh,append_nil→z6,getD→zu,length_append→zp,map_append→zF,map_cons→zx,map_nil→yr
open Bool renaming and_eq_true→zj,false_and→yn,true_and→yc
open Go.RowKit
abbrev qnv:IC:=(sR [qO 2 (.mov (.c (.bool false)))] (sR [qM 3 0,qB 4 .geq 3 (.c (.int .u8 48)),qM 5 4,⟨some 6,.mov (.t 0),(some (5,true))⟩,⟨some 7,.bin .leq (.t 6) (.c (.int .u8 57)),(some (5,true))⟩,qO 8 (.pick (.t 5) (.t 7) (.c (.bool false))),qM 2 8] .ret))
theorem qnO:chkF Tryz.prog Tryz.f126 qnv [.t 2] 9=true:=by kernel_rfl
abbrev qlS:IC:=(sR [qO 2 (.mov (.c (.bool false)))] (sR [qM 3 0,qB 4 .geq 3 (.c (.int .u8 97)),qM 5 4,⟨some 6,.mov (.t 0),(some (5,true))⟩,⟨some 7,.bin .leq (.t 6) (.c (.int .u8 122)),(some (5,true))⟩,qO 8 (.pick (.t 5) (.t 7) (.c (.bool false))),qM 9 8,⟨some 10,.mov (.t 0),(some (9,false))⟩,⟨some 11,.bin .geq (.t 10) (.c (.int .u8 65)),(some (9,false))⟩,⟨some 12,.mov (.t 11),(some (9,false))⟩,⟨some 13,.mov (.t 0),(some (12,true))⟩,⟨some 14,.bin .leq (.t 13) (.c (.int .u8 90)),(some (12,true))⟩,⟨some 15,.pick (.t 12) (.t 14) (.c (.bool false)),(some (9,false))⟩,qO 16 (.pick (.t 9) (.c (.bool true)) (.t 15)),qM 17 16,⟨some 18,.mov (.t 0),(some (17,false))⟩,⟨some 19,.call 126 [.t 18],(some (17,false))⟩,qO 20 (.pick (.t 17) (.c (.bool true)) (.t 19)),qM 21 20,⟨some 22,.mov (.t 0),(some (21,false))⟩,⟨some 23,.bin .geq (.t 22) (.c (.int .u8 128)),(some (21,false))⟩,qO 24 (.pick (.t 21) (.c (.bool true)) (.t 23)),qM 2 24] .ret))
theorem qlV:chkF Tryz.prog Tryz.f135 qlS [.t 2] 25=true:=by kernel_rfl
abbrev qg6:IC:=(sR [qO 2 (.mov (.c (.bool false)))] (sR [qM 3 0,qB 4 .geq 3 (.c (.int .u8 128)),qM 5 4,⟨some 6,.mov (.t 0),(some (5,false))⟩,⟨some 7,.call 182 [.c (.str [97,98,99,100,101,102,103,104,105,106,107,108,109,110,111,112,113,114,115,116,117,118,119,120,121,122,65,66,67,68,69,70,71,72,73,74,75,76,77,78,79,80,81,82,83,84,85,86,87,88,89,90,48,49,50,51,52,53,54,55,56,57]),.t 6],(some (5,false))⟩,⟨some 8,.bin .geq (.t 7) (cI 0),(some (5,false))⟩,qO 9 (.pick (.t 5) (.c (.bool true)) (.t 8)),qM 2 9] .ret))
theorem qhi:chkF Tryz.prog Tryz.f181 qg6 [.t 2] 10=true:=by kernel_rfl
def qgr:IC:=(.seq (sR [qM 7 5,qM 8 0,qO 9 (.sln (.t 8)),qT 10 .leq 7 9] (jE 10)) (.seq (.block 1 (sR [qM 13 5,qM 14 0,qO 15 (.sln (.t 14)),qT 16 .lss 13 15,qM 17 16,⟨some 18,.mov (.t 0),(some (17,true))⟩,⟨some 19,.mov (.t 5),(some (17,true))⟩,⟨some 20,.idx (.t 18) (.t 19),(some (17,true))⟩,⟨some 21,.call 135 [.t 20],(some (17,true))⟩,qO 22 (.pick (.t 17) (.t 21) (.c (.bool false))),qM 6 22] (.seq (sR [qM 23 6,qM 24 23,⟨some 25,.mov (.t 4),(some (24,true))⟩,⟨some 26,.bin .lss (.t 25) (cI 0),(some (24,true))⟩,qO 27 (.pick (.t 24) (.t 26) (.c (.bool false)))] (jW 27 (.reg [qM 28 5,qM 4 28]))) (.cut (sR [qM 29 6,qO 30 (.not (.t 29)),qM 31 30,⟨some 32,.mov (.t 4),(some (31,true))⟩,⟨some 33,.bin .geq (.t 32) (cI 0),(some (31,true))⟩,qO 34 (.pick (.t 31) (.t 33) (.c (.bool false)))] (jW 34 (sR [qM 35 3,qM 36 0,qM 37 4,qM 38 5,qO 39 (.ssl (.t 36) (some (.t 37)) (some (.t 38))),jC 40 136 [.t 39],qO 41 (.bsl 1 [.t 40]),qO 42 (.app 9 1 16 (.t 35) (.t 41)),qM 3 42] (.reg [jI 4 (-1)])))))))) (.cut (.reg [qM 11 5,qB 12 .add 11 (cI 1),qM 5 12]))))
abbrev qnq:IC:=(sR [qO 2 (.mov (.c (.nl 1)))] (sR [qO 3 (.nilr 9 1)] (sR [jI 4 (-1)] (.seq (sR [jI 5 0] (.block 0 (.loop qgr))) (sR [qM 43 3,qM 2 43] .ret)))))
theorem qnJ:chkF Tryz.prog Tryz.f89 qnq [.t 2] 44=true:=by kernel_rfl
def qcw:IC:=(.seq (sR [qM 18 5,qM 19 0,qO 20 (.sln (.t 19)),qT 21 .lss 18 20,qM 22 21,⟨some 23,.mov (.t 0),(some (22,true))⟩,⟨some 24,.mov (.t 5),(some (22,true))⟩,⟨some 25,.idx (.t 23) (.t 24),(some (22,true))⟩,⟨some 26,.call 181 [.t 25],(some (22,true))⟩,qO 27 (.pick (.t 22) (.t 26) (.c (.bool false)))] (.cond (.t 27) .skip (.exit 2))) (.block 3 (.reg [qM 28 5,qB 29 .add 28 (cI 1),qM 5 29])))
def qcx:IC:=(.seq (sR [qM 6 4,qM 7 0,qO 8 (.sln (.t 7)),qT 9 .lss 6 8] (jE 9)) (.seq (.block 1 (.seq (sR [qM 12 0,qM 13 4,qO 14 (.idx (.t 12) (.t 13)),jC 15 181 [.t 14],qO 16 (.not (.t 15))] (jW 16 (.exit 1))) (sR [qM 17 4,qM 5 17] (.seq (.block 2 (.loop qcw)) (sR [qM 30 3,qM 31 4,qM 32 5,qO 33 (.bld [.int .i64 0,.int .i64 0] [(0,1,.t 31),(1,1,.t 32)]),qO 34 (.bsl 2 [.t 33]),qO 35 (.app 166 2 16 (.t 30) (.t 34)),qM 3 35] (.reg [qM 36 5,qM 4 36])))))) (.cut (.reg [qM 10 4,qB 11 .add 10 (cI 1),qM 4 11]))))
abbrev qgA:IC:=(sR [qO 2 (.mov (.c (.nl 2)))] (sR [qO 3 (.nilr 166 2)] (.seq (sR [jI 4 0] (.block 0 (.loop qcx))) (sR [qM 37 3,qM 2 37] .ret))))
theorem qgH:chkF Tryz.prog Tryz.f139 qgA [.t 2] 38=true:=by kernel_rfl
def qda:IC:=(sR [qT 10 .lss 9 8] (.seq (jE 10) (.seq (.block 1 (sR [qX 11 2 7 9,qO 12 (.ld 2 true (.t 11)),qO 5 (.alc 166 [.int .i64 0,.int .i64 0]),qS 2 5 12] (.reg [qM 13 3,qM 14 0,qF 15 0 5,qL 16 15,qF 17 1 5,qL 18 17,qO 19 (.ssl (.t 14) (some (.t 16)) (some (.t 18))),jC 20 140 [.t 19],qO 21 (.bsl 1 [.t 20]),qO 22 (.app 9 1 16 (.t 13) (.t 21)),qM 3 22]))) (.reg [qB 23 .add 9 (cI 1),qM 9 23]))))
abbrev qhM:IC:=(sR [qO 2 (.mov (.c (.nl 1)))] (sR [qO 3 (.nilr 9 1)] (.seq (sR [qM 6 0,jC 7 139 [.t 6],qN 8 7,jI 9 0] (.block 0 (.loop qda))) (sR [qM 24 3,qM 2 24] .ret))))
theorem qhU:chkF Tryz.prog Tryz.f94 qhM [.t 2] 25=true:=by kernel_rfl
abbrev tStr:Nat:=9
def digB (c:UInt8):Bool:=decide (48≤(c.toNat:Int)) && decide ((c.toNat:Int)≤57)
def letB (c:UInt8):Bool:=((decide (97≤(c.toNat:Int)) && decide ((c.toNat:Int)≤122) || decide (65≤(c.toNat:Int)) && decide ((c.toNat:Int)≤90)) || digB c) || decide (128≤(c.toNat:Int))
def qAa:List UInt8:=smallL++capL++[48,49,50,51,52,53,54,55,56,57]
theorem qeG (c:UInt8):letB c=Sp.isLet c:=qgx (p:=fun c=>letB c=Sp.isLet c) (by decide +kernel) c
theorem que (c:UInt8):(decide (128≤(c.toNat:Int)) || decide (0≤Lib.indexByte qAa c))=letB c:=qgx (p:=fun c=>(decide (128≤(c.toNat:Int)) || decide (0≤Lib.indexByte qAa c))=letB c) (by decide +kernel) c
section
variable {E:Envt}
theorem qr9 (c:UInt8):PCall Tryz.prog E 126 [.int .u8 (c.toNat:Nat)] (·=.bool (digB c)):=by
 refine qag mixed Tryz.func126 qnO ?_
 refine zV ?_
 ((with_reducible and_intros)<;>try exact sc_)
theorem qud (c:UInt8):PCall Tryz.prog E 135 [.int .u8 (c.toNat:Nat)] (·=.bool (letB c)):=by
 refine qag mixed Tryz.func135 qlV ?_
 refine zV ?_
 ((with_reducible and_intros)<;>try exact sc_)
 refine useG (fun _=>qr9 c) rfl (.inl rfl) ?_
 refine zS ?_
 ((with_reducible and_intros)<;>try exact sc_)
theorem qkW (c:UInt8):PCall Tryz.prog E 181 [.int .u8 (c.toNat:Nat)] (·=.bool (letB c)):=by
 refine qag mixed Tryz.func181 qhi ?_
 refine zV ?_
 ((with_reducible and_intros)<;>try exact sc_)
 refine useG (fun _=>qki qAa c) rfl (.inl rfl) ?_
 refine zS ?_
 ((with_reducible and_intros)<;>try exact sc_)
 rw [que]
def qvE (t:List UInt8) (p:Nat×Nat):List UInt8:=lowF (Sp.part t p)
def qa2 (t:List UInt8):List (List UInt8):=(Sp.spans t).map (qvE t)
def strE (l:List (List UInt8)):List (List PV):=l.map fun x=>[PV.str x]
theorem qaf (l:List (List UInt8)):(strE l).length=l.length:=by simp [strE]
theorem qeq (l m:List (List UInt8)):strE (l++m)=strE l++strE m:=by simp [strE]
theorem qeD (l:List (List UInt8)):strs l=.sl 1 (strE l):=rfl
theorem qc3 {l:List (List UInt8)} {k:Nat} {x:List UInt8} (h:l[k]?=some x):(strE l).getD k []=[.str x]:=qao h
theorem qrd (x:List UInt8):[[PV.str x]]=strE [x]:=rfl
def qpa (f:Option Nat):Int:=match f with|none=>-1|some a=>(a:Int)
theorem qr6 (t:List UInt8) (ht:t.length≤1000000000):PCall Tryz.prog E 89 [.str t] (·=strs (qa2 t)):=by
 refine qag mixed Tryz.func89 qnJ ?_
 refine zV ?_
 refine qac (fun n fr L=>∃ (i:Nat) (f:Option Nat) (l:List (List UInt8)),t.length+1 - i=n∧(i≤t.length+1)∧(∀ a,f=some a→a < i∧i≤t.length)∧(l.length≤i)∧(l++(Sp.wsp i f (t.drop i)).map (qvE t)=qa2 t)∧fr=(.p (.str t)::oo::oo::.row (.l 3)::.p (int (qpa f))::.p (int (i:Nat))::oF (oC (oB [])))∧L=[(.l 3,.row (strE l) tStr 1 true)]) (t.length+1 - 0) _ _ zF_ zF_ ⟨0,none,[],rfl,by omega,by simp,by simp,rfl,rfl,rfl⟩ ?_
 rintro n fr L ⟨i,f,l,rfl,hi1,hf,hll,hl,rfl,rfl⟩
 simp only [qgr,ZZ,WW,Zd,reduceCtorEq,zd,ze,zb,zf,za]
 refine br ?_ ?_
 ·intro h
  have hle:i≤t.length:=by have:=of_decide_eq_true h;omega
  refine zS ?_
  ((with_reducible and_intros)<;>try exact sc_)
  refine useG (fun _=>qud (t.getD i 0)) rfl (.inl rfl) ?_
  refine zS ?_
  ((with_reducible and_intros)<;>try exact sc_)
  have hin:(decide ((i:Int) < t.length) && letB (t.getD i 0))=true→∃ hh:i < t.length,Sp.isLet t[i]=true:=by
   intro hb
   simp only [zj,decide_eq_true_eq] at hb
   have hh:i < t.length:=by omega
   refine ⟨hh,?_⟩
   rw [← qeG,← hb.2]
   simp [zu,hh]
  have hout:(decide ((i:Int) < t.length) && letB (t.getD i 0))=false→∀ hh:i < t.length,Sp.isLet t[i]=false:=by
   intro hb hh
   rw [show decide ((i:Int) < t.length)=true from by simp [hh],yc] at hb
   rw [← qeG,← hb]
   simp [zu,hh]
  generalize (decide ((i:Int) < t.length) && letB (t.getD i 0))=b at hin hout ⊢
  cases f with
  |none=>
   have e1:decide (qpa none < 0)=true:=by decide
   have e2:decide (0≤qpa none)=false:=by decide
   cases b with
   |true=>
    obtain ⟨hh,hlet⟩:=hin rfl
    have e3:decide (0≤(i:Int))=true:=by simp
    have hnx:=Sp.wsp_let t i none hh _ rfl hlet
    simp only [ZZ,WW,Zd,reduceCtorEq,zd,ze,zb,zf,za,e1,e2,e3,yn]
    refine qaj zE_ ?_
    simp only [ZZ,WW,Zd,reduceCtorEq,zd,ze,zb,zf,za,e1,e2,e3,yn]
    refine qaj zE_ ?_
    refine zS ?_
    ((with_reducible and_intros)<;>try exact sc_)
    refine qab (t.length+1 - (i+1)) _ _ (by omega) zF_ zF_ ⟨i+1,some i,l,rfl,by omega,by intro a ha;cases ha;omega,by omega,by rw [← hl,hnx];rfl,rfl,rfl⟩
   |false=>
    have hnx:Sp.wsp i none (t.drop i)=Sp.wsp (i+1) none (t.drop (i+1)):=by
     by_cases hh:i < t.length
     ·exact Sp.wsp_non t i hh _ rfl (hout rfl hh)
     ·rw [Sp.wsp_out t i (by omega),Sp.wsp_out t (i+1) (by omega)]
    simp only [ZZ,WW,Zd,reduceCtorEq,zd,ze,zb,zf,za,e1,e2,yn]
    refine qaj zE_ ?_
    simp only [ZZ,WW,Zd,reduceCtorEq,zd,ze,zb,zf,za,e1,e2,yn]
    refine qaj zE_ ?_
    refine zS ?_
    ((with_reducible and_intros)<;>try exact sc_)
    refine qab (t.length+1 - (i+1)) _ _ (by omega) zF_ zF_ ⟨i+1,none,l,rfl,by omega,by simp,by omega,by rw [← hl,hnx],rfl,rfl⟩
  |some a=>
   obtain ⟨ha1,ha2⟩:=hf a rfl
   have e1:decide (qpa (some a) < 0)=false:=decide_eq_false (by simp only [qpa];omega)
   have e2:decide (0≤qpa (some a))=true:=decide_eq_true (by simp only [qpa];omega)
   cases b with
   |true=>
    obtain ⟨hh,hlet⟩:=hin rfl
    have hnx:=Sp.wsp_let t i (some a) hh _ rfl hlet
    simp only [ZZ,WW,Zd,reduceCtorEq,zd,ze,zb,zf,za,e1,e2,yn]
    refine qaj zE_ ?_
    simp only [ZZ,WW,Zd,reduceCtorEq,zd,ze,zb,zf,za,e1,e2,yn]
    refine qaj zE_ ?_
    refine zS ?_
    ((with_reducible and_intros)<;>try exact sc_)
    refine qab (t.length+1 - (i+1)) _ _ (by omega) zF_ zF_ ⟨i+1,some a,l,rfl,by omega,by intro q hq;cases hq;omega,by omega,by rw [← hl,hnx];rfl,rfl,rfl⟩
   |false=>
    have hnx:Sp.wsp i (some a) (t.drop i)=(a,i) :: Sp.wsp (i+1) none (t.drop (i+1)):=by
     by_cases hh:i < t.length
     ·exact Sp.wsp_end t i a hh _ rfl (hout rfl hh)
     ·exact Sp.wsp_fin t i a (by omega)
    simp only [ZZ,WW,Zd,reduceCtorEq,zd,ze,zb,zf,za,e1,e2,yn]
    refine qaj zE_ ?_
    have e4:decide (0≤((a:Nat):Int))=true:=by simp
    simp only [ZZ,WW,Zd,reduceCtorEq,zd,ze,zb,zf,za,e1,e2,e4,qpa,yn]
    ((with_reducible and_intros)<;>try exact sc_)
    refine use1 (qxs (Sp.part t (a,i)) (by have:=Sp.part_len t a i;omega)) rfl (.inl rfl) ?_
    refine zS ?_
    simp only [qaf,qrd,← qeq]
    ((with_reducible and_intros)<;>try exact sc_)
    refine qaj zE_ ?_
    refine zS ?_
    ((with_reducible and_intros)<;>try exact sc_)
    refine qab (t.length+1 - (i+1)) _ _ (by omega) zF_ zF_ ⟨i+1,none,l++[lowF (Sp.part t (a,i))],rfl,by omega,by simp,by rw [zp];simp;omega,by rw [← hl,hnx];simp [qvE],rfl,rfl⟩
 ·intro h
  have hgt:i=t.length+1:=by have:=of_decide_eq_false h;omega
  have hfn:f=none:=by
   cases f with
   |none=>rfl
   |some a=>have:=(hf a rfl).2;omega
  subst hfn
  rw [Sp.wsp_out t i (by omega)] at hl
  simp only [yr,z6] at hl
  refine zS ?_
  rw [qeD,hl]
def sp2 (p:Nat×Nat):Int×Int:=(((p.1:Nat):Int),((p.2:Nat):Int))
def qj3 (t:List UInt8):List (Int×Int):=(Sp.spans t).map sp2
theorem qob (t:List UInt8) (ht:t.length≤1000000000):PCall Tryz.prog E 139 [.str t] (·=sps (qj3 t)):=by
 refine qag mixed Tryz.func139 qgH ?_
 refine zV ?_
 refine qac (fun n fr L=>∃ (i:Nat) (l:List (Int×Int)),t.length+1 - i=n∧(i≤t.length+1)∧(l.length≤i)∧(l++(Sp.wsp i none (t.drop i)).map sp2=qj3 t)∧fr=(.p (.str t)::oo::oo::.row (.l 3)::.p (int (i:Nat))::oF (oo::[]))∧L=[(.l 3,.row (l.map spn) qol 2 true)]) (t.length+1 - 0) _ _ zF_ zF_ ⟨0,[],rfl,by omega,by simp,rfl,rfl,rfl⟩ ?_
 rintro n fr L ⟨i,l,rfl,hi1,hll,hl,rfl,rfl⟩
 simp only [qcx,ZZ,WW,Zd,reduceCtorEq,zd,ze,zb,zf,za]
 refine br ?_ ?_
 ·intro h
  have hlt:i < t.length:=by have:=of_decide_eq_true h;omega
  have hgi:t.getD i 0=t[i]:=by simp [zu,hlt]
  refine zS ?_
  ((with_reducible and_intros)<;>try exact sc_)
  refine use1 (qkW (t.getD i 0)) rfl (.inl rfl) ?_
  rw [hgi]
  refine zS ?_
  refine br ?_ ?_
  ·intro hb
   have hb:Sp.isLet t[i]=false:=by rw [← qeG];simpa using hb
   have hnx:=Sp.wsp_non t i hlt _ rfl hb
   refine zS ?_
   refine qaj zE_ ?_
   refine zS ?_
   ((with_reducible and_intros)<;>try exact sc_)
   refine qab (t.length+1 - (i+1)) _ _ (by omega) zF_ zF_ ⟨i+1,l,rfl,by omega,by omega,by rw [← hl,hnx],rfl,rfl⟩
  ·intro hb
   have hb:Sp.isLet t[i]=true:=by rw [← qeG];simpa using hb
   have hnx:=Sp.wsp_let t i none hlt _ rfl hb
   refine zS ?_
   refine qac (fun n fr L=>∃ (k:Nat),t.length - k=n∧(i≤k∧k≤t.length)∧(i < k→Sp.wsp i none (t.drop i)=Sp.wsp k (some i) (t.drop k))∧fr=(.p (.str t)::oo::oo::.row (.l 3)::.p (int (i:Nat))::.p (int (k:Nat))::oF [])∧L=[(.l 3,.row (l.map spn) qol 2 true)]) (t.length - i) _ _ zF_ zF_ ⟨i,rfl,by omega,by omega,rfl,rfl⟩ ?_
   rintro n fr L ⟨k,rfl,hk1,hk2,rfl,rfl⟩
   simp only [qcw,ZZ,WW,Zd,reduceCtorEq,zd,ze,zb,zf,za]
   ((with_reducible and_intros)<;>try exact sc_)
   refine useG (fun _=>qkW (t.getD k 0)) rfl (.inl rfl) ?_
   refine zS ?_
   ((with_reducible and_intros)<;>try exact sc_)
   refine br ?_ ?_
   ·intro hc
    simp only [zj,decide_eq_true_eq] at hc
    have hkl:k < t.length:=by omega
    have hlk:Sp.isLet t[k]=true:=by
     rw [← qeG,← hc.2]
     simp [zu,hkl]
    have hnx3:Sp.wsp i none (t.drop i)=Sp.wsp (k+1) (some i) (t.drop (k+1)):=by
     rcases Nat.lt_or_ge i k with h'|h'
     ·rw [hk2 h',Sp.wsp_let t k (some i) hkl _ rfl hlk]
      rfl
     ·have e:k=i:=by omega
      subst e
      exact hnx
    refine zS ?_
    ((with_reducible and_intros)<;>try exact sc_)
    refine qab (t.length - (k+1)) (.p (.str t)::oo::oo::.row (.l 3)::.p (int (i:Nat))::.p (int ((k+1):Nat))::oF []) [(.l 3,.row (l.map spn) qol 2 true)] (by omega) zF_ zF_ ⟨k+1,rfl,by omega,fun _=>hnx3,rfl,rfl⟩
   ·intro hc
    have hik:i < k:=by
     rcases Nat.lt_or_ge i k with h'|h'
     ·exact h'
     ·have e:k=i:=by omega
      subst e
      rw [show decide ((k:Int) < t.length)=true from by simp [hlt],yc,hgi,qeG,hb] at hc
      cases hc
    have hnx2:Sp.wsp k (some i) (t.drop k)=(i,k) :: Sp.wsp (k+1) none (t.drop (k+1)):=by
     by_cases hh:k < t.length
     ·refine Sp.wsp_end t k i hh _ rfl ?_
      rw [show decide ((k:Int) < t.length)=true from by simp [hh],yc,qeG] at hc
      rw [← hc]
      simp [zu,hh]
     ·exact Sp.wsp_fin t k i (by omega)
    refine zS ?_
    simp only [List.length_map]
    ((with_reducible and_intros)<;>try exact sc_)
    refine qaj zE_ ?_
    refine zS ?_
    ((with_reducible and_intros)<;>try exact sc_)
    refine qab (t.length+1 - (k+1)) _ _ (by omega) zF_ (by rw [zF];simp only [spn,ZZ,WW,Zd,reduceCtorEq,zd,ze,zb,zf,za]) ⟨k+1,l++[(((i:Nat):Int),((k:Nat):Int))],rfl,by omega,by rw [zp];simp;omega,by rw [← hl,hk2 hik,hnx2];simp [sp2],rfl,rfl⟩
 ·intro h
  have hgt:t.length≤i:=by have:=of_decide_eq_false h;omega
  rw [Sp.wsp_out t i hgt] at hl
  simp only [yr,z6] at hl
  refine zS ?_
  rw [hl]
  rfl
end
theorem qvP (t:Sp.Bs):∀ (i:Nat) (f:Option Nat),(∀ a,f=some a→a≤i)→∀ p∈Sp.wsp i f t,p.1≤p.2∧p.2≤i+t.length:=by
 induction t with
 |nil=>
  intro i f hf p hp
  cases f with
  |none=>simp [Sp.wsp] at hp
  |some a=>simp [Sp.wsp] at hp;subst hp;have:=hf a rfl;simp;omega
 |cons c r ih=>
  intro i f hf p hp
  unfold Sp.wsp at hp
  split at hp
  ·have:=ih (i+1) _ (by rintro a ⟨⟩;cases f with|none=>simp|some b=>have:=hf b rfl;simp;omega) p hp
   simp;omega
  ·cases f with
   |none=>have:=ih (i+1) none (by simp) p hp;simp;omega
   |some a=>
    simp at hp
    rcases hp with rfl|hp
    ·have:=hf a rfl;simp;omega
    ·have:=ih (i+1) none (by simp) p hp;simp;omega
theorem qvQ (t:Sp.Bs) (p:Nat×Nat) (hp:p∈Sp.spans t):p.1≤p.2∧p.2≤t.length:=by
 have:=qvP t 0 none (by simp) p hp
 omega
section
variable {E:Envt}
theorem qmx (t:List UInt8) (ht:t.length≤1000000000):PCall Tryz.prog E 94 [.str t] (·=strs (qa2 t)):=by
 refine qag mixed Tryz.func94 qhU ?_
 refine zV ?_
 refine use1 (qob t ht) rfl (.inl rfl) ?_
 simp only [ZZ,WW,Zd,reduceCtorEq,zd,ze,zb,zf,za,sps]
 have hsl:=Sp.spans_len t
 have hln:((qj3 t).map spn).length=(Sp.spans t).length:=by simp [qj3]
 have hget:∀ k p,(Sp.spans t)[k]?=some p→((qj3 t).map spn).getD k []=[int (p.1:Nat),int (p.2:Nat)]:=fun k p hp=>by
  rw [show (qj3 t).map spn=(Sp.spans t).map (fun p=>[int (p.1:Nat),int (p.2:Nat)]) from by simp [qj3,sp2,spn]]
  exact qao hp
 generalize (qj3 t).map spn=es at hln hget ⊢
 refine qac (fun n fr L=>∃ (k:Nat) (l:List (List UInt8)),k≤(Sp.spans t).length∧n=(Sp.spans t).length - k∧(l=((Sp.spans t).take k).map (qvE t))∧fr=(.p (.str t)::oo::oo::.row (.l 3)::oo::oo::oo::.p (.sl 2 es)::.p (int ((Sp.spans t).length:Nat))::.p (int (k:Nat))::oD (oC (oB (oo::[]))))∧L=[(.l 3,.row (strE l) tStr 1 true)]) ((Sp.spans t).length) _ _ (by simp only [hln,ZZ,WW,Zd,reduceCtorEq,zd,ze,zb,zf,za];try trivial) zF_ ⟨0,[],by omega,by omega,by simp,rfl,rfl⟩ ?_
 rintro n fr L ⟨k,l,hk,rfl,hl,rfl,rfl⟩
 simp only [qda,ZZ,WW,Zd,reduceCtorEq,zd,ze,zb,zf,za]
 refine br ?_ ?_
 ·intro h
  have hlt:k < (Sp.spans t).length:=by have:=of_decide_eq_true h;omega
  obtain ⟨p,hp⟩:∃ x,(Sp.spans t)[k]?=some x:=⟨_,List.getElem?_eq_getElem hlt⟩
  have hg:=hget k p hp
  obtain ⟨hp1,hp2⟩:=qvQ t p (List.mem_of_getElem? hp)
  have hlk:l.length=k:=by rw [hl];simp;omega
  simp only [ZZ,WW,Zd,reduceCtorEq,zd,ze,zb,zf,za,hg,hln]
  ((with_reducible and_intros)<;>try exact sc_)
  refine use1 (qt9 (Sp.part t (p.1,p.2)) (by have:=Sp.part_len t p.1 p.2;omega)) rfl (.inl rfl) ?_
  refine zS ?_
  simp only [qaf,qrd,← qeq]
  ((with_reducible and_intros)<;>try exact sc_)
  refine qab ((Sp.spans t).length - (k+1)) _ _ (by omega) zF_ zF_ ⟨k+1,l++[lowF (Sp.part t (p.1,p.2))],by omega,rfl,by rw [hl,List.take_succ_eq_append_getElem hlt,(List.getElem?_eq_some_iff.1 hp).2,zF];rfl,rfl,rfl⟩
 ·intro h
  have hge:(Sp.spans t).length≤k:=by have:=of_decide_eq_false h;omega
  rw [List.take_of_length_le hge] at hl
  refine zS ?_
  rw [qeD,hl]
  rfl
end
def wrd (g:List UInt8→List UInt8):List UInt8→List UInt8→List (List UInt8)
 |cur,[]=>if cur=[] then [] else [g cur]
 |cur,c :: r=>if Sp.isLet c=true then wrd g (cur++[c]) r else (if cur=[] then [] else [g cur])++wrd g [] r
theorem qrz (pre s:List UInt8) (a:Nat) (ha:a≤pre.length):Sp.part (pre++s) (a,pre.length)=pre.drop a:=by
 simp [Sp.part,List.take_append_of_le_length]
theorem qBC (i:Nat) (f:Option Nat) (c:UInt8) (r:List UInt8) (h:Sp.isLet c=true):Sp.wsp i f (c :: r)=Sp.wsp (i+1) (some (f.getD i)) r:=by
 cases f<;>simp [Sp.wsp,h]
theorem qpT (g:List UInt8→List UInt8):∀ (s pre:List UInt8) (f:Option Nat),(∀ a,f=some a→a < pre.length)→
  (Sp.wsp pre.length f s).map (fun p=>g (Sp.part (pre++s) p))=wrd g (match f with|none=>[]|some a=>pre.drop a) s
 |[],pre,f,hf=>by
  cases f with
  |none=>simp [Sp.wsp,wrd]
  |some a=>
   have ha:=hf a rfl
   have hne:pre.drop a≠[]:=by rw [ne_eq,List.drop_eq_nil_iff];omega
   have hp:=qrz pre [] a (by omega)
   simp only [Sp.wsp,wrd,zx,yr,hp,if_neg hne]
 |c :: r,pre,f,hf=>by
  have hpl:(pre++[c]).length=pre.length+1:=by simp
  have hap:pre++c :: r=(pre++[c])++r:=by simp
  by_cases hc:Sp.isLet c=true
  ·have ih:=qpT g r (pre++[c]) (some (f.getD pre.length)) (fun a h=>by
    cases f with
    |none=>simp at h;omega
    |some b=>have:=hf b rfl;simp at h;omega)
   rw [hpl] at ih
   rw [qBC _ _ _ _ hc,hap,ih,wrd,if_pos hc]
   cases f with
   |none=>simp
   |some a=>have:=hf a rfl;simp [List.drop_append_of_le_length (Nat.le_of_lt this)]
  ·have ih:=qpT g r (pre++[c]) none (fun a h=>by cases h)
   rw [hpl] at ih
   rw [wrd,if_neg hc]
   cases f with
   |none=>
    simp only [Sp.wsp,if_neg hc,if_true,List.nil_append]
    rw [hap,ih]
   |some a=>
    have ha:=hf a rfl
    have hne:pre.drop a≠[]:=by rw [ne_eq,List.drop_eq_nil_iff];omega
    simp only [Sp.wsp,if_neg hc,zx,if_neg hne]
    rw [qrz pre (c :: r) a (by omega),hap,ih]
    rfl
theorem qsV (g:List UInt8→List UInt8) (t:List UInt8):(Sp.spans t).map (fun p=>g (Sp.part t p))=wrd g [] t:=by
 have:=qpT g t [] none (fun a h=>by cases h)
 simpa [Sp.spans] using this
theorem qsW (g:List UInt8→List UInt8) (c:UInt8) (hc:Sp.isLet c=false) (b:List UInt8):∀ (a cur:List UInt8),wrd g cur (a++c :: b)=wrd g cur a++wrd g [] b
 |[],cur=>by simp [wrd,hc]
 |x :: a,cur=>by
  have ih:=qsW g c hc b a
  rw [List.cons_append,wrd,wrd]
  split
  ·rw [ih]
  ·rw [ih,yh]
theorem qq3 (g:List UInt8→List UInt8) (c:UInt8) (hc:Sp.isLet c=false):∀ l:List (List UInt8),wrd g [] (List.intercalate [c] l)=l.flatMap (wrd g [])
 |[]=>by simp [wrd]
 |[x]=>by simp
 |x :: y :: l=>by
  have ih:=qq3 g c hc (y :: l)
  rw [List.intercalate_cons_cons,yh,List.singleton_append,qsW g c hc,ih]
  simp only [List.flatMap_cons]
theorem qsc (c:UInt8) (hc:Sp.isLet c=false) (l:List (List UInt8)):qa2 (Lib.join l [c])=l.flatMap qa2:=by
 have h:∀ t,qa2 t=wrd lowF [] t:=fun t=>qsV lowF t
 rw [h,Lib.join,qq3 lowF c hc]
 congr 1
 funext t
 exact (h t).symm
end Go.Proofs.YtmpdnpljdcincaaGreatDoor
namespace Go.Proofs.YtmpdnpljdcincaaGreatDoor
open Go.Lib Go.RowKit Go.Shelf
theorem qku {l:List UInt8} {c:UInt8} (h:∀ b∈l,b≠c):Lib.indexByte l c=-1:=by
 have h1:=Lib.contains_iff_indexByte l c
 have h2:l.contains c=false:=by
  rw [Bool.eq_false_iff]
  intro h3
  exact h c (by simpa using h3) rfl
 rw [h2] at h1
 have h3:¬ (0:Int)≤Lib.indexByte l c:=of_decide_eq_false h1.symm
 have h4:-1≤Lib.indexByte l c:=by rw [← Lib.indexAny_one];exact Lib.indexAny_ge _ _
 omega
def Asc (s:ByteArray):Prop:=∀ (j:Nat) (b:UInt8),s.data.toList[j]?=some b→b.toNat < 128
theorem Asc.rest {s:ByteArray} (h:Asc s) (i:Nat) {c:UInt8} (hc:128≤c.toNat):Lib.indexByte (s.extract i s.size).data.toList c=-1:=by
 refine qku fun b hb e=>?_
 have hb:=mem_extract hb
 obtain ⟨j,hj⟩:=List.getElem?_of_mem hb
 have:=h j b hj
 rw [e] at this
 omega
section
variable {P:Program} {ρ:Ren}
end
end Go.Proofs.YtmpdnpljdcincaaGreatDoor
namespace Go.Proofs.YtmpdnpljdcincaaGreatDoor
open Nat renaming le_refl→zD
open Go.RowKit
def splF (s:List UInt8) (c:UInt8):List (List UInt8):=(Lib.splitB ⟨#[c]⟩ 0 (Lib.countB ⟨s.toArray⟩ ⟨#[c]⟩) ⟨s.toArray⟩).map (·.data.toList)
theorem qj2 (sep:ByteArray):∀ (k:Nat) (s:ByteArray),(Lib.splitB sep 0 k s).length≤k+1∧∀ x∈Lib.splitB sep 0 k s,x.size≤s.size:=by
 intro k
 induction k with
 |zero=>intro s;simp [Lib.splitB]
 |succ k ih=>
  intro s
  unfold Lib.splitB
  split
  ·simp
  ·have:=ih (s.extract ((Lib.indexB s sep).toNat+sep.size) s.size)
   refine ⟨by simp;omega,fun x hx=>?_⟩
   simp only [List.mem_cons] at hx
   rcases hx with rfl|hx
   ·simp;omega
   ·have:=this.2 x hx;simp at this;omega
theorem qvO (s:List UInt8) (c:UInt8):(splF s c).length≤s.length+1:=by
 have h1:=(qj2 ⟨#[c]⟩ (Lib.countB ⟨s.toArray⟩ ⟨#[c]⟩) ⟨s.toArray⟩).1
 have h2:=Lib.countB_le ⟨#[c]⟩ (zD 1) (⟨s.toArray⟩:ByteArray).size ⟨s.toArray⟩ (zD _)
 rw [qfn] at h2
 simp only [splF,List.length_map]
 omega
theorem qvN (s:List UInt8) (c:UInt8):∀ x∈splF s c,x.length≤s.length:=by
 intro x hx
 simp only [splF,List.mem_map] at hx
 obtain ⟨y,hy,rfl⟩:=hx
 have:=(qj2 ⟨#[c]⟩ (Lib.countB ⟨s.toArray⟩ ⟨#[c]⟩) ⟨s.toArray⟩).2 y hy
 rw [qfn] at this
 rw [Array.length_toList]
 exact this
theorem qmb {w:World} {U:Nat→Prop} {b:Nat}:∀ (l:List ByteArray) (off:Nat),(∀ i x,l[i]?=some x→w.cell? ⟨b,off+i,none⟩=some (.string x))→PRepE w U b 1 off ((l.map (·.data.toList)).map fun x=>[.str x])
 |[],off,h=>trivial
 |x :: r,off,h=>by
  refine ⟨rfl,⟨⟨.string x,by simpa using h 0 _ rfl,rfl,?_⟩,trivial⟩,qmb r (off+1) fun i u hu=>?_⟩
  ·simp [PRep]
  ·have:=h (i+1) u (by simpa using hu)
   rwa [show off+(i+1)=off+1+i from by omega] at this
theorem qym:(Tryz.prog.info? 9).map (fun i=>(i.zero,i.size,i.bytes))=some (some (.string ByteArray.empty),1,16):=by kernel_rfl
theorem qxp (s:List UInt8) (c:UInt8) (hs:s.length≤1000000000):PCall Tryz.prog E0 209 [.str s,.str [c]] (·=strs (splF s c)):=by
 intro w U vs hU hE hEb hA
 obtain ⟨_,m,hm⟩:=hE
 simp only [PRepL,PRep] at hA
 obtain ⟨v,r,rfl,rfl,v2,r2,rfl,rfl,rfl⟩:=hA
 refine (Any.strings_Split Tryz.laySplit qym ⟨s.toArray⟩ ⟨#[c]⟩ m w (by rw [qfn];omega) hm (zD 1)).mono ?_
 rintro e w' ⟨rfl,rfl⟩
 have hl:=Lib.splitB_all ⟨#[c]⟩ (zD 1) 0 _ (⟨s.toArray⟩:ByteArray) rfl
 refine ⟨_,_,rfl,rfl,?_,⟨rfl,rfl,rfl,by simp,fun k hk _=>Lib.alloc_old w _ k hk⟩⟩
 have hln:(List.map (fun x=>[PV.str x]) (splF s c)).length=Lib.countB ⟨s.toArray⟩ ⟨#[c]⟩+1:=by simp [splF,hl]
 refine ⟨some ⟨w.heap.size,0,none⟩,Lib.countB ⟨s.toArray⟩ ⟨#[c]⟩+1,by rw [hln],by rw [hln];exact zD _,fun _=>⟨w.heap.size,0,rfl,by simp,fun h=>by have:=hU _ h;omega,?_⟩⟩
 ·refine qmb _ 0 fun i x hx=>?_
  rw [Lib.cell_of_heap (heap_alloc_new w _)]
  simp [hx]
abbrev qjM:IC:=(sR [qO 4 (.mov (.c (.bool false)))] (sR [qM 5 0,qM 6 1,jC 7 167 [.t 5,.t 6],qB 8 .eql 7 (.c (.str [])),qM 4 8] .ret))
theorem qjV:chkF Tryz.prog Tryz.f127 qjM [.t 4] 9=true:=by kernel_rfl
def qt8 (s of:List UInt8):Bool:=decide (Lib.trimS s of=[])
theorem dropW_nil {p:UInt8→Bool}:∀ {l:List UInt8},l.dropWhile p=[]↔l.all p=true
 |[]=>by simp
 |x :: r=>by
  simp only [List.dropWhile,List.all_cons]
  cases h:p x
  ·simp
  ·simpa using dropW_nil (l:=r)
theorem qg1 (s of:List UInt8):qt8 s of=s.all (fun c=>of.contains c):=by
 rw [Bool.eq_iff_iff,qt8,decide_eq_true_iff,Lib.trimS,Lib.trimLeftS,Lib.trimRightS,dropW_nil]
 constructor
 ·intro h
  have h2:∀ l:List UInt8,(l.dropWhile fun c=>of.contains c).all (fun c=>of.contains c)=true→l.all (fun c=>of.contains c)=true:=by
   intro l
   induction l with
   |nil=>simp
   |cons x r ih=>
    simp only [List.dropWhile]
    cases hx:of.contains x
    ·intro h;exact h
    ·intro h;simp only [List.all_cons,hx,Bool.true_and];exact ih h
  have:=h2 s.reverse (by simpa [List.all_reverse] using h)
  simpa [List.all_reverse] using this
 ·intro h
  have:(s.reverse.dropWhile fun c=>of.contains c)=[]:=dropW_nil.2 (by simpa [List.all_reverse] using h)
  rw [this]
  simp
section
variable {E:Envt}
def asc (l:List UInt8):Bool:=l.all fun b=>decide (b.toNat < 128)
theorem qBu {l:List UInt8} (h:asc l=true):∀ (j:Nat) b,(⟨l.toArray⟩:ByteArray).data.toList[j]?=some b→b.toNat < 128:=
 fun _ b hb=>of_decide_eq_true (List.all_eq_true.1 h b (List.mem_of_getElem? (by simpa using hb)))
theorem qfL (s cs:List UInt8) (hs:s.length≤1000000000) (hcs:cs.length≤1000000) (h2:asc cs=true):PCall Tryz.prog E 167 [.str s,.str cs] (·=.str (Lib.trimS s cs)):=
 qbm rfl rfl fun w _=>(Any.strings_Trim_laid Tryz.layTrim (by kernel_rfl) ⟨s.toArray⟩ ⟨cs.toArray⟩ w (by rw [qfn];omega) (by rw [qfn];omega) (qBu h2)).mono fun e w' h=>⟨h.1,qfE h.2⟩
theorem qqk (s of:List UInt8) (hs:s.length≤1000000000) (ho:of.length≤1000) (ha:asc of=true):PCall Tryz.prog E 127 [.str s,.str of] (·=.bool (qt8 s of)):=by
 refine qag mixed Tryz.func127 qjV ?_
 refine zV ?_
 refine use1 (qfL s of hs (by omega) ha) rfl (.inl rfl) ?_
 refine zS ?_
 rfl
end
theorem qs2 {P:Program} {w w':World} {n:String} {g:Nat} (hg:P.globalNamed n=some g) (hb:w'.heap[g]?=w.heap[g]?):w'.var? P n=w.var? P n:=by
 simp only [World.var?,hg,Option.bind_some,hb]
theorem qwI (w:World) (k:Nat) (os:Array Obj):Grow w (Sort.grow (w.drewN k) os) (fun _=>False):=⟨rfl,rfl,rfl,by simp [Sort.grow,World.drewN],fun b hb _=>by simp [Sort.grow,World.drewN,Array.getElem?_append_left hb]⟩
def qj8 (c:UInt8):Bool:=decide ((c.toNat:Int) < 65) || decide ((90:Int) < (c.toNat:Int))
def qdS (s:List UInt8):Bool:=(s.all fun c=>!qj8 c) && inE s.length 1 8
def qd3 (p:List UInt8) (d:Int):Int:=qai [qak (!qdS p) 3,qak (!inE d 4 9) 1]
def powF (d:Int):Int:=(10:Int) ^ d.toNat
def qvC (it:Int→List UInt8) (p:List UInt8) (d n:Int):List UInt8:=p++Lib.repeatL [48] (max 0 (d - (it n).length)).toNat++it n
def numG (it:Int→List UInt8) (p:List UInt8) (d n:Int):List UInt8×Int:=if qd3 p d=0 then (if inE n 1 (powF d - 1)=true then (qvC it p d n,0) else ([],1)) else ([],qd3 p d)
def qwd (s:List UInt8):Bool:=(decide ((1:Int)≤s.length) && decide ((s.length:Int)≤8)) && qt8 s capL
def nfF (p:List UInt8) (d:Int):Int:=if qwd p=true then (if (decide (d < 4) || decide (9 < d))=true then 1 else 0) else 3
def dd:Nat→Nat→List UInt8
 |0,_=>[]
 |f+1,u=>if u < 10 then [UInt8.ofNat (48+u)] else dd f (u / 10)++[UInt8.ofNat (48+u % 10)]
theorem qzL:∀ (f u:Nat),u < 10 ^ f→0 < f→Lib.decDigits u=dd f u
 |0,u,_,h=>absurd h (by decide)
 |f+1,u,h,_=>by
  rw [Lib.decDigits,dd]
  by_cases hu:u < 10
  ·rw [dif_pos hu,if_pos hu]
  ·rw [dif_neg hu,if_neg hu]
   have hf:0 < f:=by
    rcases Nat.eq_zero_or_pos f with rfl|h'
    ·simp at h;omega
    ·exact h'
   rw [qzL f (u / 10) (by rw [Nat.pow_succ] at h;omega) hf]
def itD (n:Int):List UInt8:=if n < 0 then 45 :: dd 12 n.natAbs else dd 12 n.toNat
theorem qxS {n:Int} (h0:-100000000000≤n) (h1:n≤100000000000):Lib.itoa n=itD n:=by
 unfold Lib.itoa itD
 split
 ·rw [qzL 12 _ (by omega) (by decide)]
 ·rw [qzL 12 _ (by omega) (by decide)]
theorem qle {d:Int} (h:d≤9):1≤powF d∧powF d≤1000000000:=by
 unfold powF
 have h1:(10:Nat) ^ d.toNat≤10 ^ 9:=Nat.pow_le_pow_right (by decide) (by omega)
 have h2:1≤(10:Nat) ^ d.toNat:=Nat.one_le_pow _ _ (by decide)
 have h3:((10:Int) ^ d.toNat)=(((10:Nat) ^ d.toNat:Nat):Int):=by simp
 rw [h3]
 omega
theorem qsA {p:List UInt8} {d:Int} (h:qd3 p d=0):4≤d∧d≤9∧p.length≤8:=by
 have hm:=qms h
 have h1:=hm (qak (!qdS p) 3) (by simp)
 have h2:=hm (qak (!inE d 4 9) 1) (by simp)
 unfold qak at h1 h2
 split at h1
 ·cases h1
 split at h2
 ·cases h2
 rename_i a1 a2
 simp only [Bool.not_eq_true',Bool.not_eq_false] at a1 a2
 simp only [qdS,inE,Bool.and_eq_true,decide_eq_true_eq] at a1 a2
 omega
theorem qzg {p:List UInt8} {d n:Int} (h0:-100≤n) (h1:n≤1000000000):numG Lib.itoa p d n=numG itD p d n:=by
 unfold numG qvC
 rw [qxS (by omega) (by omega)]
def P6:List (List UInt8):=[[65,66],[65],[65,66,67,68,69,70,71,72],[65,66,67,68,69,70,71,72,73],[],[97]]
end Go.Proofs.YtmpdnpljdcincaaGreatDoor
