import Derived.Test.YtekhobchfhhofaaGreatDoorZ7
import Derived.Test.YtekhobchfhhofaaGreatDoorSpec
import Derived.Shelf.Small.Utf8
import Derived.BigQuiet
import Derived.WalkMore
import Derived.Deep.QuietTactic
import Derived.Shelf.RegionOpenPlain
import Derived.Laws.Runes
import Derived.Laws.RangeString
import Derived.Lib.IndexBytes
import Derived.Laws.Strings3
import Derived.Test.YtekhobchfhhofaaGreatDoorLaySplit
import Derived.Lib.SplitLaws
import Derived.Test.YtekhobchfhhofaaGreatDoorLayIndexAny
import Derived.Test.YtekhobchfhhofaaGreatDoorLayTrim
import Derived.Test.YtekhobchfhhofaaGreatDoorLayCompare
import Derived.Test.YtekhobchfhhofaaGreatDoorLayCut
import Derived.Lib.IndexMore
import Derived.Lib.ValidLaws
set_option linter.unusedVariables false
set_option linter.unusedSimpArgs false
set_option linter.defProp false
namespace Go.Proofs.YtekhobchfhhofaaGreatDoor
open Nat renaming reduceAdd→zd,reduceEqDiff→zb,reduceLT→zf,reduceLeDiff→za,reduceMul→ze
open List renaming getD→zy,length_append→zq,map_append→zG
open Bool renaming and_eq_true→zj,false_and→yo
open Go.RowKit
abbrev qof:IC:=(sR [qO 2 (.mov (.c (.bool false)))] (sR [qM 3 0,qB 4 .geq 3 (.c (.int .u8 48)),qM 5 4,⟨some 6,.mov (.t 0),(some (5,true))⟩,⟨some 7,.bin .leq (.t 6) (.c (.int .u8 57)),(some (5,true))⟩,qO 8 (.pick (.t 5) (.t 7) (.c (.bool false))),qM 2 8] .ret))
theorem qos:chkF Tryz.prog Tryz.f260 qof [.t 2] 9=true:=by kernel_rfl
abbrev qmy:IC:=(sR [qO 2 (.mov (.c (.bool false)))] (sR [qM 3 0,qB 4 .geq 3 (.c (.int .u8 97)),qM 5 4,⟨some 6,.mov (.t 0),(some (5,true))⟩,⟨some 7,.bin .leq (.t 6) (.c (.int .u8 122)),(some (5,true))⟩,qO 8 (.pick (.t 5) (.t 7) (.c (.bool false))),qM 9 8,⟨some 10,.mov (.t 0),(some (9,false))⟩,⟨some 11,.bin .geq (.t 10) (.c (.int .u8 65)),(some (9,false))⟩,⟨some 12,.mov (.t 11),(some (9,false))⟩,⟨some 13,.mov (.t 0),(some (12,true))⟩,⟨some 14,.bin .leq (.t 13) (.c (.int .u8 90)),(some (12,true))⟩,⟨some 15,.pick (.t 12) (.t 14) (.c (.bool false)),(some (9,false))⟩,qO 16 (.pick (.t 9) (.c (.bool true)) (.t 15)),qM 17 16,⟨some 18,.mov (.t 0),(some (17,false))⟩,⟨some 19,.call 260 [.t 18],(some (17,false))⟩,qO 20 (.pick (.t 17) (.c (.bool true)) (.t 19)),qM 21 20,⟨some 22,.mov (.t 0),(some (21,false))⟩,⟨some 23,.bin .geq (.t 22) (.c (.int .u8 128)),(some (21,false))⟩,qO 24 (.pick (.t 21) (.c (.bool true)) (.t 23)),qM 2 24] .ret))
theorem qmD:chkF Tryz.prog Tryz.f227 qmy [.t 2] 25=true:=by kernel_rfl
abbrev qhi:IC:=(sR [qO 2 (.mov (.c (.bool false)))] (sR [qM 3 0,qB 4 .geq 3 (.c (.int .u8 128)),qM 5 4,⟨some 6,.mov (.t 0),(some (5,false))⟩,⟨some 7,.call 196 [.c (.str [97,98,99,100,101,102,103,104,105,106,107,108,109,110,111,112,113,114,115,116,117,118,119,120,121,122,65,66,67,68,69,70,71,72,73,74,75,76,77,78,79,80,81,82,83,84,85,86,87,88,89,90,48,49,50,51,52,53,54,55,56,57]),.t 6],(some (5,false))⟩,⟨some 8,.bin .geq (.t 7) (cI 0),(some (5,false))⟩,qO 9 (.pick (.t 5) (.c (.bool true)) (.t 8)),qM 2 9] .ret))
theorem qhp:chkF Tryz.prog Tryz.f232 qhi [.t 2] 10=true:=by kernel_rfl
def qgA:IC:=(.seq (sR [qM 7 5,qM 8 0,qO 9 (.sln (.t 8)),qT 10 .leq 7 9] (jE 10)) (.seq (.block 1 (sR [qM 13 5,qM 14 0,qO 15 (.sln (.t 14)),qT 16 .lss 13 15,qM 17 16,⟨some 18,.mov (.t 0),(some (17,true))⟩,⟨some 19,.mov (.t 5),(some (17,true))⟩,⟨some 20,.idx (.t 18) (.t 19),(some (17,true))⟩,⟨some 21,.call 227 [.t 20],(some (17,true))⟩,qO 22 (.pick (.t 17) (.t 21) (.c (.bool false))),qM 6 22] (.seq (sR [qM 23 6,qM 24 23,⟨some 25,.mov (.t 4),(some (24,true))⟩,⟨some 26,.bin .lss (.t 25) (cI 0),(some (24,true))⟩,qO 27 (.pick (.t 24) (.t 26) (.c (.bool false)))] (jW 27 (.reg [qM 28 5,qM 4 28]))) (.cut (sR [qM 29 6,qO 30 (.not (.t 29)),qM 31 30,⟨some 32,.mov (.t 4),(some (31,true))⟩,⟨some 33,.bin .geq (.t 32) (cI 0),(some (31,true))⟩,qO 34 (.pick (.t 31) (.t 33) (.c (.bool false)))] (jW 34 (sR [qM 35 3,qM 36 0,qM 37 4,qM 38 5,qO 39 (.ssl (.t 36) (some (.t 37)) (some (.t 38))),jC 40 206 [.t 39],qO 41 (.bsl 1 [.t 40]),qO 42 (.app 9 1 16 (.t 35) (.t 41)),qM 3 42] (.reg [jI 4 (-1)])))))))) (.cut (.reg [qM 11 5,qB 12 .add 11 (cI 1),qM 5 12]))))
abbrev qoa:IC:=(sR [qO 2 (.mov (.c (.nl 1)))] (sR [qO 3 (.nilr 9 1)] (sR [jI 4 (-1)] (.seq (sR [jI 5 0] (.block 0 (.loop qgA))) (sR [qM 43 3,qM 2 43] .ret)))))
theorem qon:chkF Tryz.prog Tryz.f165 qoa [.t 2] 44=true:=by kernel_rfl
def qcS:IC:=(.seq (sR [qM 18 5,qM 19 0,qO 20 (.sln (.t 19)),qT 21 .lss 18 20,qM 22 21,⟨some 23,.mov (.t 0),(some (22,true))⟩,⟨some 24,.mov (.t 5),(some (22,true))⟩,⟨some 25,.idx (.t 23) (.t 24),(some (22,true))⟩,⟨some 26,.call 232 [.t 25],(some (22,true))⟩,qO 27 (.pick (.t 22) (.t 26) (.c (.bool false)))] (.cond (.t 27) .skip (.exit 2))) (.block 3 (.reg [qM 28 5,qB 29 .add 28 (cI 1),qM 5 29])))
def qcT:IC:=(.seq (sR [qM 6 4,qM 7 0,qO 8 (.sln (.t 7)),qT 9 .lss 6 8] (jE 9)) (.seq (.block 1 (.seq (sR [qM 12 0,qM 13 4,qO 14 (.idx (.t 12) (.t 13)),jC 15 232 [.t 14],qO 16 (.not (.t 15))] (jW 16 (.exit 1))) (sR [qM 17 4,qM 5 17] (.seq (.block 2 (.loop qcS)) (sR [qM 30 3,qM 31 4,qM 32 5,qO 33 (.bld [.int .i64 0,.int .i64 0] [(0,1,.t 31),(1,1,.t 32)]),qO 34 (.bsl 2 [.t 33]),qO 35 (.app 111 2 16 (.t 30) (.t 34)),qM 3 35] (.reg [qM 36 5,qM 4 36])))))) (.cut (.reg [qM 10 4,qB 11 .add 10 (cI 1),qM 4 11]))))
abbrev qgL:IC:=(sR [qO 2 (.mov (.c (.nl 2)))] (sR [qO 3 (.nilr 111 2)] (.seq (sR [jI 4 0] (.block 0 (.loop qcT))) (sR [qM 37 3,qM 2 37] .ret))))
theorem qgV:chkF Tryz.prog Tryz.f171 qgL [.t 2] 38=true:=by kernel_rfl
def qdt:IC:=(sR [qT 10 .lss 9 8] (.seq (jE 10) (.seq (.block 1 (sR [qX 11 2 7 9,qO 12 (.ld 2 true (.t 11)),qO 5 (.alc 111 [.int .i64 0,.int .i64 0]),qS 2 5 12] (.reg [qM 13 3,qM 14 0,wF 15 0 5,qL 16 15,wF 17 1 5,qL 18 17,qO 19 (.ssl (.t 14) (some (.t 16)) (some (.t 18))),jC 20 138 [.t 19],qO 21 (.bsl 1 [.t 20]),qO 22 (.app 9 1 16 (.t 13) (.t 21)),qM 3 22]))) (.reg [qB 23 .add 9 (cI 1),qM 9 23]))))
abbrev qh5:IC:=(sR [qO 2 (.mov (.c (.nl 1)))] (sR [qO 3 (.nilr 9 1)] (.seq (sR [qM 6 0,jC 7 171 [.t 6],qN 8 7,jI 9 0] (.block 0 (.loop qdt))) (sR [qM 24 3,qM 2 24] .ret))))
theorem qih:chkF Tryz.prog Tryz.f108 qh5 [.t 2] 25=true:=by kernel_rfl
abbrev tStr:Nat:=9
def digB (c:UInt8):Bool:=decide (48≤(c.toNat:Int)) && decide ((c.toNat:Int)≤57)
def letB (c:UInt8):Bool:=((decide (97≤(c.toNat:Int)) && decide ((c.toNat:Int)≤122) || decide (65≤(c.toNat:Int)) && decide ((c.toNat:Int)≤90)) || digB c) || decide (128≤(c.toNat:Int))
def qzl:List UInt8:=smallL++capL++[48,49,50,51,52,53,54,55,56,57]
theorem qex (c:UInt8):letB c=Sp.isLet c:=qme (p:=fun c=>letB c=Sp.isLet c) (by decide +kernel) c
theorem qtW (c:UInt8):(decide (128≤(c.toNat:Int)) || decide (0≤Lib.indexByte qzl c))=letB c:=qme (p:=fun c=>(decide (128≤(c.toNat:Int)) || decide (0≤Lib.indexByte qzl c))=letB c) (by decide +kernel) c
section
variable {E:Envt}
theorem qr8 (c:UInt8):PCall Tryz.prog E 260 [.int .u8 (c.toNat:Nat)] (·=.bool (digB c)):=by
 refine qag mixed Tryz.func260 qos ?_
 refine zV ?_
 ((with_reducible and_intros)<;>try exact sc_)
theorem qtV (c:UInt8):PCall Tryz.prog E 227 [.int .u8 (c.toNat:Nat)] (·=.bool (letB c)):=by
 refine qag mixed Tryz.func227 qmD ?_
 refine zV ?_
 ((with_reducible and_intros)<;>try exact sc_)
 refine useG (fun _=>qr8 c) rfl (.inl rfl) ?_
 refine zS ?_
 ((with_reducible and_intros)<;>try exact sc_)
theorem qlo (c:UInt8):PCall Tryz.prog E 232 [.int .u8 (c.toNat:Nat)] (·=.bool (letB c)):=by
 refine qag mixed Tryz.func232 qhp ?_
 refine zV ?_
 ((with_reducible and_intros)<;>try exact sc_)
 refine useG (fun _=>qhC qzl c) rfl (.inl rfl) ?_
 refine zS ?_
 ((with_reducible and_intros)<;>try exact sc_)
 rw [qtW]
def qsV (t:List UInt8) (p:Nat×Nat):List UInt8:=lowF (Sp.part t p)
def qbg (t:List UInt8):List (List UInt8):=(Sp.spans t).map (qsV t)
def strE (l:List (List UInt8)):List (List PV):=l.map fun x=>[PV.str x]
theorem qac (l:List (List UInt8)):(strE l).length=l.length:=by simp [strE]
theorem qdO (l m:List (List UInt8)):strE (l++m)=strE l++strE m:=by simp [strE]
theorem qbh (l:List (List UInt8)):strs l=.sl 1 (strE l):=rfl
theorem qaD {l:List (List UInt8)} {k:Nat} {x:List UInt8} (h:l[k]?=some x):(strE l).getD k []=[.str x]:=qa5 h
theorem qal (x:List UInt8):[[PV.str x]]=strE [x]:=rfl
def qpK (f:Option Nat):Int:=match f with|none=>-1|some a=>(a:Int)
theorem qr5 (t:List UInt8) (ht:t.length≤1000000000):PCall Tryz.prog E 165 [.str t] (·=strs (qbg t)):=by
 refine qag mixed Tryz.func165 qon ?_
 refine zV ?_
 refine qae (fun n fr L=>∃ (i:Nat) (f:Option Nat) (l:List (List UInt8)),t.length+1 - i=n∧(i≤t.length+1)∧(∀ a,f=some a→a < i∧i≤t.length)∧(l.length≤i)∧(l++(Sp.wsp i f (t.drop i)).map (qsV t)=qbg t)∧fr=(.p (.str t)::oo::oo::.row (.l 3)::.p (int (qpK f))::.p (int (i:Nat))::oF (oC (oB [])))∧L=[(.l 3,.row (strE l) tStr 1 true)]) (t.length+1 - 0) _ _ zF_ zF_ ⟨0,none,[],rfl,by omega,by simp,by simp,rfl,rfl,rfl⟩ ?_
 rintro n fr L ⟨i,f,l,rfl,hi1,hf,hll,hl,rfl,rfl⟩
 simp only [qgA,ZZ,WW,Ze,reduceCtorEq,zd,ze,za,zf,zb]
 refine br ?_ ?_
 ·intro h
  have hle:i≤t.length:=by have:=of_decide_eq_true h;omega
  refine zS ?_
  ((with_reducible and_intros)<;>try exact sc_)
  refine useG (fun _=>qtV (t.getD i 0)) rfl (.inl rfl) ?_
  refine zS ?_
  ((with_reducible and_intros)<;>try exact sc_)
  have hin:(decide ((i:Int) < t.length) && letB (t.getD i 0))=true→∃ hh:i < t.length,Sp.isLet t[i]=true:=by
   intro hb
   simp only [zj,decide_eq_true_eq] at hb
   have hh:i < t.length:=by omega
   refine ⟨hh,?_⟩
   rw [← qex,← hb.2]
   simp [zy,hh]
  have hout:(decide ((i:Int) < t.length) && letB (t.getD i 0))=false→∀ hh:i < t.length,Sp.isLet t[i]=false:=by
   intro hb hh
   rw [show decide ((i:Int) < t.length)=true from by simp [hh],Bool.true_and] at hb
   rw [← qex,← hb]
   simp [zy,hh]
  generalize (decide ((i:Int) < t.length) && letB (t.getD i 0))=b at hin hout ⊢
  cases f with
  |none=>
   have e1:decide (qpK none < 0)=true:=by decide
   have e2:decide (0≤qpK none)=false:=by decide
   cases b with
   |true=>
    obtain ⟨hh,hlet⟩:=hin rfl
    have e3:decide (0≤(i:Int))=true:=by simp
    have hnx:=Sp.wsp_let t i none hh _ rfl hlet
    simp only [ZZ,WW,Ze,reduceCtorEq,zd,ze,za,zf,zb,e1,e2,e3,yo]
    refine qad zE_ ?_
    simp only [ZZ,WW,Ze,reduceCtorEq,zd,ze,za,zf,zb,e1,e2,e3,yo]
    refine qad zE_ ?_
    refine zS ?_
    ((with_reducible and_intros)<;>try exact sc_)
    refine qab (t.length+1 - (i+1)) _ _ (by omega) zF_ zF_ ⟨i+1,some i,l,rfl,by omega,by intro a ha;cases ha;omega,by omega,by rw [← hl,hnx];rfl,rfl,rfl⟩
   |false=>
    have hnx:Sp.wsp i none (t.drop i)=Sp.wsp (i+1) none (t.drop (i+1)):=by
     by_cases hh:i < t.length
     ·exact Sp.wsp_non t i hh _ rfl (hout rfl hh)
     ·rw [Sp.wsp_out t i (by omega),Sp.wsp_out t (i+1) (by omega)]
    simp only [ZZ,WW,Ze,reduceCtorEq,zd,ze,za,zf,zb,e1,e2,yo]
    refine qad zE_ ?_
    simp only [ZZ,WW,Ze,reduceCtorEq,zd,ze,za,zf,zb,e1,e2,yo]
    refine qad zE_ ?_
    refine zS ?_
    ((with_reducible and_intros)<;>try exact sc_)
    refine qab (t.length+1 - (i+1)) _ _ (by omega) zF_ zF_ ⟨i+1,none,l,rfl,by omega,by simp,by omega,by rw [← hl,hnx],rfl,rfl⟩
  |some a=>
   obtain ⟨ha1,ha2⟩:=hf a rfl
   have e1:decide (qpK (some a) < 0)=false:=decide_eq_false (by simp only [qpK];omega)
   have e2:decide (0≤qpK (some a))=true:=decide_eq_true (by simp only [qpK];omega)
   cases b with
   |true=>
    obtain ⟨hh,hlet⟩:=hin rfl
    have hnx:=Sp.wsp_let t i (some a) hh _ rfl hlet
    simp only [ZZ,WW,Ze,reduceCtorEq,zd,ze,za,zf,zb,e1,e2,yo]
    refine qad zE_ ?_
    simp only [ZZ,WW,Ze,reduceCtorEq,zd,ze,za,zf,zb,e1,e2,yo]
    refine qad zE_ ?_
    refine zS ?_
    ((with_reducible and_intros)<;>try exact sc_)
    refine qab (t.length+1 - (i+1)) _ _ (by omega) zF_ zF_ ⟨i+1,some a,l,rfl,by omega,by intro q hq;cases hq;omega,by omega,by rw [← hl,hnx];rfl,rfl,rfl⟩
   |false=>
    have hnx:Sp.wsp i (some a) (t.drop i)=(a,i) :: Sp.wsp (i+1) none (t.drop (i+1)):=by
     by_cases hh:i < t.length
     ·exact Sp.wsp_end t i a hh _ rfl (hout rfl hh)
     ·exact Sp.wsp_fin t i a (by omega)
    simp only [ZZ,WW,Ze,reduceCtorEq,zd,ze,za,zf,zb,e1,e2,yo]
    refine qad zE_ ?_
    have e4:decide (0≤((a:Nat):Int))=true:=by simp
    simp only [ZZ,WW,Ze,reduceCtorEq,zd,ze,za,zf,zb,e1,e2,e4,qpK,yo]
    ((with_reducible and_intros)<;>try exact sc_)
    refine use1 (qem (Sp.part t (a,i)) (by have:=Sp.part_len t a i;omega)) rfl (.inl rfl) ?_
    refine zS ?_
    simp only [qac,qal,← qdO]
    ((with_reducible and_intros)<;>try exact sc_)
    refine qad zE_ ?_
    refine zS ?_
    ((with_reducible and_intros)<;>try exact sc_)
    refine qab (t.length+1 - (i+1)) _ _ (by omega) zF_ zF_ ⟨i+1,none,l++[lowF (Sp.part t (a,i))],rfl,by omega,by simp,by rw [zq];simp;omega,by rw [← hl,hnx];simp [qsV],rfl,rfl⟩
 ·intro h
  have hgt:i=t.length+1:=by have:=of_decide_eq_false h;omega
  have hfn:f=none:=by
   cases f with
   |none=>rfl
   |some a=>have:=(hf a rfl).2;omega
  subst hfn
  rw [Sp.wsp_out t i (by omega)] at hl
  simp only [List.map_nil,List.append_nil] at hl
  refine zS ?_
  rw [qbh,hl]
def sp2 (p:Nat×Nat):Int×Int:=(((p.1:Nat):Int),((p.2:Nat):Int))
def qkw (t:List UInt8):List (Int×Int):=(Sp.spans t).map sp2
theorem qo0 (t:List UInt8) (ht:t.length≤1000000000):PCall Tryz.prog E 171 [.str t] (·=sps (qkw t)):=by
 refine qag mixed Tryz.func171 qgV ?_
 refine zV ?_
 refine qae (fun n fr L=>∃ (i:Nat) (l:List (Int×Int)),t.length+1 - i=n∧(i≤t.length+1)∧(l.length≤i)∧(l++(Sp.wsp i none (t.drop i)).map sp2=qkw t)∧fr=(.p (.str t)::oo::oo::.row (.l 3)::.p (int (i:Nat))::oF (oo::[]))∧L=[(.l 3,.row (l.map spn) qhS 2 true)]) (t.length+1 - 0) _ _ zF_ zF_ ⟨0,[],rfl,by omega,by simp,rfl,rfl,rfl⟩ ?_
 rintro n fr L ⟨i,l,rfl,hi1,hll,hl,rfl,rfl⟩
 simp only [qcT,ZZ,WW,Ze,reduceCtorEq,zd,ze,za,zf,zb]
 refine br ?_ ?_
 ·intro h
  have hlt:i < t.length:=by have:=of_decide_eq_true h;omega
  have hgi:t.getD i 0=t[i]:=by simp [zy,hlt]
  refine zS ?_
  ((with_reducible and_intros)<;>try exact sc_)
  refine use1 (qlo (t.getD i 0)) rfl (.inl rfl) ?_
  rw [hgi]
  refine zS ?_
  refine br ?_ ?_
  ·intro hb
   have hb:Sp.isLet t[i]=false:=by rw [← qex];simpa using hb
   have hnx:=Sp.wsp_non t i hlt _ rfl hb
   refine zS ?_
   refine qad zE_ ?_
   refine zS ?_
   ((with_reducible and_intros)<;>try exact sc_)
   refine qab (t.length+1 - (i+1)) _ _ (by omega) zF_ zF_ ⟨i+1,l,rfl,by omega,by omega,by rw [← hl,hnx],rfl,rfl⟩
  ·intro hb
   have hb:Sp.isLet t[i]=true:=by rw [← qex];simpa using hb
   have hnx:=Sp.wsp_let t i none hlt _ rfl hb
   refine zS ?_
   refine qae (fun n fr L=>∃ (k:Nat),t.length - k=n∧(i≤k∧k≤t.length)∧(i < k→Sp.wsp i none (t.drop i)=Sp.wsp k (some i) (t.drop k))∧fr=(.p (.str t)::oo::oo::.row (.l 3)::.p (int (i:Nat))::.p (int (k:Nat))::oF [])∧L=[(.l 3,.row (l.map spn) qhS 2 true)]) (t.length - i) _ _ zF_ zF_ ⟨i,rfl,by omega,by omega,rfl,rfl⟩ ?_
   rintro n fr L ⟨k,rfl,hk1,hk2,rfl,rfl⟩
   simp only [qcS,ZZ,WW,Ze,reduceCtorEq,zd,ze,za,zf,zb]
   ((with_reducible and_intros)<;>try exact sc_)
   refine useG (fun _=>qlo (t.getD k 0)) rfl (.inl rfl) ?_
   refine zS ?_
   ((with_reducible and_intros)<;>try exact sc_)
   refine br ?_ ?_
   ·intro hc
    simp only [zj,decide_eq_true_eq] at hc
    have hkl:k < t.length:=by omega
    have hlk:Sp.isLet t[k]=true:=by
     rw [← qex,← hc.2]
     simp [zy,hkl]
    have hnx3:Sp.wsp i none (t.drop i)=Sp.wsp (k+1) (some i) (t.drop (k+1)):=by
     rcases Nat.lt_or_ge i k with h'|h'
     ·rw [hk2 h',Sp.wsp_let t k (some i) hkl _ rfl hlk]
      rfl
     ·have e:k=i:=by omega
      subst e
      exact hnx
    refine zS ?_
    ((with_reducible and_intros)<;>try exact sc_)
    refine qab (t.length - (k+1)) (.p (.str t)::oo::oo::.row (.l 3)::.p (int (i:Nat))::.p (int ((k+1):Nat))::oF []) [(.l 3,.row (l.map spn) qhS 2 true)] (by omega) zF_ zF_ ⟨k+1,rfl,by omega,fun _=>hnx3,rfl,rfl⟩
   ·intro hc
    have hik:i < k:=by
     rcases Nat.lt_or_ge i k with h'|h'
     ·exact h'
     ·have e:k=i:=by omega
      subst e
      rw [show decide ((k:Int) < t.length)=true from by simp [hlt],Bool.true_and,hgi,qex,hb] at hc
      cases hc
    have hnx2:Sp.wsp k (some i) (t.drop k)=(i,k) :: Sp.wsp (k+1) none (t.drop (k+1)):=by
     by_cases hh:k < t.length
     ·refine Sp.wsp_end t k i hh _ rfl ?_
      rw [show decide ((k:Int) < t.length)=true from by simp [hh],Bool.true_and,qex] at hc
      rw [← hc]
      simp [zy,hh]
     ·exact Sp.wsp_fin t k i (by omega)
    refine zS ?_
    simp only [List.length_map]
    ((with_reducible and_intros)<;>try exact sc_)
    refine qad zE_ ?_
    refine zS ?_
    ((with_reducible and_intros)<;>try exact sc_)
    refine qab (t.length+1 - (k+1)) _ _ (by omega) zF_ (by rw [zG];simp only [spn,ZZ,WW,Ze,reduceCtorEq,zd,ze,za,zf,zb]) ⟨k+1,l++[(((i:Nat):Int),((k:Nat):Int))],rfl,by omega,by rw [zq];simp;omega,by rw [← hl,hk2 hik,hnx2];simp [sp2],rfl,rfl⟩
 ·intro h
  have hgt:t.length≤i:=by have:=of_decide_eq_false h;omega
  rw [Sp.wsp_out t i hgt] at hl
  simp only [List.map_nil,List.append_nil] at hl
  refine zS ?_
  rw [hl]
  rfl
end
theorem qu9 (t:Sp.Bs):∀ (i:Nat) (f:Option Nat),(∀ a,f=some a→a≤i)→∀ p∈Sp.wsp i f t,p.1≤p.2∧p.2≤i+t.length:=by
 induction t with
 |nil=>
  intro i f hf p hp
  cases f with
  |none=>simp [Sp.wsp] at hp
  |some a=>simp [Sp.wsp] at hp;subst hp;have:=hf a rfl;simp;omega
 |cons c r ih=>
  intro i f hf p hp
  unfold Sp.wsp at hp
  split at hp
  ·have:=ih (i+1) _ (by rintro a ⟨⟩;cases f with|none=>simp|some b=>have:=hf b rfl;simp;omega) p hp
   simp;omega
  ·cases f with
   |none=>have:=ih (i+1) none (by simp) p hp;simp;omega
   |some a=>
    simp at hp
    rcases hp with rfl|hp
    ·have:=hf a rfl;simp;omega
    ·have:=ih (i+1) none (by simp) p hp;simp;omega
theorem qva (t:Sp.Bs) (p:Nat×Nat) (hp:p∈Sp.spans t):p.1≤p.2∧p.2≤t.length:=by
 have:=qu9 t 0 none (by simp) p hp
 omega
section
variable {E:Envt}
theorem qns (t:List UInt8) (ht:t.length≤1000000000):PCall Tryz.prog E 108 [.str t] (·=strs (qbg t)):=by
 refine qag mixed Tryz.func108 qih ?_
 refine zV ?_
 refine use1 (qo0 t ht) rfl (.inl rfl) ?_
 simp only [ZZ,WW,Ze,reduceCtorEq,zd,ze,za,zf,zb,sps]
 have hsl:=Sp.spans_len t
 have hln:((qkw t).map spn).length=(Sp.spans t).length:=by simp [qkw]
 have hget:∀ k p,(Sp.spans t)[k]?=some p→((qkw t).map spn).getD k []=[int (p.1:Nat),int (p.2:Nat)]:=fun k p hp=>by
  rw [show (qkw t).map spn=(Sp.spans t).map (fun p=>[int (p.1:Nat),int (p.2:Nat)]) from by simp [qkw,sp2,spn]]
  exact qa5 hp
 generalize (qkw t).map spn=es at hln hget ⊢
 refine qae (fun n fr L=>∃ (k:Nat) (l:List (List UInt8)),k≤(Sp.spans t).length∧n=(Sp.spans t).length - k∧(l=((Sp.spans t).take k).map (qsV t))∧fr=(.p (.str t)::oo::oo::.row (.l 3)::oo::oo::oo::.p (.sl 2 es)::.p (int ((Sp.spans t).length:Nat))::.p (int (k:Nat))::oD (oC (oB (oo::[]))))∧L=[(.l 3,.row (strE l) tStr 1 true)]) ((Sp.spans t).length) _ _ (by simp only [hln,ZZ,WW,Ze,reduceCtorEq,zd,ze,za,zf,zb];try trivial) zF_ ⟨0,[],by omega,by omega,by simp,rfl,rfl⟩ ?_
 rintro n fr L ⟨k,l,hk,rfl,hl,rfl,rfl⟩
 simp only [qdt,ZZ,WW,Ze,reduceCtorEq,zd,ze,za,zf,zb]
 refine br ?_ ?_
 ·intro h
  have hlt:k < (Sp.spans t).length:=by have:=of_decide_eq_true h;omega
  obtain ⟨p,hp⟩:∃ x,(Sp.spans t)[k]?=some x:=⟨_,List.getElem?_eq_getElem hlt⟩
  have hg:=hget k p hp
  obtain ⟨hp1,hp2⟩:=qva t p (List.mem_of_getElem? hp)
  have hlk:l.length=k:=by rw [hl];simp;omega
  simp only [ZZ,WW,Ze,reduceCtorEq,zd,ze,za,zf,zb,hg,hln]
  ((with_reducible and_intros)<;>try exact sc_)
  refine use1 (qlJ (Sp.part t (p.1,p.2)) (by have:=Sp.part_len t p.1 p.2;omega)) rfl (.inl rfl) ?_
  refine zS ?_
  simp only [qac,qal,← qdO]
  ((with_reducible and_intros)<;>try exact sc_)
  refine qab ((Sp.spans t).length - (k+1)) _ _ (by omega) zF_ zF_ ⟨k+1,l++[lowF (Sp.part t (p.1,p.2))],by omega,rfl,by rw [hl,List.take_succ_eq_append_getElem hlt,(List.getElem?_eq_some_iff.1 hp).2,zG];rfl,rfl,rfl⟩
 ·intro h
  have hge:(Sp.spans t).length≤k:=by have:=of_decide_eq_false h;omega
  rw [List.take_of_length_le hge] at hl
  refine zS ?_
  rw [qbh,hl]
  rfl
end
end Go.Proofs.YtekhobchfhhofaaGreatDoor
namespace Go.Proofs.YtekhobchfhhofaaGreatDoor
open Nat renaming le_refl→zO
open List renaming getElem?_of_mem→zW
open Bool renaming and_eq_true→zj,or_eq_true→yd
open _root_.Array renaming getElem?_eq_some_iff→zC
open Go.Lib Go.RowKit Go.Shelf
theorem qrM {s:ByteArray} {j:Nat} (h:j < s.size):s.get! j=s[j]'h:=by
 simp [ByteArray.get!,getElem!_pos,h]
 rfl
theorem qqT (s:ByteArray) (pos:Nat) (h:pos < s.size) (ha:128≤(s[pos]'h).toNat) :
  128≤(Utf8.decode s pos).1∧(Utf8.decode s pos).1≤1114111∧1≤(Utf8.decode s pos).2∧pos+(Utf8.decode s pos).2≤s.size∧∀ j (hj:j < s.size),pos≤j→j < pos+(Utf8.decode s pos).2→128≤(s[j]'hj).toNat:=by
 have g0:s.get! (pos+0)=s[pos]'h:=qrM h
 have hb:(s[pos]'h).toNat < 256:=(s[pos]'h).toNat_lt
 have hc:∀ k,(decide (pos+k < s.size) && ((s.get! (pos+k)).toNat / 64 == 2))=true→∃ hk:pos+k < s.size,128≤(s[pos+k]'hk).toNat:=by
  intro k hk
  simp only [zj,decide_eq_true_eq,beq_iff_eq] at hk
  refine ⟨hk.1,?_⟩
  have:=hk.2
  rw [qrM hk.1] at this
  omega
 have one:∀ j (hj:j < s.size),pos≤j→j < pos+1→128≤(s[j]'hj).toNat:=by
  intro j hj h1 h2
  obtain rfl:j=pos:=by omega
  exact ha
 have hw:∀ n,n≤4→(∀ k,1≤k→k < n→(decide (pos+k < s.size) && ((s.get! (pos+k)).toNat / 64 == 2))=true)→1≤n→pos+n≤s.size∧∀ j (hj:j < s.size),pos≤j→j < pos+n→128≤(s[j]'hj).toNat:=by
  intro n hn hk h1
  constructor
  ·by_cases e:n=1
   ·omega
   ·obtain ⟨hx,_⟩:=hc (n - 1) (hk (n - 1) (by omega) (by omega))
    omega
  ·intro j hj j1 j2
   by_cases e:j=pos
   ·subst e;exact ha
   ·obtain ⟨k,rfl⟩:∃ k,j=pos+k:=⟨j - pos,by omega⟩
    obtain ⟨_,hx⟩:=hc k (hk k (by omega) (by omega))
    exact hx
 unfold Utf8.decode
 simp only [g0]
 rw [if_neg (by omega)]
 split
 ·rename_i h1
  simp only [zj] at h1
  split
  ·rename_i h2
   refine ⟨by omega,by omega,(by show 1≤2;decide),?_⟩
   exact hw 2 (by decide) (fun k k1 k2=>by obtain rfl:k=1:=by omega
                                           simpa using h1.2) (by decide)
  ·exact ⟨by decide,by decide,by decide,by omega,one⟩
 ·split
  ·rename_i h1
   simp only [zj] at h1
   split
   ·rename_i h2
    simp only [zj,decide_eq_true_eq] at h2
    refine ⟨by omega,?_,(by show 1≤3;decide),?_⟩
    ·have:=h2.2
     rw [Utf8.valid] at this
     simp only [yd,zj,decide_eq_true_eq] at this
     omega
    ·exact hw 3 (by decide) (fun k k1 k2=>by
      rcases (show k=1∨k=2 by omega) with rfl|rfl
      ·simpa using h1.1.2
      ·simpa using h1.2) (by decide)
   ·exact ⟨by decide,by decide,by decide,by omega,one⟩
  ·split
   ·rename_i h1
    simp only [zj] at h1
    split
    ·rename_i h2
     simp only [zj,decide_eq_true_eq] at h2
     refine ⟨by omega,?_,(by show 1≤4;decide),?_⟩
     ·have:=h2.2
      rw [Utf8.valid] at this
      simp only [yd,zj,decide_eq_true_eq] at this
      omega
     ·exact hw 4 (by decide) (fun k k1 k2=>by
       rcases (show k=1∨k=2∨k=3 by omega) with rfl|rfl|rfl
       ·simpa using h1.1.1.2
       ·simpa using h1.1.2
       ·simpa using h1.2) (by decide)
    ·exact ⟨by decide,by decide,by decide,by omega,one⟩
   ·exact ⟨by decide,by decide,by decide,by omega,one⟩
theorem qkx {P:Program} (w:World) (g:Nat) (s:ByteArray) (pos:Nat) (ty:TypeId) (hg:w.heap[g]?=some (.stringIter s pos)) (h:pos < s.size) :
  (Instr.next (.pointer (some ⟨g,0,none⟩)) true ty).run P w=.ok (.tuple #[.bool true,.int .i64 pos,.int .i32 (Utf8.decode s pos).1]) { w with heap:=w.heap.setIfInBounds g (.stringIter s (pos+(Utf8.decode s pos).2)) }:=by
 simp only [Instr.next,getObj,setObj,Sem.run_bind,Sem.run,hg,Result.andThen,h,if_true]
 rfl
theorem qnC {P:Program} (w:World) (g:Nat) (s:ByteArray) (pos:Nat) (ty:TypeId) (hg:w.heap[g]?=some (.stringIter s pos)) (h:¬ pos < s.size) :
  (Instr.next (.pointer (some ⟨g,0,none⟩)) true ty).run P w=.ok (.tuple #[.bool false]) w:=by
 simp only [Instr.next,getObj,Sem.run_bind,Sem.run,hg,Result.andThen,h,if_false]
 rfl
theorem qkT {l:List UInt8} {c:UInt8} (h:∀ b∈l,b≠c):Lib.indexByte l c=-1:=by
 have h1:=Lib.contains_iff_indexByte l c
 have h2:l.contains c=false:=by
  rw [Bool.eq_false_iff]
  intro h3
  exact h c (by simpa using h3) rfl
 rw [h2] at h1
 have h3:¬ (0:Int)≤Lib.indexByte l c:=of_decide_eq_false h1.symm
 have h4:-1≤Lib.indexByte l c:=by rw [← Lib.indexAny_one];exact Lib.indexAny_ge _ _
 omega
def Asc (s:ByteArray):Prop:=∀ (j:Nat) (b:UInt8),s.data.toList[j]?=some b→b.toNat < 128
theorem Asc.at' {s:ByteArray} (h:Asc s) {j:Nat} (hj:j < s.size):(s[j]'hj).toNat < 128:=h j _ (Lib.data_getElem? s j hj)
theorem Asc.rest {s:ByteArray} (h:Asc s) (i:Nat) {c:UInt8} (hc:128≤c.toNat):Lib.indexByte (s.extract i s.size).data.toList c=-1:=by
 refine qkT fun b hb e=>?_
 have hb:=mem_extract hb
 obtain ⟨j,hj⟩:=zW hb
 have:=h j b hj
 rw [e] at this
 omega
theorem qpE {w wx:World} {s:ByteArray} {i:Nat} (hit:wx.heap[w.heap.size]?=some (.stringIter s i)) (hbl:Below w.heap.size w wx) (j:Nat) :
  ({ wx with heap:=wx.heap.setIfInBounds w.heap.size (.stringIter s j) }:World).heap[w.heap.size]?=some (.stringIter s j)∧Below w.heap.size w { wx with heap:=wx.heap.setIfInBounds w.heap.size (.stringIter s j) }:=by
 have hlt:w.heap.size < wx.heap.size:=(zC.1 hit).1
 refine ⟨by simp [hlt],hbl.os,hbl.tape,hbl.output,by simpa using hbl.size,fun b hb=>?_⟩
 rw [← hbl.block b hb]
 exact Array.getElem?_setIfInBounds_ne (by omega)
theorem qsk {s chars:ByteArray} (ha:Asc chars) {i n:Nat} (h:Lib.NoAny s.data.toList chars.data.toList i) (hn:∀ j (hj:j < s.size),i≤j→j < i+n→128≤(s[j]'hj).toNat):Lib.NoAny s.data.toList chars.data.toList (i+n):=by
 intro j b hj hb
 by_cases hji:j < i
 ·exact h j b hji hb
 ·have hjs:j < s.size:=by
   have:=(List.getElem?_eq_some_iff.1 hb).1
   rwa [← Lib.size_eq] at this
  have h1:=hn j hjs (by omega) hj
  have h2:s[j]'hjs=b:=by
   have:=Lib.data_getElem? s j hjs
   rw [this] at hb;exact Option.some.inj hb
  rw [h2] at h1
  rw [Bool.eq_false_iff]
  intro h3
  have h3:b∈chars.data.toList:=by simpa using h3
  obtain ⟨k,hk⟩:=zW h3
  have:=ha k b hk
  omega
theorem qqY {B:Nat} {a w:World} {n:Nat} (h:Below B a w):Below B a (w.drewN n):=⟨h.os,h.tape,h.output,h.size,h.block⟩
section
variable {P:Program} {ρ:Ren}
set_option maxHeartbeats 4000000 in
set_option maxRecDepth 1000000 in
theorem qoO (L:Lays.n152 P ρ) (s:ByteArray) (w:World) (hs:Asc s) :
  Calls P (ρ.f 152) #[.string s,.int .i32 65533] w fun e w'=>e=.returned (.int .i64 (-1))∧Below w.heap.size w w':=by
 have HA:Aside (Asc s):=hs
 clear hs
 have t3:=L.t3;have a3:=L.a3;have z3:=L.z3;have v3:=L.v3
 have t4:=L.t4;have a4:=L.a4;have z4:=L.z4;have v4:=L.v4
 have t5:=L.t5;have a5:=L.a5;have z5:=L.z5;have v5:=L.v5
 have t9:=L.t9;have a9:=L.a9;have z9:=L.z9;have v9:=L.v9
 have t21:=L.t21;have a21:=L.a21;have z21:=L.z21;have v21:=L.v21
 go_enter L.f152,Body.n152_ntmps ρ
 go_wp2
 go_loopg [5,6] s.size (fun g _ _ wx=>∃ i:Nat,i+g=s.size∧wx=w.iter s i)
 case atStart=>exact ⟨0,by omega,rfl⟩
 case round=>
  obtain ⟨i,hig,rfl⟩:=hrel
  cases gk with
  |zero=>
   obtain rfl:i=s.size:=by omega
   have hnx:=run_next_end (P:=P) w s s.size
   go_wp2
   go_ret
   exact ⟨rfl,(Below.refl _ _).alloc (zO _) _⟩
  |succ g=>
   have hi:i < s.size:=by omega
   have hx128:=HA.out.at' hi
   have hnx:=fun ty=>run_next_ascii (P:=P) w s i ty hi hx128
   have hne:(((s[i]'hi).toNat:Int) == 65533)=false:=beq_eq_false_iff_ne.2 (by omega)
   go_wp2
   go_roundg g
   case measure=>omega
   case rel=>exact ⟨i+1,by omega,rfl⟩
set_option maxHeartbeats 8000000 in
set_option maxRecDepth 1000000 in
theorem qoN (L:Lays.n152 P ρ) (s:ByteArray) (r:Int) (w:World) (hs:Asc s) (hz:s.size < 4611686018427387904) (h1:128≤r) (h2:r≤1114111) (h3:r≠65533) :
  Calls P (ρ.f 152) #[.string s,.int .i32 r] w fun e w'=>e=.returned (.int .i64 (-1))∧Below w.heap.size w w':=by
 have HA:Aside (Asc s):=hs
 clear hs
 have hne:(r == 65533)=false:=beq_eq_false_iff_ne.2 h3
 have hlt:decide (r < 128)=false:=decide_eq_false (by omega)
 have hle:decide (0≤r)=true:=decide_eq_true (by omega)
 have t3:=L.t3;have a3:=L.a3;have z3:=L.z3;have v3:=L.v3
 have t4:=L.t4;have a4:=L.a4;have z4:=L.z4;have v4:=L.v4
 have t5:=L.t5;have a5:=L.a5;have z5:=L.z5;have v5:=L.v5
 have t9:=L.t9;have a9:=L.a9;have z9:=L.z9;have v9:=L.v9
 have t21:=L.t21;have a21:=L.a21;have z21:=L.z21;have v21:=L.v21
 have mixed:=L.mixed
 have e119:∀ args w,(callFunc (ρ.f 119) args).run P w=.ok (.enter (ρ.f 119) args) w:=enters_of L.f119 (by kernel_rfl) rfl
 have e137:∀ args w,(callFunc (ρ.f 137) args).run P w=.ok (.enter (ρ.f 137) args) w:=enters_of L.f137 (by kernel_rfl) rfl
 by_cases hv:Lib.validRune r=true
 ·have hv2:Utf8.valid r=true:=by
   unfold Utf8.valid
   have h:=hv
   unfold Lib.validRune at h
   simp at h ⊢
   omega
  obtain ⟨m1,m2,m3⟩:=encode_facts r hv2 h1
  generalize hE:Utf8.encode r=rs at *
  obtain ⟨m,hm⟩:∃ m,rs.size=m+1:=⟨rs.size - 1,by omega⟩
  have hmr:m < rs.size:=by omega
  have m3':128≤(rs[m]'hmr).toNat:=by
   have h:=m3 (by omega)
   have e:rs.size - 1=m:=by omega
   simpa only [e] using h
  clear m3
  have w1:IntKind.i64.wrap ((rs.size:Int) - 1)=(m:Int):=by rw [wrap_small _ (by omega) (by omega)];omega
  have hx:=HA.out.rest (m+1) m3'
  have w4:m < s.size→IntKind.i64.wrap ((m:Int)+1)=(m:Int)+1:=fun _=>wrap_small _ (by omega) (by omega)
  clear hm m1 m2
  go_enter L.f152,Body.n152_ntmps ρ
  go_wp2_with (go_at_fn (ρ.f 119);refine (Any.utf8_ValidRune { L with } _ _).mono ?_;rintro e w' ⟨rfl,hw⟩;rw [hw])
  go_step3
  go_wp2
  go_loopg [9] 1 (fun g s9 wx=>g=1∧s9=.int .i64 (m:Int)∧wx=w)
  case atStart=>exact ⟨rfl,rfl,rfl⟩
  case round=>
   obtain ⟨rfl,rfl,rfl⟩:=hrel
   by_cases hin:m < s.size
   ·have w3:decide ((m:Int) < (s.size:Int))=true:=decide_eq_true (by omega)
    have hb:(((s[m]'hin).toNat:Int) == ((rs[m]'hmr).toNat:Int))=false:=beq_eq_false_iff_ne.2 (by have:=HA.out.at' hin;omega)
    have w4:=w4 hin
    have i3:(m:Int)+1≤(s.size:Int):=by omega
    have i4:¬ (s.size:Int) < (m:Int)+1:=by omega
    have i5:(0:Int)≤(m:Int)+1:=by omega
    have i6:((m:Int)+1).toNat=m+1:=by omega
    have i7:¬ (s.size:Int) < (m:Int):=by omega
    go_wp2_with fail
    go_step3
    go_wp2_with fail
    go_quiet_o (fail)
    go_wp2_with fail
    have hc:∀ W,Calls P (ρ.f 137) #[.string (s.extract (m+1) s.size),.int .u8 ((rs[m]'hmr).toNat:Int)] W fun e w'=>e=.returned (.int .i64 (-1))∧w'=W:=fun W=>by
     have h:=Any.strings_IndexByte (P:=P) (ρ:=ρ) { L with } (s.extract (m+1) s.size) ((rs[m]'hmr).toNat:Int) W
     rwa [show (((rs[m]'hmr).toNat:Int)).toNat.toUInt8=rs[m]'hmr from by simp,hx] at h
    go_quiet_o (exact (hc _).mono fun _ _ h=>⟨h.1,_,h.2⟩)
    go_wp2_with fail
    simp only [Exit.noGoto,Exit.inBlock,Exit.then]
    go_ret
    exact ⟨rfl,qqY (Below.refl _ _)⟩
   ·have w3:decide ((m:Int) < (s.size:Int))=false:=decide_eq_false (by omega)
    go_wp2
    rw [Exit.noGoto_ret]
    go_ret
    exact ⟨rfl,Below.refl _ _⟩
 ·have hv':Lib.validRune r=false:=Bool.eq_false_iff.2 hv
  go_enter L.f152,Body.n152_ntmps ρ
  go_wp2_with (go_at_fn (ρ.f 119);refine (Any.utf8_ValidRune { L with } _ _).mono ?_;rintro e w' ⟨rfl,rfl⟩)
  go_ret
  exact ⟨rfl,Below.refl _ _⟩
theorem qmQ (L:Lays.n152 P ρ) (s:ByteArray) (r:Int) (w:World) (hs:Asc s) (hz:s.size < 4611686018427387904) (h1:128≤r) (h2:r≤1114111) :
  Calls P (ρ.f 152) #[.string s,.int .i32 r] w fun e w'=>e=.returned (.int .i64 (-1))∧Below w.heap.size w w':=by
 by_cases h3:r=65533
 ·subst h3;exact qoO L s w hs
 ·exact qoN L s r w hs hz h1 h2 h3
set_option maxHeartbeats 8000000 in
set_option maxRecDepth 1000000 in
theorem qmR (L:Lays.n153 P ρ) (s chars:ByteArray) (w:World) (h2:2≤chars.size) (h8:s.size≤8) (hz:chars.size < 4611686018427387904) (hascii:Asc chars) :
  Calls P (ρ.f 153) #[.string s,.string chars] w fun e w'=>e=.returned (.int .i64 (Lib.indexAny s.data.toList chars.data.toList))∧Below w.heap.size w w':=by
 have HA:Aside (Asc chars):=hascii
 clear hascii
 have hemp:chars.toList.isEmpty=false:=by
  rw [Lib.toList_data]
  cases h:chars.data.toList with
  |nil=>have:=Lib.size_eq chars;rw [h,List.length_nil] at this;omega
  |cons _ _=>rfl
 have hn1:((chars.size:Int) == 1)=false:=beq_eq_false_iff_ne.2 (by omega)
 have h8z:decide ((8:Int) < (s.size:Int))=false:=decide_eq_false (by omega)
 have t3:=L.t3;have a3:=L.a3;have z3:=L.z3;have v3:=L.v3
 have t4:=L.t4;have a4:=L.a4;have z4:=L.z4;have v4:=L.v4
 have t5:=L.t5;have a5:=L.a5;have z5:=L.z5;have v5:=L.v5
 have t9:=L.t9;have a9:=L.a9;have z9:=L.z9;have v9:=L.v9
 have t21:=L.t21;have a21:=L.a21;have z21:=L.z21;have v21:=L.v21
 have e152:∀ args w,(callFunc (ρ.f 152) args).run P w=.ok (.enter (ρ.f 152) args) w:=enters_of L.f152 (by kernel_rfl) rfl
 have e226:∀ args w,(callFunc (ρ.f 226) args).run P w=.ok (.enter (ρ.f 226) args) w:=enters_of L.f226 (by kernel_rfl) rfl
 go_enter L.f153,Body.n153_ntmps ρ
 go_wp2_with (go_at_fn (ρ.f 226);refine (Any.strings_shouldUseASCIISet { L with } _ _).mono ?_;rintro e w' ⟨rfl,hw⟩;rw [hw,h8z])
 go_loopg [9,10] s.size (fun g _ _ wx=>∃ i:Nat,i≤s.size∧s.size - i≤g∧wx.heap[w.heap.size]?=some (.stringIter s i)∧Below w.heap.size w wx∧Lib.NoAny s.data.toList chars.data.toList i)
 case atStart=>exact ⟨0,by omega,by omega,by rw [World.iter_heap],(Below.refl _ _).alloc (zO _) _,Lib.NoAny.zero _ _⟩
 case round=>
  obtain ⟨i,his,hig,hit,hbl,hno⟩:=hrel
  have HN:Aside (Lib.NoAny s.data.toList chars.data.toList i):=hno
  clear hno
  by_cases hi:i < s.size
  ·obtain ⟨g,rfl⟩:∃ g,gk=g+1:=⟨gk - 1,by omega⟩
   by_cases hx128:(s[i]'hi).toNat < 128
   ·obtain ⟨x,hx⟩:∃ x:UInt8,s[i]'hi=x:=⟨_,rfl⟩
    have hnx:=fun ty=>qkx (P:=P) wr w.heap.size s i ty hit hi
    obtain ⟨k1,k2⟩:=qpE hit hbl (i+1)
    rw [decode_ascii s i hi hx128] at hnx
    simp only [hx] at hnx hx128
    have hxl:s.data.toList[i]?=some x:=by rw [← hx];exact Lib.data_getElem? s i hi
    generalize hW:({ wr with heap:=wr.heap.setIfInBounds w.heap.size (.stringIter s (i+1)) }:World)=W1 at *
    have Hx:Aside (s.data.toList[i]?=some x):=hxl
    clear hxl hx hW
    have hcon:=Lib.contains_iff_indexByte chars.data.toList x
    have hback:((x.toNat:Int)).toNat.toUInt8=x:=by simp
    cases hin:chars.data.toList.contains x
    ·rw [hin] at hcon
     have hlt:¬ ((0:Int)≤Lib.indexByte chars.data.toList x):=of_decide_eq_false hcon.symm
     clear hcon
     go_wp2_with (go_at_fn (ρ.f 152);refine (Any.strings_IndexRune_ascii { L with } _ _ _ (by omega) (by omega)).mono ?_;rintro e w' ⟨rfl,hw⟩;rw [hw,hback])
     go_roundg g
     case measure=>omega
     case rel=>exact ⟨i+1,by omega,by omega,k1,k2,HN.out.succ Hx.out hin⟩
    ·rw [hin] at hcon
     have hge:(0:Int)≤Lib.indexByte chars.data.toList x:=of_decide_eq_true hcon.symm
     clear hcon
     go_wp2_with (go_at_fn (ρ.f 152);refine (Any.strings_IndexRune_ascii { L with } _ _ _ (by omega) (by omega)).mono ?_;rintro e w' ⟨rfl,hw⟩;rw [hw,hback])
     go_ret
     exact ⟨by rw [Lib.indexAny_hit HN.out Hx.out hin];rfl,k2⟩
   ·obtain ⟨d1,d2,d3,d4,d5⟩:=qqT s i hi (by omega)
    have hnx:=fun ty=>qkx (P:=P) wr w.heap.size s i ty hit hi
    obtain ⟨k1,k2⟩:=qpE hit hbl (i+(Utf8.decode s i).2)
    generalize hW:({ wr with heap:=wr.heap.setIfInBounds w.heap.size (.stringIter s (i+(Utf8.decode s i).2)) }:World)=W1 at *
    have H5:Aside (Lib.NoAny s.data.toList chars.data.toList (i+(Utf8.decode s i).2)):=qsk HA.out HN.out d5
    clear d5 hW
    generalize (Utf8.decode s i).2=wd at *
    generalize hcc:(((Utf8.decode s i).1:Nat):Int)=cc at *
    have hc1:128≤cc:=by omega
    have hc2:cc≤1114111:=by omega
    clear hcc d1 d2
    have hneg:¬ (0:Int)≤-1:=by decide
    go_wp2_with (go_at_fn (ρ.f 152);refine (qmQ { L with } chars cc W1 HA.out hz hc1 hc2).mono ?_;rintro e w' ⟨rfl,hw⟩)
    go_roundg g
    case measure=>omega
    case rel=>exact ⟨i+wd,by omega,by omega,by rw [hw.block _ (zC.1 k1).1];exact k1,k2.trans (hw.mono k2.size),H5.out⟩
  ·obtain rfl:i=s.size:=by omega
   have hnx:=fun ty=>qnC (P:=P) _ _ s s.size ty hit (by omega)
   go_wp2
   go_ret
   exact ⟨by rw [Lib.indexAny_none (by rw [← Lib.size_eq];exact HN.out)];rfl,hbl⟩
theorem qqg (L:Lays.n153 P ρ) (h116:(P.info? (ρ.t 116)).map (fun i=>(i.zero,i.size))=some (some (.agg (Array.replicate 256 (.bool false))),256)) (s chars:ByteArray) (w:World) (hs:s.size < 4294967281) (hcs:chars.size < 4294967281) (hac:Asc chars) :
  Calls P (ρ.f 153) #[.string s,.string chars] w fun e w'=>e=.returned (.int .i64 (Lib.indexAny s.data.toList chars.data.toList))∧Below w.heap.size w w':=by
 by_cases h0:chars.size=0
 ·exact (Any.strings_IndexAny_none L s chars w h0).mono fun e w' ⟨h1,h2⟩=>⟨h1,h2 ▸ Below.refl _ _⟩
 by_cases h1:chars.size=1
 ·exact (Any.strings_IndexAny_one L s chars w h1 hac).mono fun e w' ⟨h1,h2⟩=>⟨h1,h2 ▸ Below.refl _ _⟩
 by_cases h8:s.size≤8
 ·exact qmR L s chars w (by omega) h8 (by omega) hac
 ·refine (Any.strings_IndexAny_long L (zero_of_info h116).1 (zero_of_info h116).2 s chars w (by omega) (by omega) hs hcs hac).mono fun e w' ⟨h1,h2⟩=>⟨h1,?_⟩
  rw [h2]
  exact ((Below.refl _ _).alloc (zO _) _).alloc (by simp) _
end
end Go.Proofs.YtekhobchfhhofaaGreatDoor
namespace Go.Proofs.YtekhobchfhhofaaGreatDoor
open Nat renaming le_refl→zO,reduceAdd→zd,reduceEqDiff→zb,reduceLT→zf,reduceLeDiff→za,reduceMul→ze
open List renaming getElem?_eq_getElem→zh,getElem?_eq_some_iff→zm,mem_of_getElem?→zl,take_length→ya,take_succ_eq_append_getElem→zI
open Go.RowKit
def splF (s:List UInt8) (c:UInt8):List (List UInt8):=(Lib.splitB ⟨#[c]⟩ 0 (Lib.countB ⟨s.toArray⟩ ⟨#[c]⟩) ⟨s.toArray⟩).map (·.data.toList)
theorem qkv (sep:ByteArray):∀ (k:Nat) (s:ByteArray),(Lib.splitB sep 0 k s).length≤k+1∧∀ x∈Lib.splitB sep 0 k s,x.size≤s.size:=by
 intro k
 induction k with
 |zero=>intro s;simp [Lib.splitB]
 |succ k ih=>
  intro s
  unfold Lib.splitB
  split
  ·simp
  ·have:=ih (s.extract ((Lib.indexB s sep).toNat+sep.size) s.size)
   refine ⟨by simp;omega,fun x hx=>?_⟩
   simp only [List.mem_cons] at hx
   rcases hx with rfl|hx
   ·simp;omega
   ·have:=this.2 x hx;simp at this;omega
theorem qf1 (s:List UInt8) (c:UInt8):(splF s c).length≤s.length+1:=by
 have h1:=(qkv ⟨#[c]⟩ (Lib.countB ⟨s.toArray⟩ ⟨#[c]⟩) ⟨s.toArray⟩).1
 have h2:=Lib.countB_le ⟨#[c]⟩ (zO 1) (⟨s.toArray⟩:ByteArray).size ⟨s.toArray⟩ (zO _)
 rw [qee] at h2
 simp only [splF,List.length_map]
 omega
theorem qk6 (s:List UInt8) (c:UInt8):∀ x∈splF s c,x.length≤s.length:=by
 intro x hx
 simp only [splF,List.mem_map] at hx
 obtain ⟨y,hy,rfl⟩:=hx
 have:=(qkv ⟨#[c]⟩ (Lib.countB ⟨s.toArray⟩ ⟨#[c]⟩) ⟨s.toArray⟩).2 y hy
 rw [qee] at this
 rw [Array.length_toList]
 exact this
theorem qm0 {w:World} {U:Nat→Prop} {b:Nat}:∀ (l:List ByteArray) (off:Nat),(∀ i x,l[i]?=some x→w.cell? ⟨b,off+i,none⟩=some (.string x))→PRepE w U b 1 off ((l.map (·.data.toList)).map fun x=>[.str x])
 |[],off,h=>trivial
 |x :: r,off,h=>by
  refine ⟨rfl,⟨⟨.string x,by simpa using h 0 _ rfl,rfl,?_⟩,trivial⟩,qm0 r (off+1) fun i u hu=>?_⟩
  ·simp [PRep]
  ·have:=h (i+1) u (by simpa using hu)
   rwa [show off+(i+1)=off+1+i from by omega] at this
theorem qta:(Tryz.prog.info? 9).map (fun i=>(i.zero,i.size,i.bytes))=some (some (.string ByteArray.empty),1,16):=by kernel_rfl
theorem qjT (s:List UInt8) (c:UInt8) (hs:s.length≤1000000000):PCall Tryz.prog E0 113 [.str s,.str [c]] (·=strs (splF s c)):=by
 intro w U vs hU hE hEb hA
 obtain ⟨_,m,hm⟩:=hE
 simp only [PRepL,PRep] at hA
 obtain ⟨v,r,rfl,rfl,v2,r2,rfl,rfl,rfl⟩:=hA
 refine (Any.strings_Split Tryz.laySplit qta ⟨s.toArray⟩ ⟨#[c]⟩ m w (by rw [qee];omega) hm (zO 1)).mono ?_
 rintro e w' ⟨rfl,rfl⟩
 have hl:=Lib.splitB_all ⟨#[c]⟩ (zO 1) 0 _ (⟨s.toArray⟩:ByteArray) rfl
 refine ⟨_,_,rfl,rfl,?_,⟨rfl,rfl,rfl,by simp,fun k hk _=>Lib.alloc_old w _ k hk⟩⟩
 have hln:(List.map (fun x=>[PV.str x]) (splF s c)).length=Lib.countB ⟨s.toArray⟩ ⟨#[c]⟩+1:=by simp [splF,hl]
 refine ⟨some ⟨w.heap.size,0,none⟩,Lib.countB ⟨s.toArray⟩ ⟨#[c]⟩+1,by rw [hln],by rw [hln];exact zO _,fun _=>⟨w.heap.size,0,rfl,by simp,fun h=>by have:=hU _ h;omega,?_⟩⟩
 ·refine qm0 _ 0 fun i x hx=>?_
  rw [Lib.cell_of_heap (heap_alloc_new w _)]
  simp [hx]
abbrev qkd:IC:=(sR [qO 4 (.mov (.c (.bool false)))] (sR [qM 5 0,qM 6 1,jC 7 130 [.t 5,.t 6],qB 8 .eql 7 (.c (.str [])),qM 4 8] .ret))
theorem qkn:chkF Tryz.prog Tryz.f112 qkd [.t 4] 9=true:=by kernel_rfl
def qsq (s of:List UInt8):Bool:=decide (Lib.trimS s of=[])
theorem dropW_nil {p:UInt8→Bool}:∀ {l:List UInt8},l.dropWhile p=[]↔l.all p=true
 |[]=>by simp
 |x :: r=>by
  simp only [List.dropWhile,List.all_cons]
  cases h:p x
  ·simp
  ·simpa using dropW_nil (l:=r)
theorem qlI (s of:List UInt8):qsq s of=s.all (fun c=>of.contains c):=by
 rw [Bool.eq_iff_iff,qsq,decide_eq_true_iff,Lib.trimS,Lib.trimLeftS,Lib.trimRightS,dropW_nil]
 constructor
 ·intro h
  have h2:∀ l:List UInt8,(l.dropWhile fun c=>of.contains c).all (fun c=>of.contains c)=true→l.all (fun c=>of.contains c)=true:=by
   intro l
   induction l with
   |nil=>simp
   |cons x r ih=>
    simp only [List.dropWhile]
    cases hx:of.contains x
    ·intro h;exact h
    ·intro h;simp only [List.all_cons,hx,Bool.true_and];exact ih h
  have:=h2 s.reverse (by simpa [List.all_reverse] using h)
  simpa [List.all_reverse] using this
 ·intro h
  have:(s.reverse.dropWhile fun c=>of.contains c)=[]:=dropW_nil.2 (by simpa [List.all_reverse] using h)
  rw [this]
  simp
section
variable {E:Envt}
def asc (l:List UInt8):Bool:=l.all fun b=>decide (b.toNat < 128)
theorem qxh {l:List UInt8} (h:asc l=true):∀ (j:Nat) b,(⟨l.toArray⟩:ByteArray).data.toList[j]?=some b→b.toNat < 128:=
 fun _ b hb=>of_decide_eq_true (List.all_eq_true.1 h b (zl (by simpa using hb)))
theorem qq7 (s cs:List UInt8) (hs:s.length≤1000000000) (hcs:cs.length≤1000000) (h2:asc cs=true):PCall Tryz.prog E 236 [.str s,.str cs] (·=int (Lib.indexAny s cs)):=
 qc4 rfl rfl fun w _=>(qqg Tryz.layIndexAny (by kernel_rfl) ⟨s.toArray⟩ ⟨cs.toArray⟩ w (by rw [qee];omega) (by rw [qee];omega) (qxh h2)).mono fun e w' h=>⟨h.1,qfI h.2⟩
theorem qkt (s cs:List UInt8) (hs:s.length≤1000000000) (hcs:cs.length≤1000000) (h2:asc cs=true):PCall Tryz.prog E 130 [.str s,.str cs] (·=.str (Lib.trimS s cs)):=
 qc4 rfl rfl fun w _=>(Any.strings_Trim_laid Tryz.layTrim (by kernel_rfl) ⟨s.toArray⟩ ⟨cs.toArray⟩ w (by rw [qee];omega) (by rw [qee];omega) (qxh h2)).mono fun e w' h=>⟨h.1,qfI h.2⟩
theorem qtO (s of:List UInt8) (hs:s.length≤1000000000) (ho:of.length≤1000) (ha:asc of=true):PCall Tryz.prog E 112 [.str s,.str of] (·=.bool (qsq s of)):=by
 refine qag mixed Tryz.func112 qkn ?_
 refine zV ?_
 refine use1 (qkt s of hs (by omega) ha) rfl (.inl rfl) ?_
 refine zS ?_
 rfl
def cutF (s p:List UInt8):List UInt8×List UInt8×Bool:=if 0≤Lib.index s p then (s.take (Lib.index s p).toNat,s.drop ((Lib.index s p).toNat+p.length),true) else (s,[],false)
end
theorem qqh (s p:List UInt8) (hs:s.length≤1000000000):PCall Tryz.prog E0 111 [.str s,.str p] (·=.tup [.str (cutF s p).1,.str (cutF s p).2.1,.bool (cutF s p).2.2]):=by
 intro w U vs hU hE hEb hA
 obtain ⟨_,m,hm⟩:=hE
 simp only [PRepL,PRep] at hA
 obtain ⟨v,r,rfl,rfl,v2,r2,rfl,rfl,rfl⟩:=hA
 refine (Any.strings_Cut Tryz.layCut ⟨s.toArray⟩ ⟨p.toArray⟩ m w (by rw [qee];omega) hm).mono ?_
 rintro e w' ⟨rfl,n,rfl⟩
 exact ⟨_,_,rfl,rfl,⟨[_,_,_],rfl,_,_,rfl,rfl,_,_,rfl,rfl,_,_,rfl,rfl,rfl⟩,⟨rfl,rfl,rfl,zO _,fun _ _ _=>rfl⟩⟩
theorem qsQ {E:Envt} (s t:List UInt8):PCall Tryz.prog E 80 [.str s,.str t] (·=int (Lib.compareBytes s t)):=
 qc4 rfl rfl fun w _=>(Any.strings_Compare Tryz.layCompare ⟨s.toArray⟩ ⟨t.toArray⟩ w).mono fun e w' h=>⟨h.1,by rw [h.2];exact Grow.refl _ _⟩
theorem qjB (s p:List UInt8):(cutF s p).1.length≤s.length∧(cutF s p).2.1.length≤s.length:=by
 unfold cutF
 split
 ·exact ⟨by simp;omega,by simp⟩
 ·simp
def qgx:IC:=(sR [qT 14 .lss 13 12] (.seq (jE 14) (.seq (.block 1 (sR [qM 15 13,qM 9 15] (sR [qM 16 0,qM 17 9,qO 18 (.idx (.t 16) (.t 17)),qM 10 18] (sR [qM 19 10,qB 20 .geq 19 (.c (.int .u8 97)),qM 21 20,⟨some 22,.mov (.t 10),(some (21,true))⟩,⟨some 23,.bin .leq (.t 22) (.c (.int .u8 122)),(some (21,true))⟩,qO 24 (.pick (.t 21) (.t 23) (.c (.bool false))),qO 25 (.not (.t 24)),qM 26 25,⟨some 27,.mov (.t 10),(some (26,true))⟩,⟨some 28,.call 260 [.t 27],(some (26,true))⟩,⟨some 29,.not (.t 28),(some (26,true))⟩,qO 30 (.pick (.t 26) (.t 29) (.c (.bool false))),qM 31 30,⟨some 32,.mov (.t 1),(some (31,true))⟩,⟨some 33,.mov (.t 10),(some (31,true))⟩,⟨some 34,.call 196 [.t 32,.t 33],(some (31,true))⟩,⟨some 35,.bin .lss (.t 34) (cI 0),(some (31,true))⟩,qO 36 (.pick (.t 31) (.t 35) (.c (.bool false)))] (jW 36 (sR [qO 8 (.mov (.c (.bool false)))] .ret)))))) (.reg [qB 37 .add 13 (cI 1),qM 13 37]))))
abbrev qn8:IC:=(sR [qO 8 (.mov (.c (.bool false)))] (.seq (sR [qM 11 0,qO 12 (.sln (.t 11)),jI 13 0] (.block 0 (.loop qgx))) (sR [qM 38 0,qO 39 (.sln (.t 38)),qM 40 2,qM 41 3,jC 42 166 [.t 39,.t 40,.t 41],qM 8 42] .ret)))
theorem qol:chkF Tryz.prog Tryz.f225 qn8 [.t 8] 43=true:=by kernel_rfl
def qdS:IC:=(sR [qT 11 .lss 10 9] (.seq (jE 11) (.seq (.block 1 (sR [qX 12 1 8 10,qL 13 12,qM 5 13] (sR [qM 14 5,jC 15 225 [.t 14,.c (.str [45]),.c (.int .i64 1),.c (.int .i64 30)],qO 16 (.not (.t 15))] (jW 16 (sR [qO 2 (.mov (.c (.bool false)))] .ret))))) (.reg [qB 17 .add 10 (cI 1),qM 10 17]))))
abbrev qjn:IC:=(sR [qO 2 (.mov (.c (.bool false)))] (sR [qM 6 0,jC 7 113 [.t 6,.c (.str [46])],qM 3 7] (.seq (sR [qM 8 3,qN 9 8,jI 10 0] (.block 0 (.loop qdS))) (sR [qM 18 3,qN 19 18,qB 20 .gtr 19 (cI 1),qM 2 20] .ret))))
theorem qjC:chkF Tryz.prog Tryz.f226 qjn [.t 2] 21=true:=by kernel_rfl
abbrev qkS:IC:=(sR [qO 2 (.mov (.c (.bool false)))] (sR [qM 7 0,jC 8 111 [.t 7,.c (.str [64])],qM 6 8,qO 9 (.ext 0 (.t 6)),qO 10 (.ext 1 (.t 6)),qO 11 (.ext 2 (.t 6)),qM 3 9,qM 4 10,qM 5 11] (.seq (sR [qM 12 5,qO 13 (.not (.t 12)),qM 14 13,⟨some 15,.mov (.t 0),(some (14,false))⟩,⟨some 16,.sln (.t 15),(some (14,false))⟩,⟨some 17,.bin .gtr (.t 16) (cI 80),(some (14,false))⟩,qO 18 (.pick (.t 14) (.c (.bool true)) (.t 17)),qM 19 18,⟨some 20,.mov (.t 3),(some (19,false))⟩,⟨some 21,.call 225 [.t 20,.c (.str [46,45,95,43]),.c (.int .i64 1),.c (.int .i64 40)],(some (19,false))⟩,⟨some 22,.not (.t 21),(some (19,false))⟩,qO 23 (.pick (.t 19) (.c (.bool true)) (.t 22))] (jW 23 (sR [qO 2 (.mov (.c (.bool false)))] .ret))) (sR [qM 24 4,jC 25 226 [.t 24],qM 2 25] .ret))))
theorem qkV:chkF Tryz.prog Tryz.f163 qkS [.t 2] 26=true:=by kernel_rfl
def qdK:IC:=(sR [qT 42 .lss 41 40] (.seq (jE 42) (.seq (.block 1 (sR [qX 43 1 39 41,qL 44 43,qM 8 44] (sR [qM 45 8,qO 46 (.sln (.t 45)),qB 47 .lss 46 (cI 1),qM 48 47,⟨some 49,.mov (.t 8),(some (48,false))⟩,⟨some 50,.sln (.t 49),(some (48,false))⟩,⟨some 51,.bin .gtr (.t 50) (cI 30),(some (48,false))⟩,qO 52 (.pick (.t 48) (.c (.bool true)) (.t 51)),qM 53 52,⟨some 54,.mov (.t 8),(some (53,false))⟩,⟨some 55,.call 112 [.t 54,.c (.str [97,98,99,100,101,102,103,104,105,106,107,108,109,110,111,112,113,114,115,116,117,118,119,120,121,122,48,49,50,51,52,53,54,55,56,57,45])],(some (53,false))⟩,⟨some 56,.not (.t 55),(some (53,false))⟩,qO 57 (.pick (.t 53) (.c (.bool true)) (.t 56))] (jW 57 (sR [qO 2 (.mov (.c (.bool false)))] .ret))))) (.reg [qB 58 .add 41 (cI 1),qM 41 58]))))
abbrev qiJ:IC:=(sR [qO 2 (.mov (.c (.bool false)))] (sR [qM 10 0,jC 11 111 [.t 10,.c (.str [64])],qM 9 11,qO 12 (.ext 0 (.t 9)),qO 13 (.ext 1 (.t 9)),qO 14 (.ext 2 (.t 9)),qM 3 12,qM 4 13,qM 5 14] (.seq (sR [qM 15 5,qO 16 (.not (.t 15)),qM 17 16,⟨some 18,.mov (.t 0),(some (17,false))⟩,⟨some 19,.sln (.t 18),(some (17,false))⟩,⟨some 20,.bin .gtr (.t 19) (cI 80),(some (17,false))⟩,qO 21 (.pick (.t 17) (.c (.bool true)) (.t 20)),qM 22 21,⟨some 23,.mov (.t 3),(some (22,false))⟩,⟨some 24,.sln (.t 23),(some (22,false))⟩,⟨some 25,.bin .lss (.t 24) (cI 1),(some (22,false))⟩,qO 26 (.pick (.t 22) (.c (.bool true)) (.t 25)),qM 27 26,⟨some 28,.mov (.t 3),(some (27,false))⟩,⟨some 29,.sln (.t 28),(some (27,false))⟩,⟨some 30,.bin .gtr (.t 29) (cI 40),(some (27,false))⟩,qO 31 (.pick (.t 27) (.c (.bool true)) (.t 30)),qM 32 31,⟨some 33,.mov (.t 3),(some (32,false))⟩,⟨some 34,.call 112 [.t 33,.c (.str [97,98,99,100,101,102,103,104,105,106,107,108,109,110,111,112,113,114,115,116,117,118,119,120,121,122,48,49,50,51,52,53,54,55,56,57,46,45,95,43])],(some (32,false))⟩,⟨some 35,.not (.t 34),(some (32,false))⟩,qO 36 (.pick (.t 32) (.c (.bool true)) (.t 35))] (jW 36 (sR [qO 2 (.mov (.c (.bool false)))] .ret))) (sR [qM 37 4,jC 38 113 [.t 37,.c (.str [46])],qM 6 38] (.seq (sR [qM 39 6,qN 40 39,jI 41 0] (.block 0 (.loop qdK))) (sR [qM 59 6,qN 60 59,qB 61 .gtr 60 (cI 1),qM 2 61] .ret))))))
theorem qi1:chkF Tryz.prog Tryz.f45 qiJ [.t 2] 62=true:=by kernel_rfl
def inB (o:List UInt8) (c:UInt8):Bool:=((decide (97≤(c.toNat:Int)) && decide ((c.toNat:Int)≤122)) || digB c) || decide (0≤Lib.indexByte o c)
def allB (s o:List UInt8):Bool:=s.all (inB o)
def domF (s:List UInt8):Bool:=(splF s 46).all (fun x=>allB x [45] && inE x.length 1 30) && decide (1 < (splF s 46).length)
def qcN (s:List UInt8):Bool:=(((cutF s [64]).2.2 && decide ((s.length:Int)≤80)) && (allB (cutF s [64]).1 [46,45,95,43] && inE (cutF s [64]).1.length 1 40)) && domF (cutF s [64]).2.1
theorem qoH {l:List UInt8} {p:UInt8→Bool} {k:Nat} {c:UInt8} (h:l[k]?=some c):(l.take (k+1)).all p=((l.take k).all p && p c):=qoG h
theorem qhB {α:Type} {l:List α} {p:α→Bool} {k:Nat} {c:α} (h:l[k]?=some c) (hp:p c=false):l.all p=false:=by
 rw [List.all_eq_false]
 exact ⟨c,zl h,by simp [hp]⟩
section
variable {E:Envt}
theorem qxj (s o:List UInt8) (lo hi:Int) (hs:s.length≤1000000000):PCall Tryz.prog E 225 [.str s,.str o,int lo,int hi] (·=.bool (allB s o && inE s.length lo hi)):=by
 refine qag mixed Tryz.func225 qol ?_
 refine zV ?_
 refine qae (fun n fr L=>∃ (k:Nat),k≤s.length∧n=s.length - k∧((s.take k).all (inB o)=true)∧fr=(.p (.str s)::.p (.str o)::.p (int lo)::.p (int hi)::oD (.p (int (s.length:Nat))::.p (int (k:Nat))::oE (oD (oC (oo::[])))))∧L=[]) (s.length) _ [] zF_ zF_ ⟨0,by omega,by omega,by simp,rfl,rfl⟩ ?_
 rintro n fr L ⟨k,hk,rfl,ha,rfl,rfl⟩
 simp only [qgx,ZZ,WW,Ze,reduceCtorEq,zd,ze,za,zf,zb]
 refine br ?_ ?_
 ·intro h
  have hlt:k < s.length:=by have:=of_decide_eq_true h;omega
  obtain ⟨c,hc⟩:∃ c,s[k]?=some c:=⟨_,zh hlt⟩
  have hg:s.getD k 0=c:=by simp [List.getD,hc]
  simp only [ZZ,WW,Ze,reduceCtorEq,zd,ze,za,zf,zb,hg]
  ((with_reducible and_intros)<;>try exact sc_)
  refine useG (fun _=>qr8 c) rfl (.inl rfl) ?_
  refine zS ?_
  ((with_reducible and_intros)<;>try exact sc_)
  refine useG (fun _=>qhC o c) rfl (.inl rfl) ?_
  refine zS ?_
  ((with_reducible and_intros)<;>try exact sc_)
  have hB:(((!(decide (97≤(c.toNat:Int)) && decide ((c.toNat:Int)≤122)) && !digB c)) && decide (Lib.indexByte o c < 0))=!inB o c:=by
   unfold inB
   have:decide (Lib.indexByte o c < 0)=!decide (0≤Lib.indexByte o c):=by
    by_cases h:0≤Lib.indexByte o c<;>simp [h]<;>omega
   rw [this]
   cases (decide (97≤(c.toNat:Int)) && decide ((c.toNat:Int)≤122))<;>cases digB c<;>simp
  refine br ?_ ?_
  ·intro hx
   have hf:inB o c=false:=by rw [hB] at hx;simpa using hx
   refine zS ?_
   rw [allB,qhB hc hf]
   rfl
  ·intro hx
   have hf:inB o c=true:=by rw [hB] at hx;simpa using hx
   refine zS ?_
   refine ⟨qam (by omega) (by omega),?_⟩
   refine qab (s.length - (k+1)) _ [] (by omega) zF_ zF_ ⟨k+1,by omega,rfl,by rw [qoH hc,ha,hf];rfl,rfl,rfl⟩
 ·intro h
  have hge:k=s.length:=by have:=of_decide_eq_false h;omega
  subst hge
  rw [ya] at ha
  refine zS ?_
  refine use1 (qq8 _ _ _) rfl (.inl rfl) ?_
  refine zS ?_
  rw [allB,ha]
  rfl
end
theorem qq6 (s:List UInt8) (hs:s.length≤1000000000):PCall Tryz.prog E0 226 [.str s] (·=.bool (domF s)):=by
 refine qag mixed Tryz.func226 qjC ?_
 refine zV ?_
 refine use1 (qjT s 46 hs) rfl (.inl rfl) ?_
 rw [qbh]
 have hD:domF s=((splF s 46).all (fun x=>allB x [45] && inE x.length 1 30) && decide (1 < (splF s 46).length)):=rfl
 rw [hD]
 have hmem:=qk6 s 46
 have hlen:=qf1 s 46
 generalize splF s 46=ls at *
 simp only [ZZ,WW,Ze,reduceCtorEq,zd,ze,za,zf,zb,qac]
 refine qae (fun n fr L=>∃ (k:Nat),k≤ls.length∧n=ls.length - k∧((ls.take k).all (fun x=>allB x [45] && inE x.length 1 30)=true)∧fr=(oo::oo::oo::.p (.sl 1 (strE ls))::oo::oo::oo::oo::.p (.sl 1 (strE ls))::.p (int (ls.length:Nat))::.p (int (k:Nat))::oD (oB []))∧L=[]) (ls.length) _ [] (by simp only [ZZ,WW,Ze,reduceCtorEq,zd,ze,za,zf,zb,qac];try trivial) zF_ ⟨0,by omega,by omega,by simp,rfl,rfl⟩ ?_
 rintro n fr L ⟨k,hk,rfl,ha,rfl,rfl⟩
 simp only [qdS,ZZ,WW,Ze,reduceCtorEq,zd,ze,za,zf,zb]
 refine br ?_ ?_
 ·intro h
  have hlt:k < ls.length:=by have:=of_decide_eq_true h;omega
  obtain ⟨x,hx⟩:∃ x,ls[k]?=some x:=⟨_,zh hlt⟩
  have hg:=qaD hx
  have hxl:=hmem x (zl hx)
  simp only [ZZ,WW,Ze,reduceCtorEq,zd,ze,za,zf,zb,hg,qac]
  ((with_reducible and_intros)<;>try exact sc_)
  refine use1 (qxj x [45] 1 30 (by omega)) rfl (.inl rfl) ?_
  refine zS ?_
  refine br ?_ ?_
  ·intro hf
   have hf:(allB x [45] && inE x.length 1 30)=false:=by rwa [Bool.not_eq_true'] at hf
   refine zS ?_
   rw [qhB hx hf]
   rfl
  ·intro hf
   have hf:(allB x [45] && inE x.length 1 30)=true:=by rwa [Bool.not_eq_false'] at hf
   refine zS ?_
   refine ⟨qam (by omega) (by omega),?_⟩
   refine qab (ls.length - (k+1)) _ [] (by omega) zF_ zF_ ⟨k+1,by omega,rfl,by rw [zI hlt,List.all_append,ha,(zm.1 hx).2];simpa using hf,rfl,rfl⟩
 ·intro h
  have hge:k=ls.length:=by have:=of_decide_eq_false h;omega
  subst hge
  rw [ya] at ha
  simp only [ZZ,WW,Ze,reduceCtorEq,zd,ze,za,zf,zb,qac]
  rw [ha]
  simp
  omega
theorem qml (s:List UInt8) (hs:s.length≤1000000000):PCall Tryz.prog E0 163 [.str s] (·=.bool (qcN s)):=by
 refine qag mixed Tryz.func163 qkV ?_
 refine zV ?_
 refine use1 (qqh s [64] hs) rfl (.inl rfl) ?_
 have hc:=qjB s [64]
 unfold qcN
 generalize cutF s [64]=q at *
 refine zS ?_
 ((with_reducible and_intros)<;>try exact sc_)
 refine useG (fun _=>qxj q.1 [46,45,95,43] 1 40 (by omega)) rfl (.inl rfl) ?_
 refine zS ?_
 ((with_reducible and_intros)<;>try exact sc_)
 refine br ?_ ?_
 ·intro h
  refine zS ?_
  congr 1
  symm
  cases h1:q.2.2<;>cases h2:(allB q.1 [46,45,95,43] && inE q.1.length 1 40)<;>simp [h1,h2] at h ⊢
  omega
 ·intro h
  refine zS ?_
  refine use1 (qq6 q.2.1 (by omega)) rfl (.inl rfl) ?_
  refine zS ?_
  congr 1
  cases h1:q.2.2<;>cases h2:(allB q.1 [46,45,95,43] && inE q.1.length 1 40)<;>simp [h1,h2] at h ⊢
  omega
def nsL:List UInt8:=smallL++[48,49,50,51,52,53,54,55,56,57]
theorem qvP (s:List UInt8):qsq s (nsL++[46,45,95,43])=allB s [46,45,95,43]:=by
 rw [qlI,allB]
 congr 1
 funext c
 exact qme (p:=fun c=>(nsL++[46,45,95,43]).contains c=inB [46,45,95,43] c) (by decide +kernel) c
theorem qvQ (s:List UInt8):qsq s (nsL++[45])=allB s [45]:=by
 rw [qlI,allB]
 congr 1
 funext c
 exact qme (p:=fun c=>(nsL++[45]).contains c=inB [45] c) (by decide +kernel) c
theorem qjV (s:List UInt8) (hs:s.length≤1000000000):PCall Tryz.prog E0 45 [.str s] (·=.bool (qcN s)):=by
 refine qag mixed Tryz.func45 qi1 ?_
 refine zV ?_
 refine use1 (qqh s [64] hs) rfl (.inl rfl) ?_
 have hc:=qjB s [64]
 unfold qcN
 generalize cutF s [64]=q at *
 refine zS ?_
 ((with_reducible and_intros)<;>try exact sc_)
 refine useG (fun _=>qtO q.1 (nsL++[46,45,95,43]) (by omega) (by decide) (by decide)) rfl (.inl rfl) ?_
 rw [qvP]
 refine zS ?_
 ((with_reducible and_intros)<;>try exact sc_)
 refine br ?_ ?_
 ·intro h
  refine zS ?_
  congr 1
  symm
  cases h1:q.2.2<;>cases h2:allB q.1 [46,45,95,43]<;>simp [h1,h2,inE] at h ⊢
  omega
 intro h
 have hq:(((q.2.2 && decide ((s.length:Int)≤80)) && (allB q.1 [46,45,95,43] && inE q.1.length 1 40)) && domF q.2.1)=domF q.2.1:=by
  cases h1:q.2.2<;>cases h2:allB q.1 [46,45,95,43]<;>simp [h1,h2,inE] at h ⊢
  omega
 rw [hq]
 refine zS ?_
 refine use1 (qjT q.2.1 46 (by omega)) rfl (.inl rfl) ?_
 rw [qbh]
 have hD:domF q.2.1=((splF q.2.1 46).all (fun x=>allB x [45] && inE x.length 1 30) && decide (1 < (splF q.2.1 46).length)):=rfl
 rw [hD]
 have hmem:=qk6 q.2.1 46
 have hlen:=qf1 q.2.1 46
 generalize splF q.2.1 46=ls at *
 simp only [ZZ,WW,Ze,reduceCtorEq,zd,ze,za,zf,zb,qac]
 refine qae (fun n fr L=>∃ (k:Nat),k≤ls.length∧n=ls.length - k∧((ls.take k).all (fun x=>allB x [45] && inE x.length 1 30)=true)∧fr=(oC (oB (.p (.sl 1 (strE ls))::oF (.p (.sl 1 (strE ls))::.p (int (ls.length:Nat))::.p (int (k:Nat))::oE (oC [])))))∧L=[]) (ls.length) _ [] (by simp only [ZZ,WW,Ze,reduceCtorEq,zd,ze,za,zf,zb,qac];try trivial) zF_ ⟨0,by omega,by omega,by simp,rfl,rfl⟩ ?_
 rintro n fr L ⟨k,hk,rfl,ha,rfl,rfl⟩
 simp only [qdK,ZZ,WW,Ze,reduceCtorEq,zd,ze,za,zf,zb]
 refine br ?_ ?_
 ·intro h
  have hlt:k < ls.length:=by have:=of_decide_eq_true h;omega
  obtain ⟨x,hx⟩:∃ x,ls[k]?=some x:=⟨_,zh hlt⟩
  have hg:=qaD hx
  have hxl:=hmem x (zl hx)
  simp only [ZZ,WW,Ze,reduceCtorEq,zd,ze,za,zf,zb,hg,qac]
  ((with_reducible and_intros)<;>try exact sc_)
  refine useG (fun _=>qtO x (nsL++[45]) (by omega) (by decide) (by decide)) rfl (.inl rfl) ?_
  rw [qvQ]
  refine zS ?_
  ((with_reducible and_intros)<;>try exact sc_)
  refine br ?_ ?_
  ·intro hf
   have hf:(allB x [45] && inE x.length 1 30)=false:=by
    cases h2:allB x [45]<;>simp [h2,inE] at hf ⊢
    omega
   refine zS ?_
   rw [qhB hx hf]
   rfl
  ·intro hf
   have hf:(allB x [45] && inE x.length 1 30)=true:=by
    cases h2:allB x [45]<;>simp [h2,inE] at hf ⊢
    omega
   refine zS ?_
   refine ⟨qam (by omega) (by omega),?_⟩
   refine qab (ls.length - (k+1)) _ [] (by omega) zF_ zF_ ⟨k+1,by omega,rfl,by rw [zI hlt,List.all_append,ha,(zm.1 hx).2];simpa using hf,rfl,rfl⟩
 ·intro h
  have hge:k=ls.length:=by have:=of_decide_eq_false h;omega
  subst hge
  rw [ya] at ha
  simp only [ZZ,WW,Ze,reduceCtorEq,zd,ze,za,zf,zb,qac]
  rw [ha]
  simp
  omega
end Go.Proofs.YtekhobchfhhofaaGreatDoor
namespace Go.Proofs.YtekhobchfhhofaaGreatDoor
theorem qtL:∀ (kv:List (List UInt8×PV)) (s t:List UInt8) (v:PV),mpF (mpS kv s v) t=if s=t then some v else mpF kv t
 |[],s,t,v=>by simp [mpS,mpF]
 |p :: r,s,t,v=>by
  simp only [mpS]
  split
  ·rename_i h
   by_cases hs:s=t
   ·simp [mpF,hs]
   ·simp [mpF,hs,h]
  ·rename_i h
   simp only [mpF,qtL r s t v]
   by_cases hp:p.1=t
   ·have:¬ s=t:=fun e=>h (hp.trans e.symm)
    simp [hp,this]
   ·simp [hp]
def qkL (kv:List (List UInt8×PV)) (W:List (List UInt8)):Prop:=∀ w,mpD kv w (.bool false)=.bool (decide (w∈W))
theorem qg5:qkL [] []:=fun w=>by simp [mpD,mpF]
theorem qbf {kv:List (List UInt8×PV)} {W:List (List UInt8)} (h:qkL kv W) (s:List UInt8):qkL (mpS kv s (.bool true)) (W++[s]):=fun w=>by
 have h:=h w
 unfold mpD at h ⊢
 rw [qtL]
 by_cases hs:s=w
 ·simp [hs]
 ·have hw:¬ w=s:=fun e=>hs e.symm
  rw [if_neg hs,h]
  simp [hw]
theorem qr9 (t:List UInt8):(qbg t).length≤t.length+1:=by
 have:=Sp.spans_len t
 simpa [qbg] using this
end Go.Proofs.YtekhobchfhhofaaGreatDoor
namespace Go.Proofs.YtekhobchfhhofaaGreatDoor
open Nat renaming reduceAdd→zd,reduceEqDiff→zb,reduceLT→zf,reduceLeDiff→za,reduceMul→ze
open Go.RowKit
abbrev qc1:IC:=(sR [qO 2 (.nilr 70 3)] (.seq (sR [qM 3 0,qO 4 (.isn (.t 3))] (jW 4 (sR [qO 2 (.nilr 70 3)] .ret))) (sR [qO 5 (.bsr 70 3 []),qM 6 0,qO 7 (.app 70 3 32 (.t 5) (.t 6)),qM 2 7] .ret)))
theorem qc2:chkF Tryz.prog Tryz.f29 qc1 [.t 2] 8=true:=by kernel_rfl
abbrev qcI:IC:=(sR [qO 2 (.nilr 72 3)] (.seq (sR [qM 3 0,qO 4 (.isn (.t 3))] (jW 4 (sR [qO 2 (.nilr 72 3)] .ret))) (sR [qO 5 (.bsr 72 3 []),qM 6 0,qO 7 (.app 72 3 32 (.t 5) (.t 6)),qM 2 7] .ret)))
theorem qcK:chkF Tryz.prog Tryz.f32 qcI [.t 2] 8=true:=by kernel_rfl
abbrev qd8:IC:=(sR [qO 2 (.nilr 9 1)] (.seq (sR [qM 3 0,qO 4 (.isn (.t 3))] (jW 4 (sR [qO 2 (.nilr 9 1)] .ret))) (sR [qO 5 (.bsr 9 1 []),qM 6 0,qO 7 (.app 9 1 16 (.t 5) (.t 6)),qM 2 7] .ret)))
theorem qec:chkF Tryz.prog Tryz.f33 qd8 [.t 2] 8=true:=by kernel_rfl
def qaH:IC:=(.seq (sR [qM 7 2,qM 8 3,qT 9 .lss 7 8] (jE 9)) (.seq (.block 1 (.drg [qM 14 0,qM 15 2,qM 16 0,qM 17 3,qM 18 0,qM 19 3,qX 20 3 18 19,qO 21 (.ld 3 true (.t 20)),qM 22 0,qM 23 2,qX 24 3 22 23,qO 25 (.ld 3 true (.t 24)),qX 26 3 14 15,qS 3 26 21,qX 27 3 16 17,qS 3 27 25])) (.reg [qM 10 2,qB 11 .add 10 (cI 1),qM 12 3,qB 13 .sub 12 (cI 1),qM 2 11,qM 3 13])))
def qa7:IC:=(sR [qM 4 0,qN 5 4,qB 6 .sub 5 (cI 1),jI 2 0,qM 3 6] (.block 0 (.loop qaH)))
theorem qcq:chkF Tryz.prog Tryz.f35 qa7 [] 28=true:=by kernel_rfl
section
variable {E:Envt}
abbrev qo5:Nat:=70
abbrev qdg:Nat:=72
abbrev qAE:Nat:=9
theorem qdc (s:List UInt8) (n:Nat) (hn:n≤1000000) (hs:s.length≤1000000):PCall Tryz.prog E 34 [.str s,int n] (·=.str (Lib.repeatL s n)):=
 qc4 rfl rfl fun w _=>(qvB ⟨s.toArray⟩ n w (by omega) (by rw [show (⟨s.toArray⟩:ByteArray).size=s.length from by simp [ByteArray.size]];exact Nat.le_trans (Nat.mul_le_mul hs hn) (by decide))).mono fun e w' h=>⟨h.1,qfI h.2⟩
theorem quX (es:List (List PV)) (hn:es.length≤1000000):FCall Tryz.prog E 29 [.sl 3 es] qo5 3 (·=es):=by
 unfold FCall
 refine qe1 mixed Tryz.func29 qc2 ?_
 refine zV ?_
 intro b hb
 refine br ?_ ?_
 ·intro h
  have:=hb h
  refine zS ?_
  exact qiM 2 [] rfl rfl this.symm
 ·intro h
  refine zS ?_
  exact ⟨by omega,qiM 5 es rfl rfl rfl⟩
theorem quY (es:List (List PV)) (hn:es.length≤1000000):FCall Tryz.prog E 32 [.sl 3 es] qdg 3 (·=es):=by
 unfold FCall
 refine qe1 mixed Tryz.func32 qcK ?_
 refine zV ?_
 intro b hb
 refine br ?_ ?_
 ·intro h
  have:=hb h
  refine zS ?_
  exact qiM 2 [] rfl rfl this.symm
 ·intro h
  refine zS ?_
  exact ⟨by omega,qiM 5 es rfl rfl rfl⟩
theorem qjW (es:List (List PV)) (hn:es.length≤1000000):FCall Tryz.prog E 33 [.sl 1 es] qAE 1 (·=es):=by
 unfold FCall
 refine qe1 mixed Tryz.func33 qec ?_
 refine zV ?_
 intro b hb
 refine br ?_ ?_
 ·intro h
  have:=hb h
  refine zS ?_
  exact qiM 2 [] rfl rfl this.symm
 ·intro h
  refine zS ?_
  exact ⟨by omega,qiM 5 es rfl rfl rfl⟩
def dom3 (s:List UInt8) (a b:Int):List PV:=[.str s,int a,int b]
theorem qq3 (s1 s2 s3:List UInt8) (a1 a2 a3 b1 b2 b3:Int):RCall Tryz.prog E 35 qdg 3 [dom3 s1 a1 b1,dom3 s2 a2 b2,dom3 s3 a3 b3] [] (fun x es'=>es'=[dom3 s3 a3 b3,dom3 s2 a2 b2,dom3 s1 a1 b1]):=by
 unfold RCall
 refine qim mixed Tryz.func35 qcq ?_
 simp only [a0,l0,OS.ao,XX,Nat.reduceSub,dom3,qa7,ZZ,WW,Ze,reduceCtorEq,zd,ze,za,zf,zb]
 refine ⟨qam (by omega) (by omega),?_⟩
 refine qae (fun n fr L=>(n=1∧fr=(.row (.b 0)::oo::.p (int 0)::.p (int 2)::oE (oD []))∧L=[(.b 0,.row [dom3 s1 a1 b1,dom3 s2 a2 b2,dom3 s3 a3 b3] qdg 3 true)])∨(n=0∧fr=(.row (.b 0)::oo::.p (int 1)::.p (int 1)::oE (oD []))∧L=[(.b 0,.row [dom3 s3 a3 b3,dom3 s2 a2 b2,dom3 s1 a1 b1] qdg 3 true)])) 1 _ _ zF_ (by simp only [ZZ,WW,Ze,reduceCtorEq,zd,ze,za,zf,zb,dom3]) (.inl ⟨rfl,rfl,rfl⟩) ?_
 rintro n fr L (⟨rfl,rfl,rfl⟩|⟨rfl,rfl,rfl⟩)
 ·simp only [dom3,qaH,ZZ,WW,Ze,reduceCtorEq,zd,ze,za,zf,zb]
  refine br ?_ ?_
  ·intro _
   refine zS ?_
   refine drg0 ?_
   simp only [ZZ,WW,Ze,reduceCtorEq,zd,ze,za,zf,zb,show Int.toNat 2=2 from rfl,show Int.toNat 0=0 from rfl]
   ((with_reducible and_intros)<;>try exact sc_)
   refine qab 0 _ _ (by omega) zF_ (by simp only [ZZ,WW,Ze,reduceCtorEq,zd,ze,za,zf,zb,dom3]) (.inr ⟨rfl,rfl,rfl⟩)
  ·intro h;exact absurd (of_decide_eq_false h) (by omega)
 ·simp only [dom3,qaH,ZZ,WW,Ze,reduceCtorEq,zd,ze,za,zf,zb]
  refine br ?_ ?_
  ·intro h;exact absurd (of_decide_eq_true h) (by omega)
  ·intro _
   refine zS ?_
   exact qBX _ rfl rfl
end
end Go.Proofs.YtekhobchfhhofaaGreatDoor
