import Derived.Test.YtmpdnpljdcincaaGreatDoorZ8
import Derived.Test.YtmpdnpljdcincaaGreatDoorZ9
import Derived.Test.YtmpdnpljdcincaaGreatDoorZ11
import Derived.Test.YtmpdnpljdcincaaGreatDoorZ6
import Derived.Test.YtmpdnpljdcincaaGreatDoorZ4
import Derived.Test.YtmpdnpljdcincaaGreatDoorZ10
import Derived.Laws.Cover4
import Derived.Lib.ValidLaws
set_option linter.unusedVariables false
set_option linter.unusedSimpArgs false
set_option linter.defProp false
namespace Go.Proofs.YtmpdnpljdcincaaGreatDoor
open Nat renaming le_refl→zM,reduceAdd→zd,reduceEqDiff→za,reduceLT→zf,reduceLeDiff→zb,reduceMul→ze,reduceSub→zx
open List renaming cons_append→zp,eq_nil_of_length_eq_zero→zz,getD→zD,getElem?_eq_getElem→zh,getElem?_eq_some_iff→zt,getElem?_of_mem→zW,length_cons→zj,length_nil→zr,map_cons→zo,map_nil→zw,mem_cons→zL,mem_of_getElem?→zy,nil_append→zq,range→zJ,replicate_succ→zi,replicate_zero→zm,take_of_length_le→zG
open Bool renaming and_eq_true→zl,eq_iff_iff→yx,not_eq_true'→z6,true_and→yk
open Go.RowKit
def qkZ:IC:=(sR [qO 2 (.mov (.c (.bool false)))] (sR [qM 3 0,qB 4 .geq 3 (.c (.int .u8 97)),qM 5 4,⟨some 6,.mov (.t 0),(some (5,true))⟩,⟨some 7,.bin .leq (.t 6) (.c (.int .u8 122)),(some (5,true))⟩,qO 8 (.pick (.t 5) (.t 7) (.c (.bool false))),qM 2 8] .ret))
def qkP:List IRes:=[.t 2]
theorem qo5:chkF Tryz.prog Tryz.f125 qkZ qkP 9=true:=by kernel_rfl
def qkf:IC:=(sR [qT 18 .lss 17 16] (.seq (.cond (.t 18) .skip (.exit 0)) (.seq (.block 1 (sR [qM 19 17,qM 3 19] (sR [qM 20 0,qM 21 3,qO 22 (.idx (.t 20) (.t 21)),qM 4 22] (sR [qM 23 4,qO 24 (.call 125 [.t 23]),qO 25 (.not (.t 24)),qM 26 25,⟨some 27,.mov (.t 4),(some (26,true))⟩,⟨some 28,.call 126 [.t 27],(some (26,true))⟩,⟨some 29,.not (.t 28),(some (26,true))⟩,qO 30 (.pick (.t 26) (.t 29) (.c (.bool false))),qM 31 30,⟨some 32,.mov (.t 4),(some (31,true))⟩,⟨some 33,.bin .neq (.t 32) (.c (.int .u8 45)),(some (31,true))⟩,qO 34 (.pick (.t 31) (.t 33) (.c (.bool false))),qM 35 34,⟨some 36,.mov (.t 4),(some (35,true))⟩,⟨some 37,.bin .neq (.t 36) (.c (.int .u8 95)),(some (35,true))⟩,qO 38 (.pick (.t 35) (.t 37) (.c (.bool false)))] (.cond (.t 38) (sR [qO 2 (.mov (.c (.bool false)))] .ret) .skip))))) (.reg [qB 39 .add 17 (cI 1),qM 17 39]))))
def qm4:IC:=(sR [qO 2 (.mov (.c (.bool false)))] (.seq (sR [qM 5 0,qO 6 (.sln (.t 5)),qO 7 (.call 71 [.t 6,.c (.int .i64 1),.c (.int .i64 40)]),qO 8 (.not (.t 7)),qM 9 8,⟨some 10,.mov (.t 0),(some (9,false))⟩,⟨some 11,.idx (.t 10) (cI 0),(some (9,false))⟩,⟨some 12,.call 125 [.t 11],(some (9,false))⟩,⟨some 13,.not (.t 12),(some (9,false))⟩,qO 14 (.pick (.t 9) (.c (.bool true)) (.t 13))] (.cond (.t 14) (sR [qO 2 (.mov (.c (.bool false)))] .ret) .skip)) (.seq (sR [qM 15 0,qO 16 (.sln (.t 15)),qO 17 (.mov (cI 0))] (.block 0 (.loop qkf))) (sR [qO 2 (.mov (.c (.bool true)))] .ret))))
def qmP:List IRes:=[.t 2]
theorem qrK:chkF Tryz.prog Tryz.f65 qm4 qmP 40=true:=by kernel_rfl
def smB (c:UInt8):Bool:=decide (97≤(c.toNat:Int)) && decide ((c.toNat:Int)≤122)
def kcB (c:UInt8):Bool:=((smB c || digB c) || decide (c=45)) || decide (c=95)
def keyB (s:List UInt8):Bool:=(inE s.length 1 40 && smB (s.headD 0)) && s.all kcB
def smSet:List UInt8:=[97,98,99,100,101,102,103,104,105,106,107,108,109,110,111,112,113,114,115,116,117,118,119,120,121,122]
def kcSet:List UInt8:=smSet++[48,49,50,51,52,53,54,55,56,57,45,95]
theorem qub (c:UInt8):smSet.contains c=smB c:=qln (p:=fun c=>smSet.contains c=smB c) (by decide +kernel) c
theorem qu5 (c:UInt8):kcSet.contains c=kcB c:=qln (p:=fun c=>kcSet.contains c=kcB c) (by decide +kernel) c
theorem qBU (c:UInt8):decide ((c.toNat:Int)=45)=decide (c=45):=qln (p:=fun c=>decide ((c.toNat:Int)=45)=decide (c=45)) (by decide +kernel) c
theorem qBT (c:UInt8):decide ((c.toNat:Int)=95)=decide (c=95):=qln (p:=fun c=>decide ((c.toNat:Int)=95)=decide (c=95)) (by decide +kernel) c
section
variable {E:Envt}
theorem qsk (c:UInt8):PCall Tryz.prog E 125 [.int .u8 (c.toNat:Nat)] (·=.bool (smB c)):=by
 refine qag mixed Tryz.func125 qo5 ?_
 simp only [a0,l0,OS.ao,zo,zw,zj,zr,zp,zq,zx,zd,zi,zm,qkZ,qkP,ZZ,WW,Ze,reduceCtorEq,zd,ze,zb,zf,za]
 ((with_reducible and_intros)<;>try exact sc_)
theorem qv1 (s:List UInt8) (hs:s.length≤1000000000):PCall Tryz.prog E 65 [.str s] (·=.bool (keyB s)):=by
 refine qag mixed Tryz.func65 qrK ?_
 simp only [a0,l0,OS.ao,zo,zw,zj,zr,zp,zq,zx,zd,zi,zm,qm4,qmP,ZZ,WW,Ze,reduceCtorEq,zd,ze,zb,zf,za]
 refine use1 (qr0 s.length 1 40) rfl (.inl rfl) ?_
 by_cases hi:inE s.length 1 40=true
 rotate_left
 ·have hi:inE s.length 1 40=false:=by simpa using hi
  have hk:keyB s=false:=by rw [keyB,hi];rfl
  rw [hi,hk]
  refine zS ?_
  refine ⟨fun h=>h.elim,?_⟩
  refine qpD (fun h=>by cases h) (fun _=>?_)
  simp only [ZZ,WW,Ze,reduceCtorEq,zd,ze,zb,zf,za]
 have hi2:=hi
 simp only [inE,zl,decide_eq_true_eq] at hi2
 obtain ⟨c0,hc0⟩:∃ c,s[0]?=some c:=⟨_,zh (by omega)⟩
 have hd0:s.headD 0=c0:=by cases s with|nil=>simp at hc0|cons a r=>simpa using hc0
 have hg0:s.getD (Int.toNat 0) 0=c0:=by simp [zD,hc0]
 have hk:keyB s=(smB c0 && s.all kcB):=by rw [keyB,hi,hd0,yk]
 rw [hi,hk]
 simp only [ZZ,WW,Ze,reduceCtorEq,zd,ze,zb,zf,za,hg0]
 ((with_reducible and_intros)<;>try exact sc_)
 refine useG (fun _=>qsk c0) rfl (.inl rfl) ?_
 refine zS ?_
 refine br ?_ ?_
 ·intro h
  have h:smB c0=false:=by simpa using h
  refine zS ?_
  rw [h]
  rfl
 intro h
 have h:smB c0=true:=by simpa using h
 rw [h,yk]
 refine zS ?_
 refine qad (fun n fr L=>∃ (k:Nat),k≤s.length∧n=s.length - k∧(s.all kcB=(s.drop k).all kcB)∧fr=(.p (.str s)::oD (oC (oB (oo::(.p (int (s.length:Nat))::.p (int (k:Nat))::oE (oC (oB [])))))))∧L=[]) (s.length) _ [] (by (simp only [ZZ,WW,Ze,reduceCtorEq,zd,ze,zb,zf,za];try trivial)) (by (simp only [ZZ,WW,Ze,reduceCtorEq,zd,ze,zb,zf,za];try trivial)) ⟨0,by omega,by omega,by simp,rfl,rfl⟩ ?_
 rintro n fr L ⟨k,hk,rfl,hf,rfl,rfl⟩
 simp only [qkf,ZZ,WW,Ze,reduceCtorEq,zd,ze,zb,zf,za]
 refine br ?_ ?_
 ·intro h2
  have hlt:k < s.length:=by have:=of_decide_eq_true h2;omega
  obtain ⟨c,hc⟩:∃ c,s[k]?=some c:=⟨_,zh hlt⟩
  have hg:s.getD k 0=c:=by simp [zD,hc]
  have hdr:s.drop k=c :: s.drop (k+1):=by
   obtain ⟨hl,rfl⟩:=zt.1 hc
   exact List.drop_eq_getElem_cons hl
  rw [hdr,List.all_cons] at hf
  simp only [ZZ,WW,Ze,reduceCtorEq,zd,ze,zb,zf,za,hg]
  ((with_reducible and_intros)<;>try exact sc_)
  refine use1 (qsk c) rfl (.inl rfl) ?_
  refine zS ?_
  refine useG (fun _=>qs6 c) rfl (.inl rfl) ?_
  have hkc:(!smB c && !digB c && !decide (c=45) && !decide (c=95))=!kcB c:=by
   unfold kcB
   cases smB c<;>cases digB c<;>cases decide (c=45)<;>cases decide (c=95)<;>rfl
  simp only [ZZ,WW,Ze,reduceCtorEq,zd,ze,zb,zf,za,qBU,qBT,hkc]
  ((with_reducible and_intros)<;>try exact sc_)
  refine br ?_ ?_
  ·intro hb
   have hb:kcB c=false:=by simpa using hb
   rw [hf,hb]
   refine zS ?_
   rfl
  ·intro hb
   have hb:kcB c=true:=by simpa using hb
   rw [hb,yk] at hf
   refine zS ?_
   ((with_reducible and_intros)<;>try exact sc_)
   refine qac (s.length - (k+1)) _ [] (by omega) (by (simp only [ZZ,WW,Ze,reduceCtorEq,zd,ze,zb,zf,za];try trivial)) (by (simp only [ZZ,WW,Ze,reduceCtorEq,zd,ze,zb,zf,za];try trivial)) ⟨k+1,by omega,rfl,hf,rfl,rfl⟩
 ·intro h2
  have hge:k=s.length:=by have:=of_decide_eq_false h2;omega
  rw [hf,hge,List.drop_length]
  simp only [ZZ,WW,Ze,reduceCtorEq,zd,ze,zb,zf,za]
end
structure Sht where
 id:List UInt8
 top:List UInt8
 kind:Int
 fr_:Int
 to_:Int
 pages:Tab
 ver:Int
def shV (x:Sht):List PV:=[.str x.id,.str x.top,int x.kind,int x.fr_,int x.to_,.sl 1 (tbE x.pages),int x.ver]
def shE (l:List Sht):List (List PV):=l.map shV
theorem qae (l:List Sht):(shE l).length=l.length:=by simp [shE]
theorem qbY {l:List Sht} {k:Nat} {x:Sht} (h:l[k]?=some x):(shE l).getD k []=shV x:=qaC h
theorem qkk (l:List Sht) (x:Sht):shE l++[shV x]=shE (l++[x]):=by simp [shE]
structure Prd where
 no:Int
 pre:List UInt8
 dig:Int
 shs:List Sht
def pdV (x:Prd):List PV:=[int x.no,.str x.pre,int x.dig,.sl 7 (shE x.shs)]
def pdE (l:List Prd):List (List PV):=l.map pdV
theorem qau (l:List Prd):(pdE l).length=l.length:=by simp [pdE]
theorem qgH {l:List Prd} {k:Nat} {x:Prd} (h:l[k]?=some x):(pdE l).getD k []=pdV x:=qaC h
theorem qzu (l:List Prd) (x:Prd):pdE l++[pdV x]=pdE (l++[x]):=by simp [pdE]
def sh0:Sht:=⟨[],[],0,0,0,[],0⟩
def qvI (s:List UInt8):Bool:=decide (80 < (s.length:Int)) || !visE s false
def qpf (p:List (List UInt8)):Bool:=decide (50 < (p.length:Int)) || p.any qvI
def pgsE (x:Sht):Int:=
 if ¬ ((x.pages.length:Int)=x.to_ - x.fr_+1) then 3 else if x.pages.any qpf=true then 3
 else qak ((decide (x.kind=2) || decide (x.kind=3)) && (!decide ((x.pages.length:Int)=1) || !decide (((x.pages.getD 0 []).length:Int)=1))) 3
def shA (dig:Int) (l:List Sht) (i:Nat):Int:=
 let x:=l.getD i sh0
 let b:=l.getD (i - 1) sh0
 qah [qak (!keyB x.id || !keyB x.top) 5,qak ((l.take i).any fun y=>decide (y.id=x.id)) 6,qak (!decide (x.top=x.id) && (decide (i=0) || !decide (x.top=b.top))) 7,
  qak (decide (x.top=x.id) && (l.take i).any fun y=>decide (y.top=x.top)) 6,qak (!inE x.kind 1 4) 4,qak (!inE x.ver 1 1000) 1,
  qak (!inE x.fr_ 1 x.to_ || decide (powF dig - 1 < x.to_) || (decide (0 < i) && !decide (x.fr_=b.to_+1))) 1]
def shP (dig:Int) (l:List Sht) (i:Nat):Int:=if shA dig l i=0 then pgsE (l.getD i sh0) else shA dig l i
def prdF (p:Prd):Int:=
 qah [qak (!inE p.no 1 200) 1,qd8 p.pre p.dig,qak (decide (p.shs.length=0)) 8,qak (decide (2000 < p.shs.length)) 2,qah ((zJ p.shs.length).map (shP p.dig p.shs))]
def shR (dig:Int) (l:List Sht) (i:Nat):Int:=
 let x:=l.getD i sh0
 let b:=l.getD (i - 1) sh0
 let goesOn:=decide (0 < i) && decide (b.top=x.top)
 if (!keyB x.id || !keyB x.top)=true then 5 else if ((l.take i).any fun y=>decide (y.id=x.id))=true then 6
 else if (!goesOn && !decide (x.top=x.id))=true then 7 else if (!goesOn && (l.take i).any fun y=>decide (y.top=x.top))=true then 6
 else if (decide (x.kind < 1) || decide (4 < x.kind))=true then 4 else if (decide (x.ver < 1) || decide (1000 < x.ver))=true then 1
 else if (decide (x.fr_ < 1) || decide (x.to_ < x.fr_) || decide (powF dig≤x.to_) || (decide (0 < i) && !decide (x.fr_=b.to_+1)))=true then 1
 else if (!decide ((x.pages.length:Int)=x.to_ - x.fr_+1) || x.pages.any qpf)=true then 3
 else if ((decide (x.kind=2) || decide (x.kind=3)) && (!decide ((x.pages.length:Int)=1) || !decide (((x.pages.getD 0 []).length:Int)=1)))=true then 3 else 0
theorem qjN {b:Bool} {e:Int} (he:e≠0):qak b e=0↔b=false:=by
 unfold qak
 cases b<;>simp [he]
theorem qkM {dig:Int} {l:List Sht} {i:Nat} (h:shP dig l i=0):shA dig l i=0∧pgsE (l.getD i sh0)=0:=by
 unfold shP at h
 split at h
 ·rename_i h0;exact ⟨h0,h⟩
 ·rename_i h0;exact absurd h h0
structure ShOk (dig:Int) (l:List Sht) (i:Nat):Prop where
 key:keyB (l.getD i sh0).id=true∧keyB (l.getD i sh0).top=true
 one:((l.take i).any fun y=>decide (y.id=(l.getD i sh0).id))=false
 goes:(l.getD i sh0).top=(l.getD i sh0).id∨0 < i∧(l.getD i sh0).top=(l.getD (i - 1) sh0).top
 rng:1≤(l.getD i sh0).fr_∧(l.getD i sh0).fr_≤(l.getD i sh0).to_∧(l.getD i sh0).to_ < powF dig∧(0 < i→(l.getD i sh0).fr_=(l.getD (i - 1) sh0).to_+1)
theorem qqt {a b c d e f g:Int} (h:qah [a,b,c,d,e,f,g]=0):a=0∧b=0∧c=0∧d=0∧e=0∧f=0∧g=0:=by
 simp only [qah] at h
 repeat' split at h
 all_goals first|exact ⟨by assumption,by assumption,by assumption,by assumption,by assumption,by assumption,by assumption⟩|(exact absurd h (by assumption))
theorem qso {dig:Int} {l:List Sht} {i:Nat} (h:shA dig l i=0):ShOk dig l i:=by
 obtain ⟨h1,h2,h3,h4,h5,h6,h7⟩:=qqt h
 rw [qjN (by decide)] at h1 h2 h3 h4 h5 h6 h7
 refine ⟨?_,h2,?_,?_⟩
 ·rw [Bool.or_eq_false_iff] at h1
  simpa using h1
 ·rw [Bool.and_eq_false_iff] at h3
  rcases h3 with h3|h3
  ·exact .inl (by simpa using h3)
  ·rw [Bool.or_eq_false_iff] at h3
   simp only [decide_eq_false_iff_not,Bool.not_eq_false',decide_eq_true_eq] at h3
   exact .inr ⟨by omega,h3.2⟩
 ·rw [Bool.or_eq_false_iff,Bool.or_eq_false_iff] at h7
  obtain ⟨⟨h7,h8⟩,h9⟩:=h7
  simp only [inE,Bool.not_eq_false',zl,decide_eq_true_eq,decide_eq_false_iff_not] at h7 h8
  refine ⟨h7.1,h7.2,by omega,fun hi=>?_⟩
  rw [Bool.and_eq_false_iff] at h9
  rcases h9 with h9|h9
  ·simp only [decide_eq_false_iff_not] at h9;omega
  ·simpa using h9
theorem qsm {dig:Int} {l:List Sht}:∀ (j:Nat),j < l.length→(∀ k,k≤j→shP dig l k=0)→∃ k,k≤j∧(l.getD k sh0).id=(l.getD j sh0).top
 |0,hj,h=>by
  have:=(qso (qkM (h 0 (zM _))).1).goes
  rcases this with h1|h1
  ·exact ⟨0,zM _,h1.symm⟩
  ·exact absurd h1.1 (by decide)
 |j+1,hj,h=>by
  have:=(qso (qkM (h (j+1) (zM _))).1).goes
  rcases this with h1|⟨_,h1⟩
  ·exact ⟨j+1,zM _,h1.symm⟩
  ·obtain ⟨k,hk,he⟩:=qsm j (by omega) (fun k hk=>h k (by omega))
   refine ⟨k,by omega,?_⟩
   rw [h1,he]
   rfl
theorem qxJ {l:List Sht} {i k:Nat} (hk:k < i) (hl:i≤l.length) (p:Sht→Bool) (hp:p (l.getD k sh0)=true):((l.take i).any p)=true:=by
 rw [List.any_eq_true]
 refine ⟨l.getD k sh0,?_,hp⟩
 rw [List.mem_take_iff_getElem]
 refine ⟨k,by omega,?_⟩
 simp [zD,zh (show k < l.length by omega)]
theorem qoO (a b:Int):(decide (a < 1) || decide (b < a))=!inE a 1 b:=by
 unfold inE
 rw [yx]
 simp only [Bool.or_eq_true,decide_eq_true_eq,z6,Bool.and_eq_false_iff,decide_eq_false_iff_not]
 omega
theorem qAP {dig:Int} {l:List Sht} {i:Nat} (hi:i < l.length) (h:∀ j,j < i→shP dig l j=0):shR dig l i=shP dig l i:=by
 have hpg:pgsE (l.getD i sh0)=if (!decide (((l.getD i sh0).pages.length:Int)=(l.getD i sh0).to_ - (l.getD i sh0).fr_+1) || (l.getD i sh0).pages.any qpf)=true then 3 else if ((decide ((l.getD i sh0).kind=2) || decide ((l.getD i sh0).kind=3)) && (!decide (((l.getD i sh0).pages.length:Int)=1) || !decide ((((l.getD i sh0).pages.getD 0 []).length:Int)=1)))=true then 3 else 0:=by
  unfold pgsE qak
  by_cases a1:((l.getD i sh0).pages.length:Int)=(l.getD i sh0).to_ - (l.getD i sh0).fr_+1
  ·rw [if_neg (by simpa using a1),decide_eq_true a1]
   rfl
  ·rw [if_pos a1,decide_eq_false a1]
   rfl
 have hon:(decide (0 < i) && decide ((l.getD (i - 1) sh0).top=(l.getD i sh0).top))=true→decide ((l.getD i sh0).top=(l.getD i sh0).id)=true→((l.take i).any fun y=>decide (y.id=(l.getD i sh0).id))=true:=by
  intro h1 h2
  rw [zl,decide_eq_true_eq,decide_eq_true_eq] at h1
  rw [decide_eq_true_eq] at h2
  obtain ⟨k,hk,he⟩:=qsm (dig:=dig) (l:=l) (i - 1) (by omega) (fun k hk=>h k (by omega))
  exact qxJ (k:=k) (by omega) (by omega) (fun y=>decide (y.id=(l.getD i sh0).id)) (by rw [decide_eq_true_eq,he,h1.2,h2])
 have hsm:decide ((l.getD i sh0).top=(l.getD (i - 1) sh0).top)=decide ((l.getD (i - 1) sh0).top=(l.getD i sh0).top):=decide_eq_decide.2 ⟨Eq.symm,Eq.symm⟩
 have hi0:decide (i=0)=!decide (0 < i):=by
  rw [yx]
  simp
 have hto:decide (powF dig - 1 < (l.getD i sh0).to_)=decide (powF dig≤(l.getD i sh0).to_):=decide_eq_decide.2 (by omega)
 have k1:(decide ((l.getD i sh0).kind < 1) || decide (4 < (l.getD i sh0).kind))=!inE (l.getD i sh0).kind 1 4:=qoO _ _
 have k2:(decide ((l.getD i sh0).ver < 1) || decide (1000 < (l.getD i sh0).ver))=!inE (l.getD i sh0).ver 1 1000:=qoO _ _
 have k3:(decide ((l.getD i sh0).fr_ < 1) || decide ((l.getD i sh0).to_ < (l.getD i sh0).fr_))=!inE (l.getD i sh0).fr_ 1 (l.getD i sh0).to_:=qoO _ _
 unfold shP shA shR
 simp only [qah]
 simp only [hsm,hi0,hto,k1,k2,k3,← hpg]
 generalize ((l.take i).any fun y=>decide (y.id=(l.getD i sh0).id))=c6 at *
 generalize ((l.take i).any fun y=>decide (y.top=(l.getD i sh0).top))=c6b at *
 generalize decide ((l.getD i sh0).top=(l.getD i sh0).id)=bg at *
 generalize decide ((l.getD (i - 1) sh0).top=(l.getD i sh0).top)=sm at *
 generalize decide (0 < i)=ip at *
 generalize (!keyB (l.getD i sh0).id || !keyB (l.getD i sh0).top)=c5
 generalize (!inE (l.getD i sh0).kind 1 4)=c4
 generalize (!inE (l.getD i sh0).ver 1 1000)=c1
 generalize (!inE (l.getD i sh0).fr_ 1 (l.getD i sh0).to_ || decide (powF dig≤(l.getD i sh0).to_))=c2
 generalize (!decide ((l.getD i sh0).fr_=(l.getD (i - 1) sh0).to_+1))=c3
 generalize pgsE (l.getD i sh0)=pg
 cases c5<;>cases c6<;>cases bg<;>cases sm<;>cases ip<;>cases c6b<;>cases c4<;>cases c1<;>cases c2<;>cases c3<;>first|rfl|(simp at hon;done)|(simp [qak];done)
theorem qig {dig:Int} {l:List Sht} (h:∀ j,j < l.length→shP dig l j=0):∀ j,j < l.length→1≤(l.getD j sh0).fr_∧(l.getD j sh0).fr_≤(l.getD j sh0).to_∧(l.getD j sh0).to_ < powF dig∧(0 < j→(l.getD j sh0).fr_=(l.getD (j - 1) sh0).to_+1):=
 fun j hj=>(qso (qkM (h j hj)).1).rng
theorem qq6 {dig:Int} {l:List Sht} (h:∀ j,j < l.length→shP dig l j=0):∀ j,j < l.length→(l.getD 0 sh0).fr_≤(l.getD j sh0).fr_∧(l.getD 0 sh0).fr_≤(l.getD j sh0).to_
 |0,hj=>by
  have:=qig h 0 hj
  omega
 |j+1,hj=>by
  have h1:=qq6 h j (by omega)
  have h2:=qig h (j+1) hj
  have h3:=h2.2.2.2 (by omega)
  simp only [Nat.add_sub_cancel] at h3
  omega
theorem qud {dig:Int} {l:List Sht} (h:∀ j,j < l.length→shP dig l j=0):∀ (d j:Nat),j+d < l.length→(l.getD j sh0).to_≤(l.getD (j+d) sh0).to_
 |0,j,hj=>Int.le_refl _
 |d+1,j,hj=>by
  have h1:=qud h d j (by omega)
  have h2:=qig h (j+(d+1)) hj
  have h3:=h2.2.2.2 (by omega)
  have e:j+(d+1) - 1=j+d:=by omega
  rw [e] at h3
  omega
theorem qAO {dig:Int} {l:List Sht} (h:∀ j,j < l.length→shP dig l j=0) (z:Int):∀ j,j < l.length→(l.getD 0 sh0).fr_≤z→z≤(l.getD j sh0).to_→∃ k,k < l.length∧(l.getD k sh0).fr_≤z∧z≤(l.getD k sh0).to_
 |0,hj,h1,h2=>⟨0,hj,h1,h2⟩
 |j+1,hj,h1,h2=>by
  by_cases h3:z≤(l.getD j sh0).to_
  ·exact qAO h z j (by omega) h1 h3
  ·have h4:=(qig h (j+1) hj).2.2.2 (by omega)
   simp only [Nat.add_sub_cancel] at h4
   exact ⟨j+1,hj,by omega,h2⟩
theorem qaN {G:List Int} (h:qah G=0):∀ x∈G,x=0:=by
 induction G with
 |nil=>intro x hx;cases hx
 |cons e r ih=>
  simp only [qah] at h
  split at h
  ·rename_i h0
   intro x hx
   rcases zL.1 hx with rfl|hx
   ·exact h0
   ·exact ih h x hx
  ·rename_i h0
   exact absurd h h0
theorem qjj {p:Prd} (h:prdF p=0):p.shs≠[]∧p.shs.length≤2000∧qd8 p.pre p.dig=0∧∀ j,j < p.shs.length→shP p.dig p.shs j=0:=by
 have hz:=qaN h
 simp only [zL,List.not_mem_nil,or_false,forall_eq_or_imp,forall_eq] at hz
 obtain ⟨h1,h2,h3,h4,h5⟩:=hz
 rw [qjN (by decide)] at h3 h4
 refine ⟨fun e=>by rw [e] at h3;simp at h3,by have:=of_decide_eq_false h4;omega,h2,fun j hj=>?_⟩
 exact qaN h5 _ (List.mem_map.2 ⟨j,List.mem_range.2 hj,rfl⟩)
def takW (x:Sht) (q:Prd):Bool:=decide (x.fr_ < (q.shs.getD (q.shs.length - 1) sh0).to_+1) && decide ((q.shs.getD 0 sh0).fr_≤x.to_)
def takS (x:Sht) (q:Prd):Bool:=q.shs.any fun y=>decide (x.fr_≤y.to_) && decide (y.fr_≤x.to_)
theorem qwc {q:Prd} (h:prdF q=0) {x:Sht} (hx:x.fr_≤x.to_):takW x q=takS x q:=by
 obtain ⟨h1,h2,_,h3⟩:=qjj h
 have hl:0 < q.shs.length:=List.length_pos_iff.2 h1
 unfold takW takS
 rw [yx,List.any_eq_true,zl,decide_eq_true_eq,decide_eq_true_eq]
 constructor
 ·rintro ⟨a,b⟩
  have hm:=qq6 h3 (q.shs.length - 1) (by omega)
  obtain ⟨k,hk,c,d⟩:=qAO h3 (max x.fr_ (q.shs.getD 0 sh0).fr_) (q.shs.length - 1) (by omega) (by omega) (by omega)
  refine ⟨q.shs.getD k sh0,?_,?_⟩
  ·simp [zD,zh hk]
  ·rw [zl,decide_eq_true_eq,decide_eq_true_eq]
   omega
 ·rintro ⟨y,hy,c⟩
  rw [zl,decide_eq_true_eq,decide_eq_true_eq] at c
  obtain ⟨k,hk⟩:=zW hy
  have hkl:=(zt.1 hk).1
  have hyk:q.shs.getD k sh0=y:=by simp [zD,hk]
  have m1:=qq6 h3 k hkl
  have m2:=qud h3 (q.shs.length - 1 - k) k (by omega)
  have e:k+(q.shs.length - 1 - k)=q.shs.length - 1:=by omega
  rw [e] at m2
  rw [hyk] at m1 m2
  omega
def pd0:Prd:=⟨0,[],0,[]⟩
def qkg (l:List Prd) (s:List UInt8):Bool:=l.any fun q=>q.shs.any fun y=>decide (y.id=s)
def takA (l:List Prd) (p:Prd) (x:Sht):Bool:=l.any fun q=>decide (q.pre=p.pre) && takW x q
def takB (l:List Prd) (p:Prd) (x:Sht):Bool:=l.any fun q=>decide (q.pre=p.pre) && takS x q
def shBp (l:List Prd) (p:Prd) (x:Sht):Int:=qah [qak (qkg l x.id) 6,qak (takA l p x) 13]
def pdsA (l:List Prd) (i:Nat):Int:=
 if qah [prdF (l.getD i pd0),qak (!decide ((l.getD i pd0).no=(i:Nat)+1)) 7]=0 then qah ((l.getD i pd0).shs.map (shBp (l.take i) (l.getD i pd0)))
 else qah [prdF (l.getD i pd0),qak (!decide ((l.getD i pd0).no=(i:Nat)+1)) 7]
def pdsF (l:List Prd):Int:=if 200 < l.length then 2 else qah ((zJ l.length).map (pdsA l))
theorem qsA (l:List Prd) {k:Nat} (h:k < l.length):((zJ l.length).map (pdsA l))[k]?=some (pdsA l k):=by
 rw [List.getElem?_map,List.getElem?_range h];rfl
theorem qkT {l:List Prd} {i:Nat} (h:pdsA l i=0):prdF (l.getD i pd0)=0:=by
 unfold pdsA at h
 split at h
 ·rename_i h0
  exact qaN h0 _ (by simp)
 ·rename_i h0
  exact absurd h h0
theorem qqn {l:List Prd} {i:Nat} {q:Prd} (hq:q∈l.take i):∃ j,j < i∧j < l.length∧l.getD j pd0=q:=by
 rw [List.mem_take_iff_getElem] at hq
 obtain ⟨j,hj,rfl⟩:=hq
 exact ⟨j,by omega,by omega,by simp [zD,zh (show j < l.length by omega)]⟩
theorem qyw {l:List Prd} {i:Nat} (h:∀ j,j < i→pdsA l j=0) {p:Prd} {x:Sht} (hx:x.fr_≤x.to_):takA (l.take i) p x=takB (l.take i) p x:=by
 unfold takA takB
 rw [yx,List.any_eq_true,List.any_eq_true]
 constructor
 all_goals
  rintro ⟨q,hq,hc⟩
  obtain ⟨j,hj,hjl,he⟩:=qqn hq
  have h0:prdF q=0:=by rw [← he];exact qkT (h j hj)
  have:=qwc h0 hx
  exact ⟨q,hq,by first|rw [← this];exact hc|rw [this];exact hc⟩
theorem qzh {p:Prd} (h:prdF p=0) {x:Sht} (hx:x∈p.shs):x.fr_≤x.to_:=by
 obtain ⟨_,_,_,h3⟩:=qjj h
 obtain ⟨k,hk⟩:=zW hx
 have:=qig h3 k (zt.1 hk).1
 have e:p.shs.getD k sh0=x:=by simp [zD,hk]
 rw [e] at this
 exact this.2.1
def DisjP (p q:Prd):Prop:=∀ x∈p.shs,∀ y∈q.shs,¬ (x.fr_≤y.to_∧y.fr_≤x.to_)
theorem DisjP.symm {p q:Prd} (h:DisjP p q):DisjP q p:=fun x hx y hy hc=>h y hy x hx ⟨hc.2,hc.1⟩
def grpS (T:List (List Sht)) (x:Sht):List (List Sht):=if decide (x.id=x.top)=true then T++[[x]] else T.dropLast++[T.getLastD []++[x]]
def grpK (l:List Sht):Nat→List (List Sht)
 |0=>[]
 |k+1=>grpS (grpK l k) (l.getD k sh0)
def grpF (l:List Sht):List (List Sht):=grpK l l.length
def qr1 (l:List Sht):Prop:=0 < l.length→(l.getD 0 sh0).id=(l.getD 0 sh0).top
theorem qtv {α:Type} {T:List (List α)} (h:T≠[]):T=T.dropLast++[T.getLastD []]:=by
 rw [List.getLastD_eq_getLast?,List.getLast?_eq_some_getLast h,Option.getD_some]
 exact (List.dropLast_concat_getLast h).symm
theorem qrx {l:List Sht} (hg:qr1 l):∀ k,k < l.length→grpK l (k+1)≠[]
 |0,h=>by
  rw [grpK,grpS,if_pos (by rw [decide_eq_true_eq];exact hg h)]
  simp
 |k+1,h=>by
  rw [grpK,grpS]
  split<;>simp
theorem qvf (T:List (List Sht)) (x:Sht) (h:¬ decide (x.id=x.top)=true→T≠[]):(grpS T x).flatten=T.flatten++[x]:=by
 unfold grpS
 split
 ·simp
 ·rename_i hc
  have:=congrArg List.flatten (qtv (h hc))
  rw [this]
  simp
theorem qh3 {l:List Sht} (hg:qr1 l):∀ k,k≤l.length→(grpK l k).flatten=l.take k
 |0,h=>by simp [grpK]
 |k+1,h=>by
  have ih:=qh3 hg k (by omega)
  have hk:k < l.length:=by omega
  rw [grpK,qvf,ih,List.take_succ_eq_append_getElem hk]
  ·simp [zD,zh hk]
  ·intro hc
   cases k with
   |zero=>exact absurd (by rw [decide_eq_true_eq];exact hg (by omega)) hc
   |succ j=>exact qrx hg j (by omega)
theorem qjX (l:List Sht):∀ k,(grpK l k).length≤k
 |0=>by simp [grpK]
 |k+1=>by
  have:=qjX l k
  rw [grpK,grpS]
  split<;>simp<;>omega
theorem qjV {α:Type}:∀ (T:List (List α)),∀ g∈T,g.length≤T.flatten.length
 |[],g,h=>by cases h
 |t :: T,g,h=>by
  rcases zL.1 h with rfl|h
  ·simp
  ·have:=qjV T g h
   simp at this ⊢
   omega
theorem qre {p:Prd} (h:prdF p=0):qr1 p.shs:=by
 intro h0
 obtain ⟨_,_,_,h3⟩:=qjj h
 rcases (qso (qkM (h3 0 h0)).1).goes with h1|h1
 ·exact h1.symm
 ·exact absurd h1.1 (by decide)
theorem qzs {l:List Prd} (h:pdsF l=0):l.length≤200∧∀ j,j < l.length→pdsA l j=0:=by
 unfold pdsF at h
 split at h
 ·exact absurd h (by decide)
 ·exact ⟨by omega,fun j hj=>qaN h _ (List.mem_map.2 ⟨j,List.mem_range.2 hj,rfl⟩)⟩
theorem quF {l:List Prd} (h:pdsF l=0):∀ p∈l,prdF p=0:=by
 intro p hp
 obtain ⟨j,hj⟩:=zW hp
 have:=qkT ((qzs h).2 j (zt.1 hj).1)
 rwa [show l.getD j pd0=p from by simp [zD,hj]] at this
section
variable {E:Envt}
end
def qcu:IC:=(sR [qT 37 .lss 36 35] (.seq (.cond (.t 37) .skip (.exit 2)) (.seq (.block 3 (.drg [qF 38 6 7,qO 39 (.ldl 1 false (.t 38)),qM 40 0,qM 41 0,qO 42 (.bsl 1 [.c (.int .i64 79),.c (.int .i64 80),.c (.int .i64 81)]),qO 43 (.dcall true 19 [.t 41,.t 42]),qO 44 (.pcall 0 46 [.c (.str [119]),.t 43]),qO 45 (.pcall 1 46 [.c (.str [97,98,32]),.c (.int .i64 30)]),qO 46 (.bsl 1 [.c (.str [111,110,101]),.c (.str [115,101,99,114,101,116,32,119,111,114,100,115]),.c (.str []),.c (.str [195,169,116,195,169,32,120]),.t 44,.t 45]),qO 47 (.dcall true 45 [.t 40,.t 46]),qB 48 .add 47 (.c (.str [10])),qT 49 .add 39 48,qF 50 6 7,qS 1 50 49])) (.reg [qB 51 .add 36 (cI 1),qM 36 51]))))
def qcv:IC:=(sR [qT 14 .lss 13 12] (.seq (.cond (.t 14) .skip (.exit 0)) (.seq (.block 1 (sR [qM 15 13,qM 6 15] (sR [qM 16 6,qO 17 (.bin .add (cI 97) (.t 16)),qO 18 (.cvi .i32 (.t 17)),qO 19 (.cvs (.t 18)),qO 20 (.bin .add (.c (.str [105])) (.t 19)),qM 21 0,qO 22 (.bsl 1 [.c (.str [97,110,110]),.c (.str [98,111])]),qO 23 (.call 45 [.t 21,.t 22]),qM 24 0,qO 25 (.bsl 1 [.c (.int .i64 1),.c (.int .i64 3),.c (.int .i64 2),.c (.int .i64 4)]),qO 26 (.call 19 [.t 24,.t 25]),qM 27 0,qO 28 (.bsl 1 [.c (.int .i64 0),.c (.int .i64 5),.c (.int .i64 5),.c (.int .i64 40),.c (.int .i64 1440)]),qO 29 (.call 19 [.t 27,.t 28]),qM 30 0,qO 31 (.bsl 1 [.c (.str []),.c (.str [120])]),qO 32 (.call 45 [.t 30,.t 31]),⟨none,.fz (.t 23),none⟩,⟨none,.fz (.t 26),none⟩,⟨none,.fz (.t 29),none⟩,⟨none,.fz (.t 32),none⟩,qO 33 (.bld [.str [],.str [],.int .i64 0,.str [],.int .i64 0,.str [],.str []] [(0,1,.t 20),(1,1,.t 23),(2,1,.t 26),(4,1,.t 29),(3,1,.t 32)]),qO 7 (.alc 79 [.str [],.str [],.int .i64 0,.str [],.int .i64 0,.str [],.str []]),qS 7 7 33] (.seq (sR [qM 34 0,qO 35 (.call 29 [.t 34,.c (.int .i64 6)]),qO 36 (.mov (cI 0))] (.block 2 (.loop qcu))) (.seq (sR [qM 52 0,qO 53 (.call 43 [.t 52,.c (.int .i64 8)])] (.cond (.t 53) (.reg [qM 54 0,qO 55 (.bsl 1 [.c (.int .i64 49),.c (.int .i64 50),.c (.int .i64 51),.c (.int .i64 101)]),qO 56 (.call 19 [.t 54,.t 55]),qO 57 (.call 46 [.c (.str [108,105,110,101,10]),.t 56]),qF 58 6 7,qS 1 58 57]) .skip)) (.cut (.seq (sR [qM 59 6,qB 60 .gtr 59 (cI 0),qM 61 60,⟨some 62,.mov (.t 0),(some (61,true))⟩,⟨some 63,.call 43 [.t 62,.c (.int .i64 3)],(some (61,true))⟩,qO 64 (.pick (.t 61) (.t 63) (.c (.bool false)))] (.cond (.t 64) (sR [qM 65 5,qM 66 0,qM 67 5,qN 68 67,qO 69 (.call 29 [.t 66,.t 68]),qX 70 7 65 69,qO 71 (.ld 7 true (.t 70)),qO 8 (.alc 79 [.str [],.str [],.int .i64 0,.str [],.int .i64 0,.str [],.str []]),qS 7 8 71] (sR [qF 72 5 8,qL 73 72,qB 74 .eql 73 (.c (.str [])),qM 75 74,⟨some 76,.fla 2 (.t 8),(some (75,true))⟩,⟨some 77,.ld 1 false (.t 76),(some (75,true))⟩,⟨some 78,.bin .eql (.t 77) (cI 1),(some (75,true))⟩,⟨some 79,.mov (.t 78),(some (75,true))⟩,⟨some 80,.fla 2 (.t 8),(some (79,false))⟩,⟨some 81,.ld 1 false (.t 80),(some (79,false))⟩,⟨some 82,.bin .eql (.t 81) (cI 3),(some (79,false))⟩,⟨some 83,.pick (.t 79) (.c (.bool true)) (.t 82),(some (75,true))⟩,qO 84 (.pick (.t 75) (.t 83) (.c (.bool false)))] (.cond (.t 84) (.reg [qF 85 0 8,qL 86 85,qF 87 5 7,qS 1 87 86]) .skip))) .skip)) (.cut (.reg [qM 88 5,qO 89 (.ld 7 true (.t 7)),qO 90 (.bsl 7 [.t 89]),qO 91 (.app 79 7 96 (.t 88) (.t 90)),qM 5 91]))))))))) (.reg [qB 92 .add 13 (cI 1),qM 13 92]))))
def qdk:IC:=(sR [qO 4 (.mov (.c (.nl 7)))] (sR [qO 5 (.nilr 79 7)] (.seq (sR [qM 9 0,qM 10 1,qB 11 .add 10 (cI 1),qO 12 (.call 29 [.t 9,.t 11]),qO 13 (.mov (cI 0))] (.block 0 (.loop qcv))) (sR [qM 93 5,qM 4 93] .ret))))
def qc8:List IRes:=[.t 4]
theorem qg5:chkF Tryz.prog Tryz.f7 qdk qc8 94=true:=by kernel_rfl
def nxV (l:List Int) (k:Nat):Int:=if l=[] then ((k:Int)+1) * 7919 else qeL (l.getD (k % l.length) 0) 1073741824+((k / l.length:Nat):Int) * (7919+((k % l.length:Nat):Int))
section
variable {E:Envt}
theorem qxR (l:List Int) (k:Nat) (n:Int) (hk:k≤1000000) (hl:l.length≤9223372036854775807) (h2:n≤9223372036854775807) :
  qfU Tryz.prog E 29 T (stm l k) [int n] (fun x cs'=>x=int (qeL (nxV l k) n)∧cs'=stm l (k+1)):=by
 unfold qfU
 refine qfP mixed Tryz.func29 qd7 ?_
 simp only [a0,l0,OS.ao,zo,zw,zj,zr,zp,zq,zx,zd,zi,zm,stm,qce,qb4,ZZ,WW,Ze,reduceCtorEq,zd,ze,zb,zf,za]
 refine ⟨qat (by omega) (by omega),?_⟩
 simp only [ints,ZZ,WW,Ze,reduceCtorEq,zd,ze,zb,zf,za]
 generalize hes:l.map (fun x=>[PV.int IntKind.i64 x])=es
 have hln:es.length=l.length:=by rw [← hes];simp
 have hc:[PV.sl 1 es,int ((k:Int)+1)]=[PV.sl 1 es,int ((k+1:Nat):Int)]:=by simp
 refine br ?_ ?_
 ·intro h
  have h0:((es.length:Int)=0):=of_decide_eq_true h
  have hnil:l=[]:=by
   apply zz
   omega
  refine zS ?_
  refine ⟨qat (by omega) (by omega),?_⟩
  refine use1 (qj1 _ _ h2) rfl (.inl rfl) ?_
  refine zS ?_
  exact qeF [PV.sl 1 es,int ((k:Int)+1)] rfl ⟨by rw [nxV,if_pos hnil],hc⟩
 ·intro h
  have hne:¬ ((es.length:Int)=0):=of_decide_eq_false h
  have hnn:l≠[]:=by
   intro e
   rw [e] at hln
   simp only [zr] at hln
   omega
  refine zS ?_
  refine drg0 ?_
  refine zS ?_
  refine ⟨qat (by omega) (by omega),⟨by omega,?_⟩⟩
  refine drg0 ?_
  have hkk:(k:Int)+1 - 1=k:=by omega
  have hrem:(k:Int).tmod (es.length:Int)=((k % es.length:Nat):Int):=by rw [Int.tmod_eq_emod_of_nonneg (by omega)];rfl
  have hquo:(k:Int).tdiv (es.length:Int)=((k / es.length:Nat):Int):=by rw [Int.tdiv_eq_ediv_of_nonneg (by omega)];rfl
  have hq1:k / es.length≤k:=Nat.div_le_self _ _
  have hr1:k % es.length≤k:=Nat.mod_le _ _
  have hr2:k % es.length < es.length:=Nat.mod_lt _ (by omega)
  obtain ⟨x,hx⟩:∃ x,l[k % es.length]?=some x:=⟨_,zh (by omega)⟩
  have hg:es.getD (k % es.length) []=[PV.int .i64 x]:=by rw [← hes];exact qaC (by rw [hes];exact hx)
  have hnx:nxV l k=qeL x 1073741824+((k / es.length:Nat):Int) * (7919+((k % es.length:Nat):Int)):=by
   rw [nxV,if_neg hnn,← hln,List.getD_eq_getElem?_getD,hx]
   rfl
  rw [hnx]
  simp only [ZZ,WW,Ze,reduceCtorEq,zd,ze,zb,zf,za,hkk,hrem,hquo,hg]
  generalize k / es.length=q at *
  generalize k % es.length=r at *
  refine ⟨qat (by omega) (by omega),⟨hne,qat (by omega) (by omega)⟩,⟨by omega,by omega⟩,by omega,?_⟩
  refine use1 (qj1 _ _ (by decide)) rfl (.inl rfl) ?_
  have hb1:=qfl x 1073741824
  have hb2:=qfm x 1073741824 (by omega)
  have hm:(q:Int) * (7919+(r:Int))≤1000000 * 1007919:=Int.mul_le_mul (by omega) (by omega) (by omega) (by omega)
  have hm0:0≤(q:Int) * (7919+(r:Int)):=Int.mul_nonneg (by omega) (by omega)
  refine zS ?_
  refine ⟨qat (by omega) (by omega),qat (by omega) (by omega),qat (by omega) (by omega),?_⟩
  refine use1 (qj1 _ _ h2) rfl (.inl rfl) ?_
  refine zS ?_
  exact qeF [PV.sl 1 es,int ((k:Int)+1)] rfl ⟨rfl,hc⟩
theorem qxQ (l:List Int) (k:Nat) (c:List Int) (hk:k≤1000000) (hl:l.length≤9223372036854775807) (h0:0 < c.length) (h1:c.length≤1000000) :
  ∃ y,y∈c∧qfU Tryz.prog E 19 T (stm l k) [ints c] (fun x cs'=>x=int y∧cs'=stm l (k+1)):=by
 obtain ⟨i,hi,hy⟩:=qjF (nxV l k) c.length h0
 obtain ⟨z,hz⟩:∃ z,c[i]?=some z:=⟨_,zh hi⟩
 refine ⟨z,zy hz,?_⟩
 unfold qfU
 refine qfP mixed Tryz.func19 qd6 ?_
 simp only [a0,l0,OS.ao,zo,zw,zj,zr,zp,zq,zx,zd,zi,zm,qcd,qb3,ZZ,WW,Ze,reduceCtorEq,zd,ze,zb,zf,za]
 simp only [ints,ZZ,WW,Ze,reduceCtorEq,zd,ze,zb,zf,za]
 generalize hes:c.map (fun x=>[PV.int IntKind.i64 x])=es
 have hln:es.length=c.length:=by rw [← hes];simp
 refine useS (qxR l k _ hk hl (by omega)) rfl rfl rfl zE_ ?_
 rintro x cs' ⟨rfl,rfl⟩
 rw [hln,hy]
 have hg:es.getD i []=[PV.int .i64 z]:=by rw [← hes];exact qaC hz
 simp only [ZZ,WW,Ze,reduceCtorEq,zd,ze,zb,zf,za,hg]
 exact ⟨⟨by omega,by omega⟩,by omega,qeF (stm l (k+1)) rfl ⟨rfl,rfl⟩⟩
theorem qzR (c:Int):(Utf8.encode c).data.toList.length≤4:=by
 rw [Array.length_toList]
 exact encode_size_le c
abbrev Itm:Type:=List UInt8×List UInt8×Int×List UInt8×Int×List UInt8×List UInt8
def itC (x:Itm):List PV:=[.str x.1,.str x.2.1,int x.2.2.1,.str x.2.2.2.1,int x.2.2.2.2.1,.str x.2.2.2.2.2.1,.str x.2.2.2.2.2.2]
def itE (l:List Itm):List (List PV):=l.map itC
theorem qan (l:List Itm):(itE l).length=l.length:=by simp [itE]
theorem qeo {l:List Itm} {k:Nat} {x:Itm} (h:l[k]?=some x):(itE l).getD k []=itC x:=qaC h
theorem qu8 (l:List Itm) (a b:List UInt8) (c:Int) (d:List UInt8) (e:Int) (f g:List UInt8):itE l++[[.str a,.str b,int c,.str d,int e,.str f,.str g]]=itE (l++[(a,b,c,d,e,f,g)]):=by simp [itE,itC]
def itB1 (x:Itm):Prop:=x.1.length≤100∧x.2.1.length≤3∧(1≤x.2.2.1∧x.2.2.1≤4)∧x.2.2.2.1.length≤1∧(0≤x.2.2.2.2.1∧x.2.2.2.2.1≤1440)∧x.2.2.2.2.2.1.length≤100∧x.2.2.2.2.2.2.length≤600
def ItB (l:List Itm):Prop:=∀ x∈l,itB1 x
theorem ItB.nil:ItB []:=fun x hx=>by cases hx
theorem ItB.app {l:List Itm} (h:ItB l) {x:Itm} (hx:itB1 x):ItB (l++[x]):=by
 intro y hy
 rcases List.mem_append.1 hy with hy|hy
 ·exact h y hy
 ·rw [List.mem_singleton] at hy;subst hy;exact hx
abbrev qie:Nat:=79
end
def qjq:IC:=(sR [qO 6 (.mov (.c (.bool false)))] (sR [qM 7 1,qM 8 0,qT 9 .leq 7 8,qM 10 9,⟨some 11,.mov (.t 0),(some (10,true))⟩,⟨some 12,.mov (.t 2),(some (10,true))⟩,⟨some 13,.bin .leq (.t 11) (.t 12),(some (10,true))⟩,qO 14 (.pick (.t 10) (.t 13) (.c (.bool false))),qM 6 14] .ret))
def qjc:List IRes:=[.t 6]
theorem qne:chkF Tryz.prog Tryz.f265 qjq qjc 15=true:=by kernel_rfl
def qhZ:IC:=(sR [qO 4 (.mov (.c (.bool false)))] (sR [qM 5 0,qM 6 1,qO 7 (.call 167 [.t 5,.t 6]),qB 8 .eql 7 (.c (.str [])),qM 4 8] .ret))
def qhR:List IRes:=[.t 4]
theorem qlH:chkF Tryz.prog Tryz.f289 qhZ qhR 9=true:=by kernel_rfl
def qiU:IC:=(sR [qO 2 (.mov (.c (.bool false)))] (sR [qM 3 0,qO 4 (.sln (.t 3)),qO 5 (.call 265 [.t 4,.c (.int .i64 1),.c (.int .i64 40)]),qM 6 5,⟨some 7,.mov (.t 0),(some (6,true))⟩,⟨some 8,.ssl (.t 7) none (some (cI 1)),(some (6,true))⟩,⟨some 9,.call 289 [.t 8,.c (.str [97,98,99,100,101,102,103,104,105,106,107,108,109,110,111,112,113,114,115,116,117,118,119,120,121,122])],(some (6,true))⟩,qO 10 (.pick (.t 6) (.t 9) (.c (.bool false))),qM 11 10,⟨some 12,.mov (.t 0),(some (11,true))⟩,⟨some 13,.call 289 [.t 12,.c (.str [97,98,99,100,101,102,103,104,105,106,107,108,109,110,111,112,113,114,115,116,117,118,119,120,121,122,48,49,50,51,52,53,54,55,56,57,45,95])],(some (11,true))⟩,qO 14 (.pick (.t 11) (.t 13) (.c (.bool false))),qM 2 14] .ret))
def qiL:List IRes:=[.t 2]
theorem qme:chkF Tryz.prog Tryz.f264 qiU qiL 15=true:=by kernel_rfl
def qe1:IC:=(sR [qT 7 .lss 6 5] (.seq (.cond (.t 7) .skip (.exit 0)) (.seq (.block 1 (sR [qM 8 6,qM 3 8] (sR [qM 9 0,qM 10 3,qO 11 (.idx (.t 9) (.t 10)),qB 12 .lss 11 (.c (.int .u8 32)),qM 13 12,⟨some 14,.mov (.t 0),(some (13,true))⟩,⟨some 15,.mov (.t 3),(some (13,true))⟩,⟨some 16,.idx (.t 14) (.t 15),(some (13,true))⟩,⟨some 17,.bin .neq (.t 16) (.c (.int .u8 10)),(some (13,true))⟩,qO 18 (.pick (.t 13) (.t 17) (.c (.bool false))),qM 19 18,⟨some 20,.mov (.t 0),(some (19,false))⟩,⟨some 21,.mov (.t 3),(some (19,false))⟩,⟨some 22,.idx (.t 20) (.t 21),(some (19,false))⟩,⟨some 23,.bin .eql (.t 22) (.c (.int .u8 127)),(some (19,false))⟩,qO 24 (.pick (.t 19) (.c (.bool true)) (.t 23))] (.cond (.t 24) (sR [qO 2 (.mov (.c (.bool false)))] .ret) .skip)))) (.reg [qB 25 .add 6 (cI 1),qM 6 25]))))
def qgU:IC:=(sR [qO 2 (.mov (.c (.bool false)))] (.seq (sR [qM 4 0,qO 5 (.sln (.t 4)),qO 6 (.mov (cI 0))] (.block 0 (.loop qe1))) (sR [qM 26 0,qO 27 (.call 170 [.t 26]),qM 28 27,⟨some 29,.mov (.t 0),(some (28,true))⟩,⟨some 30,.bin .eql (.t 29) (.c (.str [])),(some (28,true))⟩,⟨some 31,.mov (.t 30),(some (28,true))⟩,⟨some 32,.mov (.t 0),(some (31,false))⟩,⟨some 33,.mov (.t 0),(some (31,false))⟩,⟨some 34,.sln (.t 33),(some (31,false))⟩,⟨some 35,.bin .sub (.t 34) (cI 1),(some (31,false))⟩,⟨some 36,.idx (.t 32) (.t 35),(some (31,false))⟩,⟨some 37,.bin .eql (.t 36) (.c (.int .u8 10)),(some (31,false))⟩,⟨some 38,.pick (.t 31) (.c (.bool true)) (.t 37),(some (28,true))⟩,qO 39 (.pick (.t 28) (.t 38) (.c (.bool false))),qM 2 39] .ret)))
def qgA:List IRes:=[.t 2]
theorem qkx:chkF Tryz.prog Tryz.f267 qgU qgA 40=true:=by kernel_rfl
def qfE:IC:=(sR [qT 7 .lss 6 5] (.seq (.cond (.t 7) .skip (.exit 0)) (.seq (.block 1 (sR [qM 8 6,qM 3 8] (sR [qM 9 0,qM 10 3,qO 11 (.idx (.t 9) (.t 10)),qB 12 .lss 11 (.c (.int .u8 32)),qM 13 12,⟨some 14,.mov (.t 0),(some (13,false))⟩,⟨some 15,.mov (.t 3),(some (13,false))⟩,⟨some 16,.idx (.t 14) (.t 15),(some (13,false))⟩,⟨some 17,.bin .eql (.t 16) (.c (.int .u8 127)),(some (13,false))⟩,qO 18 (.pick (.t 13) (.c (.bool true)) (.t 17))] (.cond (.t 18) (sR [qO 2 (.mov (.c (.bool false)))] .ret) .skip)))) (.reg [qB 19 .add 6 (cI 1),qM 6 19]))))
def qhp:IC:=(sR [qO 2 (.mov (.c (.bool false)))] (.seq (sR [qM 4 0,qO 5 (.sln (.t 4)),qO 6 (.mov (cI 0))] (.block 0 (.loop qfE))) (sR [qM 20 0,qO 21 (.call 170 [.t 20]),qM 22 21,⟨some 23,.mov (.t 0),(some (22,true))⟩,⟨some 24,.call 167 [.t 23,.c (.str [32])],(some (22,true))⟩,⟨some 25,.mov (.t 0),(some (22,true))⟩,⟨some 26,.bin .eql (.t 24) (.t 25),(some (22,true))⟩,qO 27 (.pick (.t 22) (.t 26) (.c (.bool false))),qM 28 27,⟨some 29,.mov (.t 0),(some (28,true))⟩,⟨some 30,.call 240 [.t 29,.c (.str [32,32])],(some (28,true))⟩,⟨some 31,.not (.t 30),(some (28,true))⟩,qO 32 (.pick (.t 28) (.t 31) (.c (.bool false))),qM 2 32] .ret)))
def qhc:List IRes:=[.t 2]
theorem qle:chkF Tryz.prog Tryz.f266 qhp qhc 33=true:=by kernel_rfl
def qe0:IC:=(sR [qO 1 (.box 79 (.t 0)),qO 2 (.mov (cI 0))] (.seq (.block 0 (sR [qF 4 0 1,qL 5 4,qO 6 (.call 264 [.t 5]),qO 7 (.not (.t 6)),qM 8 7,⟨some 9,.fla 1 (.t 1),(some (8,false))⟩,⟨some 10,.ld 1 false (.t 9),(some (8,false))⟩,⟨some 11,.call 264 [.t 10],(some (8,false))⟩,⟨some 12,.not (.t 11),(some (8,false))⟩,qO 13 (.pick (.t 8) (.c (.bool true)) (.t 12)),qM 3 13] (.cond (.t 3) (sR [qO 2 (.mov (cI 5))] .ret) (sR [qF 15 2 1,qL 16 15,qO 17 (.call 265 [.t 16,.c (.int .i64 1),.c (.int .i64 4)]),qO 18 (.not (.t 17)),qM 14 18] (.cond (.t 14) (sR [qO 2 (.mov (cI 4))] .ret) (sR [qF 20 3 1,qL 21 20,qO 22 (.sln (.t 21)),qB 23 .gtr 22 (cI 120),qM 19 23] (.cond (.t 19) (sR [qO 2 (.mov (cI 2))] .ret) (sR [qF 25 3 1,qL 26 25,qO 27 (.call 266 [.t 26]),qO 28 (.not (.t 27)),qM 24 28] (.cond (.t 24) (sR [qO 2 (.mov (cI 3))] .ret) (sR [qF 30 4 1,qL 31 30,qO 32 (.call 265 [.t 31,.c (.int .i64 0),.c (.int .i64 5761439)]),qO 33 (.not (.t 32)),qM 29 33] (.cond (.t 29) (sR [qO 2 (.mov (cI 1))] .ret) (sR [qF 35 5 1,qL 36 35,qB 37 .neq 36 (.c (.str [])),qM 38 37,⟨some 39,.fla 5 (.t 1),(some (38,true))⟩,⟨some 40,.ld 1 false (.t 39),(some (38,true))⟩,⟨some 41,.call 264 [.t 40],(some (38,true))⟩,⟨some 42,.not (.t 41),(some (38,true))⟩,qO 43 (.pick (.t 38) (.t 42) (.c (.bool false))),qM 34 43] (.cond (.t 34) (sR [qO 2 (.mov (cI 5))] .ret) (sR [qF 45 5 1,qL 46 45,qF 47 0 1,qL 48 47,qT 49 .eql 46 48,qM 44 49] (.cond (.t 44) (sR [qO 2 (.mov (cI 14))] .ret) (sR [qF 51 6 1,qL 52 51,qO 53 (.sln (.t 52)),qB 54 .gtr 53 (cI 20000),qM 50 54] (.cond (.t 50) (sR [qO 2 (.mov (cI 2))] .ret) (sR [qF 56 6 1,qL 57 56,qO 58 (.call 267 [.t 57]),qO 59 (.not (.t 58)),qM 55 59] (.cond (.t 55) (sR [qO 2 (.mov (cI 3))] .ret) .skip))))))))))))))))))) (sR [qO 2 (.mov (cI 0))] .ret)))
def qeN:List IRes:=[.t 2]
theorem qi0:chkF Tryz.prog Tryz.f237 qe0 qeN 60=true:=by kernel_rfl
theorem qxC (c:UInt8):((decide ((c.toNat:Int) < 32) && !decide ((c.toNat:Int)=10)) || decide ((c.toNat:Int)=127))=badB true c:=qln (p:=fun c=>((decide ((c.toNat:Int) < 32) && !decide ((c.toNat:Int)=10)) || decide ((c.toNat:Int)=127))=badB true c) (by decide +kernel) c
theorem qvH (c:UInt8):(decide ((c.toNat:Int) < 32) || decide ((c.toNat:Int)=127))=badB false c:=qln (p:=fun c=>(decide ((c.toNat:Int) < 32) || decide ((c.toNat:Int)=127))=badB false c) (by decide +kernel) c
section
variable {E:Envt}
theorem qvc (n lo hi:Int):PCall Tryz.prog E 265 [int n,int lo,int hi] (·=.bool (inE n lo hi)):=by
 refine qag mixed Tryz.func265 qne ?_
 simp only [a0,l0,OS.ao,zo,zw,zj,zr,zp,zq,zx,zd,zi,zm,qjq,qjc,ZZ,WW,Ze,reduceCtorEq,zd,ze,zb,zf,za]
 rfl
theorem quQ (s cs:List UInt8) (hs:s.length≤1000000000) (hc:cs.length≤1000) (ha:asc cs=true):PCall Tryz.prog E 289 [.str s,.str cs] (·=.bool (qrp s cs)):=by
 refine qag mixed Tryz.func289 qlH ?_
 simp only [a0,l0,OS.ao,zo,zw,zj,zr,zp,zq,zx,zd,zi,zm,qhZ,qhR,ZZ,WW,Ze,reduceCtorEq,zd,ze,zb,zf,za]
 refine use1 (qic s cs hs (by omega) ha) rfl (.inl rfl) ?_
 refine zS ?_
 rfl
theorem qrX (s:List UInt8) (hs:s.length≤1000000):PCall Tryz.prog E 264 [.str s] (·=.bool (keyB s)):=by
 refine qag mixed Tryz.func264 qme ?_
 simp only [a0,l0,OS.ao,zo,zw,zj,zr,zp,zq,zx,zd,zi,zm,qiU,qiL,ZZ,WW,Ze,reduceCtorEq,zd,ze,zb,zf,za]
 refine use1 (qvc _ _ _) rfl (.inl rfl) ?_
 refine zS ?_
 refine ⟨fun h=>⟨h,by omega,by simp only [inE,zl,decide_eq_true_eq] at h;omega⟩,?_⟩
 refine useG (fun _=>quQ (s.take (Int.toNat 1)) smSet (by rw [List.length_take];omega) (by decide) (by decide)) rfl (.inl rfl) ?_
 refine zS ?_
 refine useG (fun _=>quQ s kcSet (by omega) (by decide) (by decide)) rfl (.inl rfl) ?_
 refine zS ?_
 congr 1
 rw [qjm,qjm,keyB]
 have h1:(s.all fun c=>kcSet.contains c)=s.all kcB:=by congr 1;funext c;exact qu5 c
 rw [h1]
 cases s with
 |nil=>rfl
 |cons a r=>
  have h2:((a :: r).take (Int.toNat 1)).all (fun c=>smSet.contains c)=smB a:=by
   show ([a]:List UInt8).all (fun c=>smSet.contains c)=smB a
   rw [List.all_cons,qub]
   simp
  rw [h2]
  rfl
end
theorem qBq (s:List UInt8) (h:s≠[]):decide (((s.getD ((s.length:Int) - 1).toNat 0).toNat:Int)=10)=sufE s [10]:=by
 obtain ⟨t,c,rfl⟩:∃ t c,s=t++[c]:=⟨s.dropLast,s.getLast h,(List.dropLast_concat_getLast h).symm⟩
 have e:(((t++[c]).length:Int) - 1).toNat=t.length:=by simp
 have e2:(t++[c]).getD t.length 0=c:=by simp [zD]
 have e3:(t++[c]).drop ((t++[c]).length - ([10]:List UInt8).length)=[c]:=by simp
 have e4:decide ((([10]:List UInt8).length:Int)≤(t++[c]).length)=true:=by simp;omega
 rw [e,e2]
 unfold sufE
 rw [e3,e4,yk]
 exact qln (p:=fun c=>decide ((c.toNat:Int)=10)=decide ([c]=[(10:UInt8)])) (by decide +kernel) c
theorem qtL (s:List UInt8) (hs:s.length≤1000000):PCall Tryz.prog E0 267 [.str s] (·=.bool (qlq s)):=by
 refine qag mixed Tryz.func267 qkx ?_
 simp only [a0,l0,OS.ao,zo,zw,zj,zr,zp,zq,zx,zd,zi,zm,qgU,qgA,ZZ,WW,Ze,reduceCtorEq,zd,ze,zb,zf,za]
 refine qad (fun n fr L=>∃ (k:Nat),k≤s.length∧n=s.length - k∧(((s.take k).all fun c=>!badB true c)=true)∧fr=(.p (.str s)::oo::oo::oo::oo::.p (int (s.length:Nat))::.p (int (k:Nat))::oF (oo::[]))∧L=[]) (s.length) _ [] (by (simp only [ZZ,WW,Ze,reduceCtorEq,zd,ze,zb,zf,za];try trivial)) (by (simp only [ZZ,WW,Ze,reduceCtorEq,zd,ze,zb,zf,za];try trivial)) ⟨0,by omega,by omega,by simp,rfl,rfl⟩ ?_
 rintro n fr L ⟨k,hk,rfl,hall,rfl,rfl⟩
 simp only [qe1,ZZ,WW,Ze,reduceCtorEq,zd,ze,zb,zf,za]
 refine br ?_ ?_
 ·intro h
  have hlt:k < s.length:=by have:=of_decide_eq_true h;omega
  obtain ⟨c,hc⟩:∃ x,s[k]?=some x:=⟨_,zh hlt⟩
  have hg:s.getD k 0=c:=by simp [zD,hc]
  have hnx:=qj0 (p:=fun c=>!badB true c) hc
  have hbq:=qxC c
  simp only [ZZ,WW,Ze,reduceCtorEq,zd,ze,zb,zf,za,hg]
  ((with_reducible and_intros)<;>try exact sc_)
  rw [hbq]
  refine br ?_ ?_
  ·intro hb
   refine zS ?_
   have:(s.all fun c=>!badB true c)=false:=by
    rw [List.all_eq_false]
    exact ⟨c,zy hc,by simp [hb]⟩
   simp [qlq,visE,this]
  ·intro hb
   refine zS ?_
   ((with_reducible and_intros)<;>try exact sc_)
   refine qac (s.length - (k+1)) _ [] (by omega) (by (simp only [ZZ,WW,Ze,reduceCtorEq,zd,ze,zb,zf,za];try trivial)) (by (simp only [ZZ,WW,Ze,reduceCtorEq,zd,ze,zb,zf,za];try trivial)) ⟨k+1,by omega,rfl,by rw [hnx,hall,hb];rfl,rfl,rfl⟩
 intro h
 have hge:s.length≤k:=by have:=of_decide_eq_false h;omega
 rw [zG hge] at hall
 refine zS ?_
 refine use1 (qmz s (by omega)) rfl (.inl rfl) ?_
 refine zS ?_
 have hne:(Lib.validD s && (Lib.validD s && !decide (s=[])))=true→s≠[]∧1≤s.length:=fun h=>by
  simp only [zl,z6,decide_eq_false_iff_not] at h
  have h2:=h.2.2
  exact ⟨h2,by rcases s with _|⟨c,r⟩;exact absurd rfl h2;simp⟩
 refine ⟨fun h=>⟨h,qat (by omega) (by omega)⟩,fun h=>⟨h,h,by have:=(hne h).2;omega,by omega⟩,fun h=>⟨h,fun h2=>by rw [h,h2];rfl⟩,?_⟩
 have hv:visE s true=Lib.validD s:=by rw [visE,hall,yk]
 rw [qlq,hv]
 congr 2
 by_cases h0:s=[]
 ·subst h0;rfl
 ·rw [qBq s h0]
theorem qvV (s:List UInt8) (hs:s.length≤1000000):PCall Tryz.prog E0 266 [.str s] (·=.bool (qkd s)):=by
 refine qag mixed Tryz.func266 qle ?_
 simp only [a0,l0,OS.ao,zo,zw,zj,zr,zp,zq,zx,zd,zi,zm,qhp,qhc,ZZ,WW,Ze,reduceCtorEq,zd,ze,zb,zf,za]
 refine qad (fun n fr L=>∃ (k:Nat),k≤s.length∧n=s.length - k∧(((s.take k).all fun c=>!badB false c)=true)∧fr=(.p (.str s)::oo::oo::oo::oo::.p (int (s.length:Nat))::.p (int (k:Nat))::oE (oD (oB [])))∧L=[]) (s.length) _ [] (by (simp only [ZZ,WW,Ze,reduceCtorEq,zd,ze,zb,zf,za];try trivial)) (by (simp only [ZZ,WW,Ze,reduceCtorEq,zd,ze,zb,zf,za];try trivial)) ⟨0,by omega,by omega,by simp,rfl,rfl⟩ ?_
 rintro n fr L ⟨k,hk,rfl,hall,rfl,rfl⟩
 simp only [qfE,ZZ,WW,Ze,reduceCtorEq,zd,ze,zb,zf,za]
 refine br ?_ ?_
 ·intro h
  have hlt:k < s.length:=by have:=of_decide_eq_true h;omega
  obtain ⟨c,hc⟩:∃ x,s[k]?=some x:=⟨_,zh hlt⟩
  have hg:s.getD k 0=c:=by simp [zD,hc]
  have hnx:=qj0 (p:=fun c=>!badB false c) hc
  have hbq:=qvH c
  simp only [ZZ,WW,Ze,reduceCtorEq,zd,ze,zb,zf,za,hg]
  ((with_reducible and_intros)<;>try exact sc_)
  rw [hbq]
  refine br ?_ ?_
  ·intro hb
   refine zS ?_
   have:(s.all fun c=>!badB false c)=false:=by
    rw [List.all_eq_false]
    exact ⟨c,zy hc,by simp [hb]⟩
   simp [qkd,visE,this]
  ·intro hb
   refine zS ?_
   ((with_reducible and_intros)<;>try exact sc_)
   refine qac (s.length - (k+1)) _ [] (by omega) (by (simp only [ZZ,WW,Ze,reduceCtorEq,zd,ze,zb,zf,za];try trivial)) (by (simp only [ZZ,WW,Ze,reduceCtorEq,zd,ze,zb,zf,za];try trivial)) ⟨k+1,by omega,rfl,by rw [hnx,hall,hb];rfl,rfl,rfl⟩
 intro h
 have hge:s.length≤k:=by have:=of_decide_eq_false h;omega
 rw [zG hge] at hall
 refine zS ?_
 refine use1 (qmz s (by omega)) rfl (.inl rfl) ?_
 refine zS ?_
 refine useG (fun _=>qic s [32] (by omega) (by decide) (by decide)) rfl (.inl rfl) ?_
 refine zS ?_
 refine useG (fun _=>qnp s [32,32] (by omega)) rfl (.inl rfl) ?_
 refine zS ?_
 have hv:visE s false=Lib.validD s:=by rw [visE,hall,yk]
 rw [qkd,qtS,hv]
 cases Lib.validD s<;>cases Lib.hasPrefix s [32]<;>cases sufE s [32]<;>rfl
def itF (a1 a2:List UInt8) (a3:Int) (a4:List UInt8) (a5:Int) (a6 a7:List UInt8):Int:=
 if (!keyB a1 || !keyB a2)=true then 5 else if (!inE a3 1 4)=true then 4 else if decide (120 < (a4.length:Int))=true then 2 else
 if (!qkd a4)=true then 3 else if (!inE a5 0 5761439)=true then 1 else if (!decide (a6=[]) && !keyB a6)=true then 5 else
 if decide (a6=a1)=true then 14 else if decide (20000 < (a7.length:Int))=true then 2 else if (!qlq a7)=true then 3 else 0
def ItS (x:Itm):Prop:=x.1.length≤1000000∧x.2.1.length≤1000000∧x.2.2.2.1.length≤1000000∧x.2.2.2.2.2.1.length≤1000000∧x.2.2.2.2.2.2.length≤1000000
def itFx (x:Itm):Int:=itF x.1 x.2.1 x.2.2.1 x.2.2.2.1 x.2.2.2.2.1 x.2.2.2.2.2.1 x.2.2.2.2.2.2
theorem qqS (x:Itm) (hx:ItS x):PCall Tryz.prog E0 237 [.agg (itC x)] (·=int (itFx x)):=by
 obtain ⟨c1,c2,c4,c6,c7⟩:=hx
 obtain ⟨a1,a2,a3,a4,a5,a6,a7⟩:=x
 unfold itFx
 simp only at *
 refine qag mixed Tryz.func237 qi0 ?_
 simp only [a0,l0,OS.ao,zo,zw,zj,zr,zp,zq,zx,zd,zi,zm,qe0,qeN,ZZ,WW,Ze,reduceCtorEq,zd,ze,zb,zf,za]
 simp only [itC,ZZ,WW,Ze,reduceCtorEq,zd,ze,zb,zf,za]
 refine use1 (qrX a1 (by omega)) rfl (.inl rfl) ?_
 refine zS ?_
 refine useG (fun _=>qrX a2 (by omega)) rfl (.inl rfl) ?_
 refine zS ?_
 refine ⟨fun h=>by rw [h];rfl,?_⟩
 refine br ?_ ?_
 ·intro h
  refine zS ?_
  rw [itF,if_pos h]
 intro h
 rw [itF,if_neg (by rw [h];decide)]
 clear h
 refine zS ?_
 refine use1 (qvc a3 1 4) rfl (.inl rfl) ?_
 refine zS ?_
 refine br ?_ ?_
 ·intro h
  refine zS ?_
  rw [if_pos h]
 intro h
 rw [if_neg (by rw [h];decide)]
 clear h
 refine zS ?_
 refine br ?_ ?_
 ·intro h
  refine zS ?_
  rw [if_pos h]
 intro h
 rw [if_neg (by rw [h];decide)]
 clear h
 refine zS ?_
 refine use1 (qvV a4 (by omega)) rfl (.inl rfl) ?_
 refine zS ?_
 refine br ?_ ?_
 ·intro h
  refine zS ?_
  rw [if_pos h]
 intro h
 rw [if_neg (by rw [h];decide)]
 clear h
 refine zS ?_
 refine use1 (qvc a5 0 5761439) rfl (.inl rfl) ?_
 refine zS ?_
 refine br ?_ ?_
 ·intro h
  refine zS ?_
  rw [if_pos h]
 intro h
 rw [if_neg (by rw [h];decide)]
 clear h
 refine zS ?_
 refine useG (fun _=>qrX a6 (by omega)) rfl (.inl rfl) ?_
 refine zS ?_
 refine br ?_ ?_
 ·intro h
  refine zS ?_
  rw [if_pos h]
 intro h
 rw [if_neg (by rw [h];decide)]
 clear h
 refine zS ?_
 refine br ?_ ?_
 ·intro h
  refine zS ?_
  rw [if_pos h]
 intro h
 rw [if_neg (by rw [h];decide)]
 clear h
 refine zS ?_
 refine br ?_ ?_
 ·intro h
  refine zS ?_
  rw [if_pos h]
 intro h
 rw [if_neg (by rw [h];decide)]
 clear h
 refine zS ?_
 refine use1 (qtL a7 (by omega)) rfl (.inl rfl) ?_
 refine zS ?_
 refine br ?_ ?_
 ·intro h
  refine zS ?_
  rw [if_pos h]
 intro h
 rw [if_neg (by rw [h];decide)]
 simp only [ZZ,WW,Ze,reduceCtorEq,zd,ze,zb,zf,za]
def okTx:List UInt8→Bool
 |[]=>true
 |[c]=>decide (c.toNat < 128) && !badB true c
 |c :: d :: r=>if c=195∧d=169 then okTx r else (decide (c.toNat < 128) && !badB true c) && okTx (d :: r)
theorem qx8 (r:List UInt8):okTx (195 :: 169 :: r)=okTx r:=by rw [okTx];simp
theorem qp4 (c:UInt8) (r:List UInt8) (h:c.toNat < 128):okTx (c :: r)=(!badB true c && okTx r):=by
 have h1:decide (c.toNat < 128)=true:=by simpa using h
 cases r with
 |nil=>rw [okTx,okTx,h1,yk,Bool.and_true]
 |cons d r=>
  rw [okTx,if_neg (by rintro ⟨rfl,_⟩;exact absurd h (by decide)),h1,yk]
theorem qlx {s:List UInt8} (h:okTx s=true):s=[]∨(∃ r,s=195 :: 169 :: r∧okTx r=true)∨∃ c r,s=c :: r∧c.toNat < 128∧badB true c=false∧okTx r=true:=by
 match s,h with
 |[],_=>exact .inl rfl
 |[c],h=>
  rw [okTx,zl,decide_eq_true_eq] at h
  exact .inr (.inr ⟨c,[],rfl,h.1,by simpa using h.2,rfl⟩)
 |c :: d :: r,h=>
  rw [okTx] at h
  split at h
  ·rename_i e
   obtain ⟨rfl,rfl⟩:=e
   exact .inr (.inl ⟨r,rfl,h⟩)
  ·rw [zl,zl,decide_eq_true_eq] at h
   exact .inr (.inr ⟨c,d :: r,rfl,h.1.1,by simpa using h.1.2,h.2⟩)
theorem qwP:∀ (n:Nat) (a b:List UInt8),a.length≤n→okTx a=true→okTx (a++b)=okTx b:=by
 intro n
 induction n with
 |zero=>
  intro a b hn _
  have:a=[]:=zz (by omega)
  subst this
  rfl
 |succ n ih=>
  intro a b hn h
  rcases qlx h with rfl|⟨r,rfl,hr⟩|⟨c,r,rfl,hc,hb,hr⟩
  ·rfl
  ·show okTx (195 :: 169 :: (r++b))=okTx b
   rw [qx8]
   exact ih r b (by simp only [zj] at hn;omega) hr
  ·show okTx (c :: (r++b))=okTx b
   rw [qp4 c _ hc,hb,ih r b (by simp only [zj] at hn;omega) hr]
   rfl
theorem qoJ {a b:List UInt8} (ha:okTx a=true) (hb:okTx b=true):okTx (a++b)=true:=by rw [qwP _ a b (zM _) ha,hb]
theorem qml {s:List UInt8} (h:okTx s=true):∀ n,okTx (Lib.repeatL s n)=true
 |0=>rfl
 |n+1=>qoJ h (qml h n)
theorem qDi (r:List UInt8):Lib.decodeL (195 :: 169 :: r)=(233,2):=by
 rw [Lib.decodeL_N]
 simp only [zj,List.getD_cons_zero,List.getD_cons_succ]
 unfold Lib.decodeN
 rw [if_neg (by decide),if_pos ⟨by decide,by omega,by decide⟩,if_pos (by decide)]
 rfl
theorem qoI:∀ (n:Nat) (s:List UInt8),s.length≤n→okTx s=true→visE s true=true:=by
 intro n
 induction n with
 |zero=>
  intro s hn _
  have:s=[]:=zz (by omega)
  subst this
  rfl
 |succ n ih=>
  intro s hn h
  rcases qlx h with rfl|⟨r,rfl,hr⟩|⟨c,r,rfl,hc,hb,hr⟩
  ·rfl
  ·have:=ih r (by simp only [zj] at hn;omega) hr
   unfold visE at *
   rw [zl] at *
   refine ⟨?_,?_⟩
   ·rw [List.all_cons,List.all_cons,this.1]
    decide +kernel
   ·rw [Lib.validD_step _ (by simp),qDi]
    simpa using this.2
  ·have:=ih r (by simp only [zj] at hn;omega) hr
   unfold visE at *
   rw [zl] at *
   refine ⟨?_,?_⟩
   ·rw [List.all_cons,this.1,hb]
    rfl
   ·rw [Lib.validD_cons c r hc]
    exact this.2
def pid (i:Nat):List UInt8:=[105,UInt8.ofNat (97+i)]
theorem qzo:∀ i:Fin 26,105 :: (Utf8.encode (IntKind.i32.wrap (97+((i.val:Nat):Int)))).data.toList=pid i.val:=by decide +kernel
theorem quA:∀ i:Fin 26,keyB (pid i.val)=true:=by decide +kernel
theorem quB {i j:Nat} (hi:i < 26) (hj:j < 26) (h:pid i=pid j):i=j:=by
 have:∀ (i j:Fin 26),pid i.val=pid j.val→i=j:=by decide +kernel
 exact congrArg Fin.val (this ⟨i,hi⟩ ⟨j,hj⟩ h)
structure Pap (il:List Itm) (i:Nat) (x:Itm):Prop where
 b1:x.1=pid i
 b2:x.2.1=[97,110,110]∨x.2.1=[98,111]
 b3:1≤x.2.2.1∧x.2.2.1≤4
 b4:x.2.2.2.1=[]∨x.2.2.2.1=[120]
 b5:0≤x.2.2.2.2.1∧x.2.2.2.2.1≤1440
 b6:x.2.2.2.2.2.1=[]∨∃ j y,j < i∧il[j]?=some y∧y.2.2.2.2.2.1=[]∧(y.2.2.1=1∨y.2.2.1=3)∧x.2.2.2.2.2.1=pid j
 b7:x.2.2.2.2.2.2.length≤600∧okTx x.2.2.2.2.2.2=true∧(x.2.2.2.2.2.2=[]∨sufE x.2.2.2.2.2.2 [10]=true)
def qbI (il:List Itm):Prop:=il.length≤20∧∀ i x,il[i]?=some x→Pap il i x
theorem Pap.right {il:List Itm} {i:Nat} {x:Itm} (h:Pap il i x) (hi:i < 20):itFx x=0∧ItS x:=by
 obtain ⟨a1,a2,a3,a4,a5,a6,a7⟩:=x
 obtain ⟨b1,b2,b3,b4,b5,b6,b7⟩:=h
 simp only at b1 b2 b3 b4 b5 b6 b7
 have k1:keyB a1=true:=by rw [b1];exact quA ⟨i,by omega⟩
 have k2:keyB a2=true:=by rcases b2 with rfl|rfl<;>decide +kernel
 have k3:inE a3 1 4=true:=by simp [inE];omega
 have k4:qkd a4=true∧a4.length≤1:=by rcases b4 with rfl|rfl<;>exact ⟨by decide +kernel,by decide⟩
 have k5:inE a5 0 5761439=true:=by simp [inE];omega
 have k6:(!decide (a6=[]) && !keyB a6)=false∧¬ a6=a1∧a6.length≤2:=by
  rcases b6 with rfl|⟨j,y,hj,_,_,_,rfl⟩
  ·exact ⟨rfl,by rw [b1];simp [pid],by simp⟩
  ·refine ⟨by rw [quA ⟨j,by omega⟩];simp,?_,by simp [pid]⟩
   rw [b1]
   intro e
   have:=quB (by omega) (by omega) e
   omega
 have k7:qlq a7=true:=by
  rw [qlq,qoI _ _ (zM _) b7.2.1]
  rcases b7.2.2 with h|h
  ·rw [h];rfl
  ·rw [h];simp
 refine ⟨?_,?_⟩
 ·simp only [itFx]
  rw [itF,k1,k2,k3,k4.1,k5,k6.1,k7,if_neg (by decide),if_neg (by decide),if_neg (by simp;omega),if_neg (by decide),if_neg (by decide),if_neg (by decide),if_neg (by simpa using k6.2.1),if_neg (by simp;omega),if_neg (by decide)]
 ·refine ⟨?_,?_,?_,?_,?_⟩
  ·simp only;rw [b1];simp [pid]
  ·simp only;rcases b2 with rfl|rfl<;>simp
  ·simp only;omega
  ·simp only;omega
  ·simp only;omega
end Go.Proofs.YtmpdnpljdcincaaGreatDoor
