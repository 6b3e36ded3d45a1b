import Derived.Test.YtehfjlpenlffmaaGreatDoorZ8
import Derived.Test.YtehfjlpenlffmaaGreatDoorZ10
import Derived.Test.YtehfjlpenlffmaaGreatDoorZ7
import Derived.Test.YtehfjlpenlffmaaGreatDoorZ5
import Derived.Test.YtehfjlpenlffmaaGreatDoorZ4
import Derived.Laws.Cover4
set_option linter.unusedVariables false
set_option linter.unusedSimpArgs false
set_option linter.defProp false
namespace Go.Proofs.YtehfjlpenlffmaaGreatDoor
open Nat renaming le_refl→zM,reduceAdd→zd,reduceEqDiff→za,reduceLT→zf,reduceLeDiff→zb,reduceMul→ze,reduceSub→zu
open List renaming cons_append→zl,getD→zD,getElem?_eq_getElem→zg,getElem?_eq_some_iff→zt,getElem?_of_mem→zR,length_cons→zi,length_nil→zo,map_cons→zk,map_nil→zr,mem_cons→zI,nil_append→zm,range→zE,replicate_succ→zh,replicate_zero→zj
open Bool renaming and_eq_false_iff→yu,and_eq_true→zq,eq_iff_iff→yq,true_and→ye
open Go.RowKit
def qlX:IC:=(sR [qO 2 (.mov (.c (.bool false)))] (sR [qM 3 0,qB 4 .geq 3 (.c (.int .u8 97)),qM 5 4,⟨some 6,.mov (.t 0),(some (5,true))⟩,⟨some 7,.bin .leq (.t 6) (.c (.int .u8 122)),(some (5,true))⟩,qO 8 (.pick (.t 5) (.t 7) (.c (.bool false))),qM 2 8] .ret))
def qlJ:List IRes:=[.t 2]
theorem qqd:chkF Tryz.prog Tryz.f138 qlX qlJ 9=true:=by kernel_rfl
def qk4:IC:=(sR [qT 18 .lss 17 16] (.seq (.cond (.t 18) .skip (.exit 0)) (.seq (.block 1 (sR [qM 19 17,qM 3 19] (sR [qM 20 0,qM 21 3,qO 22 (.idx (.t 20) (.t 21)),qM 4 22] (sR [qM 23 4,qO 24 (.call 138 [.t 23]),qO 25 (.not (.t 24)),qM 26 25,⟨some 27,.mov (.t 4),(some (26,true))⟩,⟨some 28,.call 139 [.t 27],(some (26,true))⟩,⟨some 29,.not (.t 28),(some (26,true))⟩,qO 30 (.pick (.t 26) (.t 29) (.c (.bool false))),qM 31 30,⟨some 32,.mov (.t 4),(some (31,true))⟩,⟨some 33,.bin .neq (.t 32) (.c (.int .u8 45)),(some (31,true))⟩,qO 34 (.pick (.t 31) (.t 33) (.c (.bool false))),qM 35 34,⟨some 36,.mov (.t 4),(some (35,true))⟩,⟨some 37,.bin .neq (.t 36) (.c (.int .u8 95)),(some (35,true))⟩,qO 38 (.pick (.t 35) (.t 37) (.c (.bool false)))] (.cond (.t 38) (sR [qO 2 (.mov (.c (.bool false)))] .ret) .skip))))) (.reg [qB 39 .add 17 (cI 1),qM 17 39]))))
def qn9:IC:=(sR [qO 2 (.mov (.c (.bool false)))] (.seq (sR [qM 5 0,qO 6 (.sln (.t 5)),qO 7 (.call 51 [.t 6,.c (.int .i64 1),.c (.int .i64 40)]),qO 8 (.not (.t 7)),qM 9 8,⟨some 10,.mov (.t 0),(some (9,false))⟩,⟨some 11,.idx (.t 10) (cI 0),(some (9,false))⟩,⟨some 12,.call 138 [.t 11],(some (9,false))⟩,⟨some 13,.not (.t 12),(some (9,false))⟩,qO 14 (.pick (.t 9) (.c (.bool true)) (.t 13))] (.cond (.t 14) (sR [qO 2 (.mov (.c (.bool false)))] .ret) .skip)) (.seq (sR [qM 15 0,qO 16 (.sln (.t 15)),qO 17 (.mov (cI 0))] (.block 0 (.loop qk4))) (sR [qO 2 (.mov (.c (.bool true)))] .ret))))
def qn0:List IRes:=[.t 2]
theorem qsP:chkF Tryz.prog Tryz.f53 qn9 qn0 40=true:=by kernel_rfl
def smB (c:UInt8):Bool:=decide (97≤(c.toNat:Int)) && decide ((c.toNat:Int)≤122)
def kcB (c:UInt8):Bool:=((smB c || digB c) || decide (c=45)) || decide (c=95)
def keyB (s:List UInt8):Bool:=(inE s.length 1 40 && smB (s.headD 0)) && s.all kcB
def smSet:List UInt8:=[97,98,99,100,101,102,103,104,105,106,107,108,109,110,111,112,113,114,115,116,117,118,119,120,121,122]
def kcSet:List UInt8:=smSet++[48,49,50,51,52,53,54,55,56,57,45,95]
theorem qvc (c:UInt8):smSet.contains c=smB c:=qnb (p:=fun c=>smSet.contains c=smB c) (by decide +kernel) c
theorem qv5 (c:UInt8):kcSet.contains c=kcB c:=qnb (p:=fun c=>kcSet.contains c=kcB c) (by decide +kernel) c
theorem qCD (c:UInt8):decide ((c.toNat:Int)=45)=decide (c=45):=qnb (p:=fun c=>decide ((c.toNat:Int)=45)=decide (c=45)) (by decide +kernel) c
theorem qCC (c:UInt8):decide ((c.toNat:Int)=95)=decide (c=95):=qnb (p:=fun c=>decide ((c.toNat:Int)=95)=decide (c=95)) (by decide +kernel) c
section
variable {E:Envt}
theorem qtp (c:UInt8):PCall Tryz.prog E 138 [.int .u8 (c.toNat:Nat)] (·=.bool (smB c)):=by
 refine qae mixed Tryz.func138 qqd ?_
 simp only [a0,l0,OS.ao,zk,zr,zi,zo,zl,zm,zu,zd,zh,zj,qlX,qlJ,ZZ,WW,Zd,reduceCtorEq,zd,ze,zb,zf,za]
 ((with_reducible and_intros)<;>try exact sc_)
theorem qrX (s:List UInt8) (hs:s.length≤1000000000):PCall Tryz.prog E 53 [.str s] (·=.bool (keyB s)):=by
 refine qae mixed Tryz.func53 qsP ?_
 simp only [a0,l0,OS.ao,zk,zr,zi,zo,zl,zm,zu,zd,zh,zj,qn9,qn0,ZZ,WW,Zd,reduceCtorEq,zd,ze,zb,zf,za]
 refine use1 (qmS s.length 1 40) rfl (.inl rfl) ?_
 by_cases hi:inE s.length 1 40=true
 rotate_left
 ·have hi:inE s.length 1 40=false:=by simpa using hi
  have hk:keyB s=false:=by rw [keyB,hi];rfl
  rw [hi,hk]
  refine zS ?_
  refine ⟨fun h=>h.elim,?_⟩
  refine qsb (fun h=>by cases h) (fun _=>?_)
  simp only [ZZ,WW,Zd,reduceCtorEq,zd,ze,zb,zf,za]
 have hi2:=hi
 simp only [inE,zq,decide_eq_true_eq] at hi2
 obtain ⟨c0,hc0⟩:∃ c,s[0]?=some c:=⟨_,zg (by omega)⟩
 have hd0:s.headD 0=c0:=by cases s with|nil=>simp at hc0|cons a r=>simpa using hc0
 have hg0:s.getD (Int.toNat 0) 0=c0:=by simp [zD,hc0]
 have hk:keyB s=(smB c0 && s.all kcB):=by rw [keyB,hi,hd0,ye]
 rw [hi,hk]
 simp only [ZZ,WW,Zd,reduceCtorEq,zd,ze,zb,zf,za,hg0]
 ((with_reducible and_intros)<;>try exact sc_)
 refine useG (fun _=>qtp c0) rfl (.inl rfl) ?_
 refine zS ?_
 refine br ?_ ?_
 ·intro h
  have h:smB c0=false:=by simpa using h
  refine zS ?_
  rw [h]
  rfl
 intro h
 have h:smB c0=true:=by simpa using h
 rw [h,ye]
 refine zS ?_
 refine qad (fun n fr L=>∃ (k:Nat),k≤s.length∧n=s.length - k∧(s.all kcB=(s.drop k).all kcB)∧fr=(.p (.str s)::oD (oC (oB (oo::(.p (int (s.length:Nat))::.p (int (k:Nat))::oE (oC (oB [])))))))∧L=[]) (s.length) _ [] (by (simp only [ZZ,WW,Zd,reduceCtorEq,zd,ze,zb,zf,za];try trivial)) (by (simp only [ZZ,WW,Zd,reduceCtorEq,zd,ze,zb,zf,za];try trivial)) ⟨0,by omega,by omega,by simp,rfl,rfl⟩ ?_
 rintro n fr L ⟨k,hk,rfl,hf,rfl,rfl⟩
 simp only [qk4,ZZ,WW,Zd,reduceCtorEq,zd,ze,zb,zf,za]
 refine br ?_ ?_
 ·intro h2
  have hlt:k < s.length:=by have:=of_decide_eq_true h2;omega
  obtain ⟨c,hc⟩:∃ c,s[k]?=some c:=⟨_,zg hlt⟩
  have hg:s.getD k 0=c:=by simp [zD,hc]
  have hdr:s.drop k=c :: s.drop (k+1):=by
   obtain ⟨hl,rfl⟩:=zt.1 hc
   exact List.drop_eq_getElem_cons hl
  rw [hdr,List.all_cons] at hf
  simp only [ZZ,WW,Zd,reduceCtorEq,zd,ze,zb,zf,za,hg]
  ((with_reducible and_intros)<;>try exact sc_)
  refine use1 (qtp c) rfl (.inl rfl) ?_
  refine zS ?_
  refine useG (fun _=>qyQ c) rfl (.inl rfl) ?_
  have hkc:(!smB c && !digB c && !decide (c=45) && !decide (c=95))=!kcB c:=by
   unfold kcB
   cases smB c<;>cases digB c<;>cases decide (c=45)<;>cases decide (c=95)<;>rfl
  simp only [ZZ,WW,Zd,reduceCtorEq,zd,ze,zb,zf,za,qCD,qCC,hkc]
  ((with_reducible and_intros)<;>try exact sc_)
  refine br ?_ ?_
  ·intro hb
   have hb:kcB c=false:=by simpa using hb
   rw [hf,hb]
   refine zS ?_
   rfl
  ·intro hb
   have hb:kcB c=true:=by simpa using hb
   rw [hb,ye] at hf
   refine zS ?_
   ((with_reducible and_intros)<;>try exact sc_)
   refine qac (s.length - (k+1)) _ [] (by omega) (by (simp only [ZZ,WW,Zd,reduceCtorEq,zd,ze,zb,zf,za];try trivial)) (by (simp only [ZZ,WW,Zd,reduceCtorEq,zd,ze,zb,zf,za];try trivial)) ⟨k+1,by omega,rfl,hf,rfl,rfl⟩
 ·intro h2
  have hge:k=s.length:=by have:=of_decide_eq_false h2;omega
  rw [hf,hge,List.drop_length]
  simp only [ZZ,WW,Zd,reduceCtorEq,zd,ze,zb,zf,za]
end
structure Sht where
 id:List UInt8
 top:List UInt8
 kind:Int
 fr_:Int
 to_:Int
 pages:Tab
 ver:Int
def shV (x:Sht):List PV:=[.str x.id,.str x.top,int x.kind,int x.fr_,int x.to_,.sl 1 (tbE x.pages),int x.ver]
def shE (l:List Sht):List (List PV):=l.map shV
theorem qaj (l:List Sht):(shE l).length=l.length:=by simp [shE]
theorem qeB {l:List Sht} {k:Nat} {x:Sht} (h:l[k]?=some x):(shE l).getD k []=shV x:=qas h
theorem qvg (l:List Sht) (x:Sht):shE l++[shV x]=shE (l++[x]):=by simp [shE]
structure Prd where
 no:Int
 pre:List UInt8
 dig:Int
 shs:List Sht
def pdV (x:Prd):List PV:=[int x.no,.str x.pre,int x.dig,.sl 7 (shE x.shs)]
def pdE (l:List Prd):List (List PV):=l.map pdV
theorem qaR (l:List Prd):(pdE l).length=l.length:=by simp [pdE]
theorem qla {l:List Prd} {k:Nat} {x:Prd} (h:l[k]?=some x):(pdE l).getD k []=pdV x:=qas h
theorem qAl (l:List Prd) (x:Prd):pdE l++[pdV x]=pdE (l++[x]):=by simp [pdE]
def sh0:Sht:=⟨[],[],0,0,0,[],0⟩
def qwH (s:List UInt8):Bool:=decide (80 < (s.length:Int)) || !visE s false
def qqq (p:List (List UInt8)):Bool:=decide (50 < (p.length:Int)) || p.any qwH
def pgsE (x:Sht):Int:=
 if ¬ ((x.pages.length:Int)=x.to_ - x.fr_+1) then 3 else if x.pages.any qqq=true then 3
 else qah ((decide (x.kind=2) || decide (x.kind=3)) && (!decide ((x.pages.length:Int)=1) || !decide (((x.pages.getD 0 []).length:Int)=1))) 3
def shA (dig:Int) (l:List Sht) (i:Nat):Int:=
 let x:=l.getD i sh0
 let b:=l.getD (i - 1) sh0
 qaf [qah (!keyB x.id || !keyB x.top) 5,qah ((l.take i).any fun y=>decide (y.id=x.id)) 6,qah (!decide (x.top=x.id) && (decide (i=0) || !decide (x.top=b.top))) 7,
  qah (decide (x.top=x.id) && (l.take i).any fun y=>decide (y.top=x.top)) 6,qah (!inE x.kind 1 4) 4,qah (!inE x.ver 1 1000) 1,
  qah (!inE x.fr_ 1 x.to_ || decide (powF dig - 1 < x.to_) || (decide (0 < i) && !decide (x.fr_=b.to_+1))) 1]
def shP (dig:Int) (l:List Sht) (i:Nat):Int:=if shA dig l i=0 then pgsE (l.getD i sh0) else shA dig l i
def prdF (p:Prd):Int:=
 qaf [qah (!inE p.no 1 200) 1,qfC p.pre p.dig,qah (decide (p.shs.length=0)) 8,qah (decide (2000 < p.shs.length)) 2,qaf ((zE p.shs.length).map (shP p.dig p.shs))]
def shR (dig:Int) (l:List Sht) (i:Nat):Int:=
 let x:=l.getD i sh0
 let b:=l.getD (i - 1) sh0
 let goesOn:=decide (0 < i) && decide (b.top=x.top)
 if (!keyB x.id || !keyB x.top)=true then 5 else if ((l.take i).any fun y=>decide (y.id=x.id))=true then 6
 else if (!goesOn && !decide (x.top=x.id))=true then 7 else if (!goesOn && (l.take i).any fun y=>decide (y.top=x.top))=true then 6
 else if (decide (x.kind < 1) || decide (4 < x.kind))=true then 4 else if (decide (x.ver < 1) || decide (1000 < x.ver))=true then 1
 else if (decide (x.fr_ < 1) || decide (x.to_ < x.fr_) || decide (powF dig≤x.to_) || (decide (0 < i) && !decide (x.fr_=b.to_+1)))=true then 1
 else if (!decide ((x.pages.length:Int)=x.to_ - x.fr_+1) || x.pages.any qqq)=true then 3
 else if ((decide (x.kind=2) || decide (x.kind=3)) && (!decide ((x.pages.length:Int)=1) || !decide (((x.pages.getD 0 []).length:Int)=1)))=true then 3 else 0
theorem qiD {b:Bool} {e:Int} (he:e≠0):qah b e=0↔b=false:=by
 unfold qah
 cases b<;>simp [he]
theorem qpq {dig:Int} {l:List Sht} {i:Nat} (h:shP dig l i=0):shA dig l i=0∧pgsE (l.getD i sh0)=0:=by
 unfold shP at h
 split at h
 ·rename_i h0;exact ⟨h0,h⟩
 ·rename_i h0;exact absurd h h0
structure ShOk (dig:Int) (l:List Sht) (i:Nat):Prop where
 key:keyB (l.getD i sh0).id=true∧keyB (l.getD i sh0).top=true
 one:((l.take i).any fun y=>decide (y.id=(l.getD i sh0).id))=false
 goes:(l.getD i sh0).top=(l.getD i sh0).id∨0 < i∧(l.getD i sh0).top=(l.getD (i - 1) sh0).top
 rng:1≤(l.getD i sh0).fr_∧(l.getD i sh0).fr_≤(l.getD i sh0).to_∧(l.getD i sh0).to_ < powF dig∧(0 < i→(l.getD i sh0).fr_=(l.getD (i - 1) sh0).to_+1)
theorem qrx {a b c d e f g:Int} (h:qaf [a,b,c,d,e,f,g]=0):a=0∧b=0∧c=0∧d=0∧e=0∧f=0∧g=0:=by
 simp only [qaf] at h
 repeat' split at h
 all_goals first|exact ⟨by assumption,by assumption,by assumption,by assumption,by assumption,by assumption,by assumption⟩|(exact absurd h (by assumption))
theorem qvh {dig:Int} {l:List Sht} {i:Nat} (h:shA dig l i=0):ShOk dig l i:=by
 obtain ⟨h1,h2,h3,h4,h5,h6,h7⟩:=qrx h
 rw [qiD (by decide)] at h1 h2 h3 h4 h5 h6 h7
 refine ⟨?_,h2,?_,?_⟩
 ·rw [Bool.or_eq_false_iff] at h1
  simpa using h1
 ·rw [yu] at h3
  rcases h3 with h3|h3
  ·exact .inl (by simpa using h3)
  ·rw [Bool.or_eq_false_iff] at h3
   simp only [decide_eq_false_iff_not,Bool.not_eq_false',decide_eq_true_eq] at h3
   exact .inr ⟨by omega,h3.2⟩
 ·rw [Bool.or_eq_false_iff,Bool.or_eq_false_iff] at h7
  obtain ⟨⟨h7,h8⟩,h9⟩:=h7
  simp only [inE,Bool.not_eq_false',zq,decide_eq_true_eq,decide_eq_false_iff_not] at h7 h8
  refine ⟨h7.1,h7.2,by omega,fun hi=>?_⟩
  rw [yu] at h9
  rcases h9 with h9|h9
  ·simp only [decide_eq_false_iff_not] at h9;omega
  ·simpa using h9
theorem qtr {dig:Int} {l:List Sht}:∀ (j:Nat),j < l.length→(∀ k,k≤j→shP dig l k=0)→∃ k,k≤j∧(l.getD k sh0).id=(l.getD j sh0).top
 |0,hj,h=>by
  have:=(qvh (qpq (h 0 (zM _))).1).goes
  rcases this with h1|h1
  ·exact ⟨0,zM _,h1.symm⟩
  ·exact absurd h1.1 (by decide)
 |j+1,hj,h=>by
  have:=(qvh (qpq (h (j+1) (zM _))).1).goes
  rcases this with h1|⟨_,h1⟩
  ·exact ⟨j+1,zM _,h1.symm⟩
  ·obtain ⟨k,hk,he⟩:=qtr j (by omega) (fun k hk=>h k (by omega))
   refine ⟨k,by omega,?_⟩
   rw [h1,he]
   rfl
theorem qyz {l:List Sht} {i k:Nat} (hk:k < i) (hl:i≤l.length) (p:Sht→Bool) (hp:p (l.getD k sh0)=true):((l.take i).any p)=true:=by
 rw [List.any_eq_true]
 refine ⟨l.getD k sh0,?_,hp⟩
 rw [List.mem_take_iff_getElem]
 refine ⟨k,by omega,?_⟩
 simp [zD,zg (show k < l.length by omega)]
theorem qpX (a b:Int):(decide (a < 1) || decide (b < a))=!inE a 1 b:=by
 unfold inE
 rw [yq]
 simp only [Bool.or_eq_true,decide_eq_true_eq,Bool.not_eq_true',yu,decide_eq_false_iff_not]
 omega
theorem qBB {dig:Int} {l:List Sht} {i:Nat} (hi:i < l.length) (h:∀ j,j < i→shP dig l j=0):shR dig l i=shP dig l i:=by
 have hpg:pgsE (l.getD i sh0)=if (!decide (((l.getD i sh0).pages.length:Int)=(l.getD i sh0).to_ - (l.getD i sh0).fr_+1) || (l.getD i sh0).pages.any qqq)=true then 3 else if ((decide ((l.getD i sh0).kind=2) || decide ((l.getD i sh0).kind=3)) && (!decide (((l.getD i sh0).pages.length:Int)=1) || !decide ((((l.getD i sh0).pages.getD 0 []).length:Int)=1)))=true then 3 else 0:=by
  unfold pgsE qah
  by_cases a1:((l.getD i sh0).pages.length:Int)=(l.getD i sh0).to_ - (l.getD i sh0).fr_+1
  ·rw [if_neg (by simpa using a1),decide_eq_true a1]
   rfl
  ·rw [if_pos a1,decide_eq_false a1]
   rfl
 have hon:(decide (0 < i) && decide ((l.getD (i - 1) sh0).top=(l.getD i sh0).top))=true→decide ((l.getD i sh0).top=(l.getD i sh0).id)=true→((l.take i).any fun y=>decide (y.id=(l.getD i sh0).id))=true:=by
  intro h1 h2
  rw [zq,decide_eq_true_eq,decide_eq_true_eq] at h1
  rw [decide_eq_true_eq] at h2
  obtain ⟨k,hk,he⟩:=qtr (dig:=dig) (l:=l) (i - 1) (by omega) (fun k hk=>h k (by omega))
  exact qyz (k:=k) (by omega) (by omega) (fun y=>decide (y.id=(l.getD i sh0).id)) (by rw [decide_eq_true_eq,he,h1.2,h2])
 have hsm:decide ((l.getD i sh0).top=(l.getD (i - 1) sh0).top)=decide ((l.getD (i - 1) sh0).top=(l.getD i sh0).top):=decide_eq_decide.2 ⟨Eq.symm,Eq.symm⟩
 have hi0:decide (i=0)=!decide (0 < i):=by
  rw [yq]
  simp
 have hto:decide (powF dig - 1 < (l.getD i sh0).to_)=decide (powF dig≤(l.getD i sh0).to_):=decide_eq_decide.2 (by omega)
 have k1:(decide ((l.getD i sh0).kind < 1) || decide (4 < (l.getD i sh0).kind))=!inE (l.getD i sh0).kind 1 4:=qpX _ _
 have k2:(decide ((l.getD i sh0).ver < 1) || decide (1000 < (l.getD i sh0).ver))=!inE (l.getD i sh0).ver 1 1000:=qpX _ _
 have k3:(decide ((l.getD i sh0).fr_ < 1) || decide ((l.getD i sh0).to_ < (l.getD i sh0).fr_))=!inE (l.getD i sh0).fr_ 1 (l.getD i sh0).to_:=qpX _ _
 unfold shP shA shR
 simp only [qaf]
 simp only [hsm,hi0,hto,k1,k2,k3,← hpg]
 generalize ((l.take i).any fun y=>decide (y.id=(l.getD i sh0).id))=c6 at *
 generalize ((l.take i).any fun y=>decide (y.top=(l.getD i sh0).top))=c6b at *
 generalize decide ((l.getD i sh0).top=(l.getD i sh0).id)=bg at *
 generalize decide ((l.getD (i - 1) sh0).top=(l.getD i sh0).top)=sm at *
 generalize decide (0 < i)=ip at *
 generalize (!keyB (l.getD i sh0).id || !keyB (l.getD i sh0).top)=c5
 generalize (!inE (l.getD i sh0).kind 1 4)=c4
 generalize (!inE (l.getD i sh0).ver 1 1000)=c1
 generalize (!inE (l.getD i sh0).fr_ 1 (l.getD i sh0).to_ || decide (powF dig≤(l.getD i sh0).to_))=c2
 generalize (!decide ((l.getD i sh0).fr_=(l.getD (i - 1) sh0).to_+1))=c3
 generalize pgsE (l.getD i sh0)=pg
 cases c5<;>cases c6<;>cases bg<;>cases sm<;>cases ip<;>cases c6b<;>cases c4<;>cases c1<;>cases c2<;>cases c3<;>first|rfl|(simp at hon;done)|(simp [qah];done)
theorem qkC {dig:Int} {l:List Sht} (h:∀ j,j < l.length→shP dig l j=0):∀ j,j < l.length→1≤(l.getD j sh0).fr_∧(l.getD j sh0).fr_≤(l.getD j sh0).to_∧(l.getD j sh0).to_ < powF dig∧(0 < j→(l.getD j sh0).fr_=(l.getD (j - 1) sh0).to_+1):=
 fun j hj=>(qvh (qpq (h j hj)).1).rng
theorem qsf {dig:Int} {l:List Sht} (h:∀ j,j < l.length→shP dig l j=0):∀ j,j < l.length→(l.getD 0 sh0).fr_≤(l.getD j sh0).fr_∧(l.getD 0 sh0).fr_≤(l.getD j sh0).to_
 |0,hj=>by
  have:=qkC h 0 hj
  omega
 |j+1,hj=>by
  have h1:=qsf h j (by omega)
  have h2:=qkC h (j+1) hj
  have h3:=h2.2.2.2 (by omega)
  simp only [Nat.add_sub_cancel] at h3
  omega
theorem qve {dig:Int} {l:List Sht} (h:∀ j,j < l.length→shP dig l j=0):∀ (d j:Nat),j+d < l.length→(l.getD j sh0).to_≤(l.getD (j+d) sh0).to_
 |0,j,hj=>Int.le_refl _
 |d+1,j,hj=>by
  have h1:=qve h d j (by omega)
  have h2:=qkC h (j+(d+1)) hj
  have h3:=h2.2.2.2 (by omega)
  have e:j+(d+1) - 1=j+d:=by omega
  rw [e] at h3
  omega
theorem qBA {dig:Int} {l:List Sht} (h:∀ j,j < l.length→shP dig l j=0) (z:Int):∀ j,j < l.length→(l.getD 0 sh0).fr_≤z→z≤(l.getD j sh0).to_→∃ k,k < l.length∧(l.getD k sh0).fr_≤z∧z≤(l.getD k sh0).to_
 |0,hj,h1,h2=>⟨0,hj,h1,h2⟩
 |j+1,hj,h1,h2=>by
  by_cases h3:z≤(l.getD j sh0).to_
  ·exact qBA h z j (by omega) h1 h3
  ·have h4:=(qkC h (j+1) hj).2.2.2 (by omega)
   simp only [Nat.add_sub_cancel] at h4
   exact ⟨j+1,hj,by omega,h2⟩
theorem qax {G:List Int} (h:qaf G=0):∀ x∈G,x=0:=by
 induction G with
 |nil=>intro x hx;cases hx
 |cons e r ih=>
  simp only [qaf] at h
  split at h
  ·rename_i h0
   intro x hx
   rcases zI.1 hx with rfl|hx
   ·exact h0
   ·exact ih h x hx
  ·rename_i h0
   exact absurd h h0
theorem qpG {p:Prd} (h:prdF p=0):p.shs≠[]∧p.shs.length≤2000∧qfC p.pre p.dig=0∧∀ j,j < p.shs.length→shP p.dig p.shs j=0:=by
 have hz:=qax h
 simp only [zI,List.not_mem_nil,or_false,forall_eq_or_imp,forall_eq] at hz
 obtain ⟨h1,h2,h3,h4,h5⟩:=hz
 rw [qiD (by decide)] at h3 h4
 refine ⟨fun e=>by rw [e] at h3;simp at h3,by have:=of_decide_eq_false h4;omega,h2,fun j hj=>?_⟩
 exact qax h5 _ (List.mem_map.2 ⟨j,List.mem_range.2 hj,rfl⟩)
def takW (x:Sht) (q:Prd):Bool:=decide (x.fr_ < (q.shs.getD (q.shs.length - 1) sh0).to_+1) && decide ((q.shs.getD 0 sh0).fr_≤x.to_)
def takS (x:Sht) (q:Prd):Bool:=q.shs.any fun y=>decide (x.fr_≤y.to_) && decide (y.fr_≤x.to_)
theorem qxa {q:Prd} (h:prdF q=0) {x:Sht} (hx:x.fr_≤x.to_):takW x q=takS x q:=by
 obtain ⟨h1,h2,_,h3⟩:=qpG h
 have hl:0 < q.shs.length:=List.length_pos_iff.2 h1
 unfold takW takS
 rw [yq,List.any_eq_true,zq,decide_eq_true_eq,decide_eq_true_eq]
 constructor
 ·rintro ⟨a,b⟩
  have hm:=qsf h3 (q.shs.length - 1) (by omega)
  obtain ⟨k,hk,c,d⟩:=qBA h3 (max x.fr_ (q.shs.getD 0 sh0).fr_) (q.shs.length - 1) (by omega) (by omega) (by omega)
  refine ⟨q.shs.getD k sh0,?_,?_⟩
  ·simp [zD,zg hk]
  ·rw [zq,decide_eq_true_eq,decide_eq_true_eq]
   omega
 ·rintro ⟨y,hy,c⟩
  rw [zq,decide_eq_true_eq,decide_eq_true_eq] at c
  obtain ⟨k,hk⟩:=zR hy
  have hkl:=(zt.1 hk).1
  have hyk:q.shs.getD k sh0=y:=by simp [zD,hk]
  have m1:=qsf h3 k hkl
  have m2:=qve h3 (q.shs.length - 1 - k) k (by omega)
  have e:k+(q.shs.length - 1 - k)=q.shs.length - 1:=by omega
  rw [e] at m2
  rw [hyk] at m1 m2
  omega
def pd0:Prd:=⟨0,[],0,[]⟩
def qjI (l:List Prd) (s:List UInt8):Bool:=l.any fun q=>q.shs.any fun y=>decide (y.id=s)
def takA (l:List Prd) (p:Prd) (x:Sht):Bool:=l.any fun q=>decide (q.pre=p.pre) && takW x q
def takB (l:List Prd) (p:Prd) (x:Sht):Bool:=l.any fun q=>decide (q.pre=p.pre) && takS x q
def shBp (l:List Prd) (p:Prd) (x:Sht):Int:=qaf [qah (qjI l x.id) 6,qah (takA l p x) 13]
def pdsA (l:List Prd) (i:Nat):Int:=
 if qaf [prdF (l.getD i pd0),qah (!decide ((l.getD i pd0).no=(i:Nat)+1)) 7]=0 then qaf ((l.getD i pd0).shs.map (shBp (l.take i) (l.getD i pd0)))
 else qaf [prdF (l.getD i pd0),qah (!decide ((l.getD i pd0).no=(i:Nat)+1)) 7]
def pdsF (l:List Prd):Int:=if 200 < l.length then 2 else qaf ((zE l.length).map (pdsA l))
theorem qtC (l:List Prd) {k:Nat} (h:k < l.length):((zE l.length).map (pdsA l))[k]?=some (pdsA l k):=by
 rw [List.getElem?_map,List.getElem?_range h];rfl
theorem qn6 {l:List Prd} {i:Nat} (h:pdsA l i=0):prdF (l.getD i pd0)=0:=by
 unfold pdsA at h
 split at h
 ·rename_i h0
  exact qax h0 _ (by simp)
 ·rename_i h0
  exact absurd h h0
theorem qrr {l:List Prd} {i:Nat} {q:Prd} (hq:q∈l.take i):∃ j,j < i∧j < l.length∧l.getD j pd0=q:=by
 rw [List.mem_take_iff_getElem] at hq
 obtain ⟨j,hj,rfl⟩:=hq
 exact ⟨j,by omega,by omega,by simp [zD,zg (show j < l.length by omega)]⟩
theorem qzv {l:List Prd} {i:Nat} (h:∀ j,j < i→pdsA l j=0) {p:Prd} {x:Sht} (hx:x.fr_≤x.to_):takA (l.take i) p x=takB (l.take i) p x:=by
 unfold takA takB
 rw [yq,List.any_eq_true,List.any_eq_true]
 constructor
 all_goals
  rintro ⟨q,hq,hc⟩
  obtain ⟨j,hj,hjl,he⟩:=qrr hq
  have h0:prdF q=0:=by rw [← he];exact qn6 (h j hj)
  have:=qxa h0 hx
  exact ⟨q,hq,by first|rw [← this];exact hc|rw [this];exact hc⟩
theorem qz9 {p:Prd} (h:prdF p=0) {x:Sht} (hx:x∈p.shs):x.fr_≤x.to_:=by
 obtain ⟨_,_,_,h3⟩:=qpG h
 obtain ⟨k,hk⟩:=zR hx
 have:=qkC h3 k (zt.1 hk).1
 have e:p.shs.getD k sh0=x:=by simp [zD,hk]
 rw [e] at this
 exact this.2.1
def qk3:IC:=(sR [qO 2 (.mov (.c (.bool false)))] (sR [qM 3 0,qO 4 (.call 51 [.t 3,.c (.int .i64 0),.c (.int .i64 5761439)]),qM 2 4] .ret))
def qkZ:List IRes:=[.t 2]
theorem qoI:chkF Tryz.prog Tryz.f106 qk3 qkZ 5=true:=by kernel_rfl
section
variable {E:Envt}
theorem qwV (n:Int):PCall Tryz.prog E 106 [int n] (·=.bool (inE n 0 5761439)):=by
 refine qae mixed Tryz.func106 qoI ?_
 simp only [a0,l0,OS.ao,zk,zr,zi,zo,zl,zm,zu,zd,zh,zj,qk3,qkZ,ZZ,WW,Zd,reduceCtorEq,zd,ze,zb,zf,za]
 refine use1 (qmS n 0 5761439) rfl (.inl rfl) ?_
 simp only [ZZ,WW,Zd,reduceCtorEq,zd,ze,zb,zf,za]
end
def qcS:IC:=(sR [qT 37 .lss 36 35] (.seq (.cond (.t 37) .skip (.exit 2)) (.seq (.block 3 (.drg [qF 38 6 7,qO 39 (.ldl 1 false (.t 38)),qM 40 0,qM 41 0,qO 42 (.bsl 1 [.c (.int .i64 79),.c (.int .i64 80),.c (.int .i64 81)]),qO 43 (.dcall true 43 [.t 41,.t 42]),qO 44 (.pcall 0 44 [.c (.str [119]),.t 43]),qO 45 (.pcall 1 44 [.c (.str [97,98,32]),.c (.int .i64 30)]),qO 46 (.bsl 1 [.c (.str [111,110,101]),.c (.str [115,101,99,114,101,116,32,119,111,114,100,115]),.c (.str []),.c (.str [195,169,116,195,169,32,120]),.t 44,.t 45]),qO 47 (.dcall true 42 [.t 40,.t 46]),qB 48 .add 47 (.c (.str [10])),qT 49 .add 39 48,qF 50 6 7,qS 1 50 49])) (.reg [qB 51 .add 36 (cI 1),qM 36 51]))))
def qcT:IC:=(sR [qT 14 .lss 13 12] (.seq (.cond (.t 14) .skip (.exit 0)) (.seq (.block 1 (sR [qM 15 13,qM 6 15] (sR [qM 16 6,qO 17 (.bin .add (cI 97) (.t 16)),qO 18 (.cvi .i32 (.t 17)),qO 19 (.cvs (.t 18)),qO 20 (.bin .add (.c (.str [105])) (.t 19)),qM 21 0,qO 22 (.bsl 1 [.c (.str [97,110,110]),.c (.str [98,111])]),qO 23 (.call 42 [.t 21,.t 22]),qM 24 0,qO 25 (.bsl 1 [.c (.int .i64 1),.c (.int .i64 3),.c (.int .i64 2),.c (.int .i64 4)]),qO 26 (.call 43 [.t 24,.t 25]),qM 27 0,qO 28 (.bsl 1 [.c (.int .i64 0),.c (.int .i64 5),.c (.int .i64 5),.c (.int .i64 40),.c (.int .i64 1440)]),qO 29 (.call 43 [.t 27,.t 28]),qM 30 0,qO 31 (.bsl 1 [.c (.str []),.c (.str [120])]),qO 32 (.call 42 [.t 30,.t 31]),⟨none,.fz (.t 23),none⟩,⟨none,.fz (.t 26),none⟩,⟨none,.fz (.t 29),none⟩,⟨none,.fz (.t 32),none⟩,qO 33 (.bld [.str [],.str [],.int .i64 0,.str [],.int .i64 0,.str [],.str []] [(0,1,.t 20),(1,1,.t 23),(2,1,.t 26),(4,1,.t 29),(3,1,.t 32)]),qO 7 (.alc 80 [.str [],.str [],.int .i64 0,.str [],.int .i64 0,.str [],.str []]),qS 7 7 33] (.seq (sR [qM 34 0,qO 35 (.call 10 [.t 34,.c (.int .i64 6)]),qO 36 (.mov (cI 0))] (.block 2 (.loop qcS))) (.seq (sR [qM 52 0,qO 53 (.call 9 [.t 52,.c (.int .i64 8)])] (.cond (.t 53) (.reg [qM 54 0,qO 55 (.bsl 1 [.c (.int .i64 49),.c (.int .i64 50),.c (.int .i64 51),.c (.int .i64 101)]),qO 56 (.call 43 [.t 54,.t 55]),qO 57 (.call 44 [.c (.str [108,105,110,101,10]),.t 56]),qF 58 6 7,qS 1 58 57]) .skip)) (.cut (.seq (sR [qM 59 6,qB 60 .gtr 59 (cI 0),qM 61 60,⟨some 62,.mov (.t 0),(some (61,true))⟩,⟨some 63,.call 9 [.t 62,.c (.int .i64 3)],(some (61,true))⟩,qO 64 (.pick (.t 61) (.t 63) (.c (.bool false)))] (.cond (.t 64) (sR [qM 65 5,qM 66 0,qM 67 5,qN 68 67,qO 69 (.call 10 [.t 66,.t 68]),qX 70 7 65 69,qO 71 (.ld 7 true (.t 70)),qO 8 (.alc 80 [.str [],.str [],.int .i64 0,.str [],.int .i64 0,.str [],.str []]),qS 7 8 71] (sR [qF 72 5 8,qL 73 72,qB 74 .eql 73 (.c (.str [])),qM 75 74,⟨some 76,.fla 2 (.t 8),(some (75,true))⟩,⟨some 77,.ld 1 false (.t 76),(some (75,true))⟩,⟨some 78,.bin .eql (.t 77) (cI 1),(some (75,true))⟩,⟨some 79,.mov (.t 78),(some (75,true))⟩,⟨some 80,.fla 2 (.t 8),(some (79,false))⟩,⟨some 81,.ld 1 false (.t 80),(some (79,false))⟩,⟨some 82,.bin .eql (.t 81) (cI 3),(some (79,false))⟩,⟨some 83,.pick (.t 79) (.c (.bool true)) (.t 82),(some (75,true))⟩,qO 84 (.pick (.t 75) (.t 83) (.c (.bool false)))] (.cond (.t 84) (.reg [qF 85 0 8,qL 86 85,qF 87 5 7,qS 1 87 86]) .skip))) .skip)) (.cut (.reg [qM 88 5,qO 89 (.ld 7 true (.t 7)),qO 90 (.bsl 7 [.t 89]),qO 91 (.app 80 7 96 (.t 88) (.t 90)),qM 5 91]))))))))) (.reg [qB 92 .add 13 (cI 1),qM 13 92]))))
def qdJ:IC:=(sR [qO 4 (.mov (.c (.nl 7)))] (sR [qO 5 (.nilr 80 7)] (.seq (sR [qM 9 0,qM 10 1,qB 11 .add 10 (cI 1),qO 12 (.call 10 [.t 9,.t 11]),qO 13 (.mov (cI 0))] (.block 0 (.loop qcT))) (sR [qM 93 5,qM 4 93] .ret))))
def qdv:List IRes:=[.t 4]
theorem qhH:chkF Tryz.prog Tryz.f8 qdJ qdv 94=true:=by kernel_rfl
def nxV (l:List Int) (k:Nat):Int:=if l=[] then ((k:Int)+1) * 7919 else qef (l.getD (k % l.length) 0) 1073741824+((k / l.length:Nat):Int) * (7919+((k % l.length:Nat):Int))
section
variable {E:Envt}
theorem qyF (l:List Int) (k:Nat) (n:Int) (hk:k≤1000000) (hl:l.length≤9223372036854775807) (h2:n≤9223372036854775807) :
  qhI Tryz.prog E 10 T (stm l k) [int n] (fun x cs'=>x=int (qef (nxV l k) n)∧cs'=stm l (k+1)):=by
 unfold qhI
 refine qge mixed Tryz.func10 qev ?_
 simp only [a0,l0,OS.ao,zk,zr,zi,zo,zl,zm,zu,zd,zh,zj,stm,qcz,qcp,ZZ,WW,Zd,reduceCtorEq,zd,ze,zb,zf,za]
 refine ⟨qan (by omega) (by omega),?_⟩
 simp only [ints,ZZ,WW,Zd,reduceCtorEq,zd,ze,zb,zf,za]
 generalize hes:l.map (fun x=>[PV.int IntKind.i64 x])=es
 have hln:es.length=l.length:=by rw [← hes];simp
 have hc:[PV.sl 1 es,int ((k:Int)+1)]=[PV.sl 1 es,int ((k+1:Nat):Int)]:=by simp
 refine br ?_ ?_
 ·intro h
  have h0:((es.length:Int)=0):=of_decide_eq_true h
  have hnil:l=[]:=by
   apply List.eq_nil_of_length_eq_zero
   omega
  refine zS ?_
  refine ⟨qan (by omega) (by omega),?_⟩
  refine use1 (qkJ _ _ h2) rfl (.inl rfl) ?_
  refine zS ?_
  exact qec [PV.sl 1 es,int ((k:Int)+1)] rfl ⟨by rw [nxV,if_pos hnil],hc⟩
 ·intro h
  have hne:¬ ((es.length:Int)=0):=of_decide_eq_false h
  have hnn:l≠[]:=by
   intro e
   rw [e] at hln
   simp only [zo] at hln
   omega
  refine zS ?_
  refine drg0 ?_
  refine zS ?_
  refine ⟨qan (by omega) (by omega),⟨by omega,?_⟩⟩
  refine drg0 ?_
  have hkk:(k:Int)+1 - 1=k:=by omega
  have hrem:(k:Int).tmod (es.length:Int)=((k % es.length:Nat):Int):=by rw [Int.tmod_eq_emod_of_nonneg (by omega)];rfl
  have hquo:(k:Int).tdiv (es.length:Int)=((k / es.length:Nat):Int):=by rw [Int.tdiv_eq_ediv_of_nonneg (by omega)];rfl
  have hq1:k / es.length≤k:=Nat.div_le_self _ _
  have hr1:k % es.length≤k:=Nat.mod_le _ _
  have hr2:k % es.length < es.length:=Nat.mod_lt _ (by omega)
  obtain ⟨x,hx⟩:∃ x,l[k % es.length]?=some x:=⟨_,zg (by omega)⟩
  have hg:es.getD (k % es.length) []=[PV.int .i64 x]:=by rw [← hes];exact qas (by rw [hes];exact hx)
  have hnx:nxV l k=qef x 1073741824+((k / es.length:Nat):Int) * (7919+((k % es.length:Nat):Int)):=by
   rw [nxV,if_neg hnn,← hln,List.getD_eq_getElem?_getD,hx]
   rfl
  rw [hnx]
  simp only [ZZ,WW,Zd,reduceCtorEq,zd,ze,zb,zf,za,hkk,hrem,hquo,hg]
  generalize k / es.length=q at *
  generalize k % es.length=r at *
  refine ⟨qan (by omega) (by omega),⟨hne,qan (by omega) (by omega)⟩,⟨by omega,by omega⟩,by omega,?_⟩
  refine use1 (qkJ _ _ (by decide)) rfl (.inl rfl) ?_
  have hb1:=qe6 x 1073741824
  have hb2:=qe7 x 1073741824 (by omega)
  have hm:(q:Int) * (7919+(r:Int))≤1000000 * 1007919:=Int.mul_le_mul (by omega) (by omega) (by omega) (by omega)
  have hm0:0≤(q:Int) * (7919+(r:Int)):=Int.mul_nonneg (by omega) (by omega)
  refine zS ?_
  refine ⟨qan (by omega) (by omega),qan (by omega) (by omega),qan (by omega) (by omega),?_⟩
  refine use1 (qkJ _ _ h2) rfl (.inl rfl) ?_
  refine zS ?_
  exact qec [PV.sl 1 es,int ((k:Int)+1)] rfl ⟨rfl,hc⟩
theorem qyE (l:List Int) (k:Nat) (c:List Int) (hk:k≤1000000) (hl:l.length≤9223372036854775807) (h0:0 < c.length) (h1:c.length≤1000000) :
  ∃ y,y∈c∧qhI Tryz.prog E 43 T (stm l k) [ints c] (fun x cs'=>x=int y∧cs'=stm l (k+1)):=by
 obtain ⟨i,hi,hy⟩:=qkt (nxV l k) c.length h0
 obtain ⟨z,hz⟩:∃ z,c[i]?=some z:=⟨_,zg hi⟩
 refine ⟨z,List.mem_of_getElem? hz,?_⟩
 unfold qhI
 refine qge mixed Tryz.func43 qeu ?_
 simp only [a0,l0,OS.ao,zk,zr,zi,zo,zl,zm,zu,zd,zh,zj,qcy,qco,ZZ,WW,Zd,reduceCtorEq,zd,ze,zb,zf,za]
 simp only [ints,ZZ,WW,Zd,reduceCtorEq,zd,ze,zb,zf,za]
 generalize hes:c.map (fun x=>[PV.int IntKind.i64 x])=es
 have hln:es.length=c.length:=by rw [← hes];simp
 refine useS (qyF l k _ hk hl (by omega)) rfl rfl rfl zE_ ?_
 rintro x cs' ⟨rfl,rfl⟩
 rw [hln,hy]
 have hg:es.getD i []=[PV.int .i64 z]:=by rw [← hes];exact qas hz
 simp only [ZZ,WW,Zd,reduceCtorEq,zd,ze,zb,zf,za,hg]
 exact ⟨⟨by omega,by omega⟩,by omega,qec (stm l (k+1)) rfl ⟨rfl,rfl⟩⟩
theorem qAH (c:Int):(Utf8.encode c).data.toList.length≤4:=by
 rw [Array.length_toList]
 exact encode_size_le c
abbrev Itm:Type:=List UInt8×List UInt8×Int×List UInt8×Int×List UInt8×List UInt8
def itC (x:Itm):List PV:=[.str x.1,.str x.2.1,int x.2.2.1,.str x.2.2.2.1,int x.2.2.2.2.1,.str x.2.2.2.2.2.1,.str x.2.2.2.2.2.2]
def itE (l:List Itm):List (List PV):=l.map itC
theorem qai (l:List Itm):(itE l).length=l.length:=by simp [itE]
theorem qbG {l:List Itm} {k:Nat} {x:Itm} (h:l[k]?=some x):(itE l).getD k []=itC x:=qas h
theorem qv8 (l:List Itm) (a b:List UInt8) (c:Int) (d:List UInt8) (e:Int) (f g:List UInt8):itE l++[[.str a,.str b,int c,.str d,int e,.str f,.str g]]=itE (l++[(a,b,c,d,e,f,g)]):=by simp [itE,itC]
def itB1 (x:Itm):Prop:=x.1.length≤100∧x.2.1.length≤3∧(1≤x.2.2.1∧x.2.2.1≤4)∧x.2.2.2.1.length≤1∧(0≤x.2.2.2.2.1∧x.2.2.2.2.1≤1440)∧x.2.2.2.2.2.1.length≤100∧x.2.2.2.2.2.2.length≤600
def ItB (l:List Itm):Prop:=∀ x∈l,itB1 x
theorem ItB.nil:ItB []:=fun x hx=>by cases hx
theorem ItB.app {l:List Itm} (h:ItB l) {x:Itm} (hx:itB1 x):ItB (l++[x]):=by
 intro y hy
 rcases List.mem_append.1 hy with hy|hy
 ·exact h y hy
 ·rw [List.mem_singleton] at hy;subst hy;exact hx
abbrev qip:Nat:=80
end
end Go.Proofs.YtehfjlpenlffmaaGreatDoor
