import Derived.Test.YtmpdnpljdcincaaGreatDoorZ10
import Derived.Laws.Cover4
set_option linter.unusedVariables false
set_option linter.unusedSimpArgs false
set_option linter.defProp false
namespace Go.Proofs.YtmpdnpljdcincaaGreatDoor
open Nat renaming le_refl→zD,reduceAdd→zd,reduceEqDiff→za,reduceLT→zf,reduceLeDiff→zb,reduceMul→ze
open List renaming any_eq_true→yw,eq_nil_of_length_eq_zero→zr,getD→zu,getElem?_eq_getElem→zg,getElem?_eq_some_iff→zk,getElem?_of_mem→zQ,length_cons→zK,map_cons→zx,mem_append→zz,mem_cons→zC,mem_filter→ye,mem_map→zG,mem_of_getElem?→zm,mem_range→yA,mem_singleton→zy,range→zA,take_of_length_le→zq
open Bool renaming and_eq_false_iff→yu,and_eq_true→zj,eq_iff_iff→yx,not_eq_true'→zW,true_and→yc
open Go.RowKit
abbrev qns:IC:=(sR [qO 2 (.mov (.c (.bool false)))] (sR [qM 3 0,qB 4 .geq 3 (.c (.int .u8 97)),qM 5 4,⟨some 6,.mov (.t 0),(some (5,true))⟩,⟨some 7,.bin .leq (.t 6) (.c (.int .u8 122)),(some (5,true))⟩,qO 8 (.pick (.t 5) (.t 7) (.c (.bool false))),qM 2 8] .ret))
theorem qnL:chkF Tryz.prog Tryz.f125 qns [.t 2] 9=true:=by kernel_rfl
def qh1:IC:=(sR [qT 18 .lss 17 16] (.seq (jE 18) (.seq (.block 1 (sR [qM 19 17,qM 3 19] (sR [qM 20 0,qM 21 3,qO 22 (.idx (.t 20) (.t 21)),qM 4 22] (sR [qM 23 4,jC 24 125 [.t 23],qO 25 (.not (.t 24)),qM 26 25,⟨some 27,.mov (.t 4),(some (26,true))⟩,⟨some 28,.call 126 [.t 27],(some (26,true))⟩,⟨some 29,.not (.t 28),(some (26,true))⟩,qO 30 (.pick (.t 26) (.t 29) (.c (.bool false))),qM 31 30,⟨some 32,.mov (.t 4),(some (31,true))⟩,⟨some 33,.bin .neq (.t 32) (.c (.int .u8 45)),(some (31,true))⟩,qO 34 (.pick (.t 31) (.t 33) (.c (.bool false))),qM 35 34,⟨some 36,.mov (.t 4),(some (35,true))⟩,⟨some 37,.bin .neq (.t 36) (.c (.int .u8 95)),(some (35,true))⟩,qO 38 (.pick (.t 35) (.t 37) (.c (.bool false)))] (jW 38 (sR [qO 2 (.mov (.c (.bool false)))] .ret)))))) (.reg [qB 39 .add 17 (cI 1),qM 17 39]))))
abbrev qqo:IC:=(sR [qO 2 (.mov (.c (.bool false)))] (.seq (sR [qM 5 0,qO 6 (.sln (.t 5)),jC 7 71 [.t 6,.c (.int .i64 1),.c (.int .i64 40)],qO 8 (.not (.t 7)),qM 9 8,⟨some 10,.mov (.t 0),(some (9,false))⟩,⟨some 11,.idx (.t 10) (cI 0),(some (9,false))⟩,⟨some 12,.call 125 [.t 11],(some (9,false))⟩,⟨some 13,.not (.t 12),(some (9,false))⟩,qO 14 (.pick (.t 9) (.c (.bool true)) (.t 13))] (jW 14 (sR [qO 2 (.mov (.c (.bool false)))] .ret))) (.seq (sR [qM 15 0,qO 16 (.sln (.t 15)),jI 17 0] (.block 0 (.loop qh1))) (sR [qO 2 (.mov (.c (.bool true)))] .ret))))
theorem qqF:chkF Tryz.prog Tryz.f65 qqo [.t 2] 40=true:=by kernel_rfl
def smB (c:UInt8):Bool:=decide (97≤(c.toNat:Int)) && decide ((c.toNat:Int)≤122)
def kcB (c:UInt8):Bool:=((smB c || digB c) || decide (c=45)) || decide (c=95)
def keyB (s:List UInt8):Bool:=(inE s.length 1 40 && smB (s.headD 0)) && s.all kcB
def smSet:List UInt8:=[97,98,99,100,101,102,103,104,105,106,107,108,109,110,111,112,113,114,115,116,117,118,119,120,121,122]
def kcSet:List UInt8:=smSet++[48,49,50,51,52,53,54,55,56,57,45,95]
theorem qto (c:UInt8):smSet.contains c=smB c:=qgx (p:=fun c=>smSet.contains c=smB c) (by decide +kernel) c
theorem quk (c:UInt8):kcSet.contains c=kcB c:=qgx (p:=fun c=>kcSet.contains c=kcB c) (by decide +kernel) c
theorem qBL (c:UInt8):decide ((c.toNat:Int)=45)=decide (c=45):=qgx (p:=fun c=>decide ((c.toNat:Int)=45)=decide (c=45)) (by decide +kernel) c
theorem qBK (c:UInt8):decide ((c.toNat:Int)=95)=decide (c=95):=qgx (p:=fun c=>decide ((c.toNat:Int)=95)=decide (c=95)) (by decide +kernel) c
section
variable {E:Envt}
theorem qrh (c:UInt8):PCall Tryz.prog E 125 [.int .u8 (c.toNat:Nat)] (·=.bool (smB c)):=by
 refine qag mixed Tryz.func125 qnL ?_
 refine zV ?_
 ((with_reducible and_intros)<;>try exact sc_)
theorem qx3 (s:List UInt8) (hs:s.length≤1000000000):PCall Tryz.prog E 65 [.str s] (·=.bool (keyB s)):=by
 refine qag mixed Tryz.func65 qqF ?_
 refine zV ?_
 refine use1 (qqV s.length 1 40) rfl (.inl rfl) ?_
 by_cases hi:inE s.length 1 40=true
 rotate_left
 ·have hi:inE s.length 1 40=false:=by simpa using hi
  have hk:keyB s=false:=by rw [keyB,hi];rfl
  rw [hi,hk]
  refine zS ?_
  refine ⟨fun h=>h.elim,?_⟩
  refine qpZ (fun h=>by cases h) (fun _=>?_)
  simp only [ZZ,WW,Zd,reduceCtorEq,zd,ze,zb,zf,za]
 have hi2:=hi
 simp only [inE,zj,decide_eq_true_eq] at hi2
 obtain ⟨c0,hc0⟩:∃ c,s[0]?=some c:=⟨_,zg (by omega)⟩
 have hd0:s.headD 0=c0:=by cases s with|nil=>simp at hc0|cons a r=>simpa using hc0
 have hg0:s.getD (Int.toNat 0) 0=c0:=by simp [zu,hc0]
 have hk:keyB s=(smB c0 && s.all kcB):=by rw [keyB,hi,hd0,yc]
 rw [hi,hk]
 simp only [ZZ,WW,Zd,reduceCtorEq,zd,ze,zb,zf,za,hg0]
 ((with_reducible and_intros)<;>try exact sc_)
 refine useG (fun _=>qrh c0) rfl (.inl rfl) ?_
 refine zS ?_
 refine br ?_ ?_
 ·intro h
  have h:smB c0=false:=by simpa using h
  refine zS ?_
  rw [h]
  rfl
 intro h
 have h:smB c0=true:=by simpa using h
 rw [h,yc]
 refine zS ?_
 refine qac (fun n fr L=>∃ (k:Nat),k≤s.length∧n=s.length - k∧(s.all kcB=(s.drop k).all kcB)∧fr=(.p (.str s)::oD (oC (oB (oo::(.p (int (s.length:Nat))::.p (int (k:Nat))::oE (oC (oB [])))))))∧L=[]) (s.length) _ [] zF_ zF_ ⟨0,by omega,by omega,by simp,rfl,rfl⟩ ?_
 rintro n fr L ⟨k,hk,rfl,hf,rfl,rfl⟩
 simp only [qh1,ZZ,WW,Zd,reduceCtorEq,zd,ze,zb,zf,za]
 refine br ?_ ?_
 ·intro h2
  have hlt:k < s.length:=by have:=of_decide_eq_true h2;omega
  obtain ⟨c,hc⟩:∃ c,s[k]?=some c:=⟨_,zg hlt⟩
  have hg:s.getD k 0=c:=by simp [zu,hc]
  have hdr:s.drop k=c :: s.drop (k+1):=by
   obtain ⟨hl,rfl⟩:=zk.1 hc
   exact List.drop_eq_getElem_cons hl
  rw [hdr,List.all_cons] at hf
  simp only [ZZ,WW,Zd,reduceCtorEq,zd,ze,zb,zf,za,hg]
  ((with_reducible and_intros)<;>try exact sc_)
  refine use1 (qrh c) rfl (.inl rfl) ?_
  refine zS ?_
  refine useG (fun _=>qr9 c) rfl (.inl rfl) ?_
  have hkc:(!smB c && !digB c && !decide (c=45) && !decide (c=95))=!kcB c:=by
   unfold kcB
   cases smB c<;>cases digB c<;>cases decide (c=45)<;>cases decide (c=95)<;>rfl
  simp only [ZZ,WW,Zd,reduceCtorEq,zd,ze,zb,zf,za,qBL,qBK,hkc]
  ((with_reducible and_intros)<;>try exact sc_)
  refine br ?_ ?_
  ·intro hb
   have hb:kcB c=false:=by simpa using hb
   rw [hf,hb]
   refine zS ?_
   rfl
  ·intro hb
   have hb:kcB c=true:=by simpa using hb
   rw [hb,yc] at hf
   refine zS ?_
   ((with_reducible and_intros)<;>try exact sc_)
   refine qab (s.length - (k+1)) _ [] (by omega) zF_ zF_ ⟨k+1,by omega,rfl,hf,rfl,rfl⟩
 ·intro h2
  have hge:k=s.length:=by have:=of_decide_eq_false h2;omega
  rw [hf,hge,List.drop_length]
  simp only [ZZ,WW,Zd,reduceCtorEq,zd,ze,zb,zf,za]
end
structure Sht where
 id:List UInt8
 top:List UInt8
 kind:Int
 fr_:Int
 to_:Int
 pages:Tab
 ver:Int
def shV (x:Sht):List PV:=[.str x.id,.str x.top,int x.kind,int x.fr_,int x.to_,.sl 1 (tbE x.pages),int x.ver]
def shE (l:List Sht):List (List PV):=l.map shV
theorem qae (l:List Sht):(shE l).length=l.length:=by simp [shE]
theorem qa0 {l:List Sht} {k:Nat} {x:Sht} (h:l[k]?=some x):(shE l).getD k []=shV x:=qao h
theorem qh6 (l:List Sht) (x:Sht):shE l++[shV x]=shE (l++[x]):=by simp [shE]
structure Prd where
 no:Int
 pre:List UInt8
 dig:Int
 shs:List Sht
def pdV (x:Prd):List PV:=[int x.no,.str x.pre,int x.dig,.sl 7 (shE x.shs)]
def pdE (l:List Prd):List (List PV):=l.map pdV
theorem qaE (l:List Prd):(pdE l).length=l.length:=by simp [pdE]
theorem qgW {l:List Prd} {k:Nat} {x:Prd} (h:l[k]?=some x):(pdE l).getD k []=pdV x:=qao h
theorem qy9 (l:List Prd) (x:Prd):pdE l++[pdV x]=pdE (l++[x]):=by simp [pdE]
def sh0:Sht:=⟨[],[],0,0,0,[],0⟩
def qpr (s:List UInt8):Bool:=decide (80 < (s.length:Int)) || !visE s false
def qlX (p:List (List UInt8)):Bool:=decide (50 < (p.length:Int)) || p.any qpr
def pgsE (x:Sht):Int:=
 if ¬ ((x.pages.length:Int)=x.to_ - x.fr_+1) then 3 else if x.pages.any qlX=true then 3
 else qak ((decide (x.kind=2) || decide (x.kind=3)) && (!decide ((x.pages.length:Int)=1) || !decide (((x.pages.getD 0 []).length:Int)=1))) 3
def shA (dig:Int) (l:List Sht) (i:Nat):Int:=
 let x:=l.getD i sh0
 let b:=l.getD (i - 1) sh0
 qai [qak (!keyB x.id || !keyB x.top) 5,qak ((l.take i).any fun y=>decide (y.id=x.id)) 6,qak (!decide (x.top=x.id) && (decide (i=0) || !decide (x.top=b.top))) 7,
  qak (decide (x.top=x.id) && (l.take i).any fun y=>decide (y.top=x.top)) 6,qak (!inE x.kind 1 4) 4,qak (!inE x.ver 1 1000) 1,
  qak (!inE x.fr_ 1 x.to_ || decide (powF dig - 1 < x.to_) || (decide (0 < i) && !decide (x.fr_=b.to_+1))) 1]
def shP (dig:Int) (l:List Sht) (i:Nat):Int:=if shA dig l i=0 then pgsE (l.getD i sh0) else shA dig l i
def prdF (p:Prd):Int:=
 qai [qak (!inE p.no 1 200) 1,qd3 p.pre p.dig,qak (decide (p.shs.length=0)) 8,qak (decide (2000 < p.shs.length)) 2,qai ((zA p.shs.length).map (shP p.dig p.shs))]
def shR (dig:Int) (l:List Sht) (i:Nat):Int:=
 let x:=l.getD i sh0
 let b:=l.getD (i - 1) sh0
 let goesOn:=decide (0 < i) && decide (b.top=x.top)
 if (!keyB x.id || !keyB x.top)=true then 5 else if ((l.take i).any fun y=>decide (y.id=x.id))=true then 6
 else if (!goesOn && !decide (x.top=x.id))=true then 7 else if (!goesOn && (l.take i).any fun y=>decide (y.top=x.top))=true then 6
 else if (decide (x.kind < 1) || decide (4 < x.kind))=true then 4 else if (decide (x.ver < 1) || decide (1000 < x.ver))=true then 1
 else if (decide (x.fr_ < 1) || decide (x.to_ < x.fr_) || decide (powF dig≤x.to_) || (decide (0 < i) && !decide (x.fr_=b.to_+1)))=true then 1
 else if (!decide ((x.pages.length:Int)=x.to_ - x.fr_+1) || x.pages.any qlX)=true then 3
 else if ((decide (x.kind=2) || decide (x.kind=3)) && (!decide ((x.pages.length:Int)=1) || !decide (((x.pages.getD 0 []).length:Int)=1)))=true then 3 else 0
theorem qfp {b:Bool} {e:Int} (he:e≠0):qak b e=0↔b=false:=by
 unfold qak
 cases b<;>simp [he]
theorem qiO {dig:Int} {l:List Sht} {i:Nat} (h:shP dig l i=0):shA dig l i=0∧pgsE (l.getD i sh0)=0:=by
 unfold shP at h
 split at h
 ·rename_i h0;exact ⟨h0,h⟩
 ·rename_i h0;exact absurd h h0
structure ShOk (dig:Int) (l:List Sht) (i:Nat):Prop where
 key:keyB (l.getD i sh0).id=true∧keyB (l.getD i sh0).top=true
 one:((l.take i).any fun y=>decide (y.id=(l.getD i sh0).id))=false
 goes:(l.getD i sh0).top=(l.getD i sh0).id∨0 < i∧(l.getD i sh0).top=(l.getD (i - 1) sh0).top
 rng:1≤(l.getD i sh0).fr_∧(l.getD i sh0).fr_≤(l.getD i sh0).to_∧(l.getD i sh0).to_ < powF dig∧(0 < i→(l.getD i sh0).fr_=(l.getD (i - 1) sh0).to_+1)
theorem qpe {a b c d e f g:Int} (h:qai [a,b,c,d,e,f,g]=0):a=0∧b=0∧c=0∧d=0∧e=0∧f=0∧g=0:=by
 simp only [qai] at h
 repeat' split at h
 all_goals first|exact ⟨by assumption,by assumption,by assumption,by assumption,by assumption,by assumption,by assumption⟩|(exact absurd h (by assumption))
theorem qrl {dig:Int} {l:List Sht} {i:Nat} (h:shA dig l i=0):ShOk dig l i:=by
 obtain ⟨h1,h2,h3,h4,h5,h6,h7⟩:=qpe h
 rw [qfp (by decide)] at h1 h2 h3 h4 h5 h6 h7
 refine ⟨?_,h2,?_,?_⟩
 ·rw [Bool.or_eq_false_iff] at h1
  simpa using h1
 ·rw [yu] at h3
  rcases h3 with h3|h3
  ·exact .inl (by simpa using h3)
  ·rw [Bool.or_eq_false_iff] at h3
   simp only [decide_eq_false_iff_not,Bool.not_eq_false',decide_eq_true_eq] at h3
   exact .inr ⟨by omega,h3.2⟩
 ·rw [Bool.or_eq_false_iff,Bool.or_eq_false_iff] at h7
  obtain ⟨⟨h7,h8⟩,h9⟩:=h7
  simp only [inE,Bool.not_eq_false',zj,decide_eq_true_eq,decide_eq_false_iff_not] at h7 h8
  refine ⟨h7.1,h7.2,by omega,fun hi=>?_⟩
  rw [yu] at h9
  rcases h9 with h9|h9
  ·simp only [decide_eq_false_iff_not] at h9;omega
  ·simpa using h9
theorem qrj {dig:Int} {l:List Sht}:∀ (j:Nat),j < l.length→(∀ k,k≤j→shP dig l k=0)→∃ k,k≤j∧(l.getD k sh0).id=(l.getD j sh0).top
 |0,hj,h=>by
  have:=(qrl (qiO (h 0 (zD _))).1).goes
  rcases this with h1|h1
  ·exact ⟨0,zD _,h1.symm⟩
  ·exact absurd h1.1 (by decide)
 |j+1,hj,h=>by
  have:=(qrl (qiO (h (j+1) (zD _))).1).goes
  rcases this with h1|⟨_,h1⟩
  ·exact ⟨j+1,zD _,h1.symm⟩
  ·obtain ⟨k,hk,he⟩:=qrj j (by omega) (fun k hk=>h k (by omega))
   refine ⟨k,by omega,?_⟩
   rw [h1,he]
   rfl
theorem qxj {l:List Sht} {i k:Nat} (hk:k < i) (hl:i≤l.length) (p:Sht→Bool) (hp:p (l.getD k sh0)=true):((l.take i).any p)=true:=by
 rw [yw]
 refine ⟨l.getD k sh0,?_,hp⟩
 rw [List.mem_take_iff_getElem]
 refine ⟨k,by omega,?_⟩
 simp [zu,zg (show k < l.length by omega)]
theorem qnk (a b:Int):(decide (a < 1) || decide (b < a))=!inE a 1 b:=by
 unfold inE
 rw [yx]
 simp only [Bool.or_eq_true,decide_eq_true_eq,zW,yu,decide_eq_false_iff_not]
 omega
theorem qAw {dig:Int} {l:List Sht} {i:Nat} (hi:i < l.length) (h:∀ j,j < i→shP dig l j=0):shR dig l i=shP dig l i:=by
 have hpg:pgsE (l.getD i sh0)=if (!decide (((l.getD i sh0).pages.length:Int)=(l.getD i sh0).to_ - (l.getD i sh0).fr_+1) || (l.getD i sh0).pages.any qlX)=true then 3 else if ((decide ((l.getD i sh0).kind=2) || decide ((l.getD i sh0).kind=3)) && (!decide (((l.getD i sh0).pages.length:Int)=1) || !decide ((((l.getD i sh0).pages.getD 0 []).length:Int)=1)))=true then 3 else 0:=by
  unfold pgsE qak
  by_cases a1:((l.getD i sh0).pages.length:Int)=(l.getD i sh0).to_ - (l.getD i sh0).fr_+1
  ·rw [if_neg (by simpa using a1),decide_eq_true a1]
   rfl
  ·rw [if_pos a1,decide_eq_false a1]
   rfl
 have hon:(decide (0 < i) && decide ((l.getD (i - 1) sh0).top=(l.getD i sh0).top))=true→decide ((l.getD i sh0).top=(l.getD i sh0).id)=true→((l.take i).any fun y=>decide (y.id=(l.getD i sh0).id))=true:=by
  intro h1 h2
  rw [zj,decide_eq_true_eq,decide_eq_true_eq] at h1
  rw [decide_eq_true_eq] at h2
  obtain ⟨k,hk,he⟩:=qrj (dig:=dig) (l:=l) (i - 1) (by omega) (fun k hk=>h k (by omega))
  exact qxj (k:=k) (by omega) (by omega) (fun y=>decide (y.id=(l.getD i sh0).id)) (by rw [decide_eq_true_eq,he,h1.2,h2])
 have hsm:decide ((l.getD i sh0).top=(l.getD (i - 1) sh0).top)=decide ((l.getD (i - 1) sh0).top=(l.getD i sh0).top):=decide_eq_decide.2 ⟨Eq.symm,Eq.symm⟩
 have hi0:decide (i=0)=!decide (0 < i):=by
  rw [yx]
  simp
 have hto:decide (powF dig - 1 < (l.getD i sh0).to_)=decide (powF dig≤(l.getD i sh0).to_):=decide_eq_decide.2 (by omega)
 have k1:(decide ((l.getD i sh0).kind < 1) || decide (4 < (l.getD i sh0).kind))=!inE (l.getD i sh0).kind 1 4:=qnk _ _
 have k2:(decide ((l.getD i sh0).ver < 1) || decide (1000 < (l.getD i sh0).ver))=!inE (l.getD i sh0).ver 1 1000:=qnk _ _
 have k3:(decide ((l.getD i sh0).fr_ < 1) || decide ((l.getD i sh0).to_ < (l.getD i sh0).fr_))=!inE (l.getD i sh0).fr_ 1 (l.getD i sh0).to_:=qnk _ _
 unfold shP shA shR
 simp only [qai]
 simp only [hsm,hi0,hto,k1,k2,k3,← hpg]
 generalize ((l.take i).any fun y=>decide (y.id=(l.getD i sh0).id))=c6 at *
 generalize ((l.take i).any fun y=>decide (y.top=(l.getD i sh0).top))=c6b at *
 generalize decide ((l.getD i sh0).top=(l.getD i sh0).id)=bg at *
 generalize decide ((l.getD (i - 1) sh0).top=(l.getD i sh0).top)=sm at *
 generalize decide (0 < i)=ip at *
 generalize (!keyB (l.getD i sh0).id || !keyB (l.getD i sh0).top)=c5
 generalize (!inE (l.getD i sh0).kind 1 4)=c4
 generalize (!inE (l.getD i sh0).ver 1 1000)=c1
 generalize (!inE (l.getD i sh0).fr_ 1 (l.getD i sh0).to_ || decide (powF dig≤(l.getD i sh0).to_))=c2
 generalize (!decide ((l.getD i sh0).fr_=(l.getD (i - 1) sh0).to_+1))=c3
 generalize pgsE (l.getD i sh0)=pg
 cases c5<;>cases c6<;>cases bg<;>cases sm<;>cases ip<;>cases c6b<;>cases c4<;>cases c1<;>cases c2<;>cases c3<;>first|rfl|(simp at hon;done)|(simp [qak];done)
theorem qfP {dig:Int} {l:List Sht} (h:∀ j,j < l.length→shP dig l j=0):∀ j,j < l.length→1≤(l.getD j sh0).fr_∧(l.getD j sh0).fr_≤(l.getD j sh0).to_∧(l.getD j sh0).to_ < powF dig∧(0 < j→(l.getD j sh0).fr_=(l.getD (j - 1) sh0).to_+1):=
 fun j hj=>(qrl (qiO (h j hj)).1).rng
theorem qp3 {dig:Int} {l:List Sht} (h:∀ j,j < l.length→shP dig l j=0):∀ j,j < l.length→(l.getD 0 sh0).fr_≤(l.getD j sh0).fr_∧(l.getD 0 sh0).fr_≤(l.getD j sh0).to_
 |0,hj=>by
  have:=qfP h 0 hj
  omega
 |j+1,hj=>by
  have h1:=qp3 h j (by omega)
  have h2:=qfP h (j+1) hj
  have h3:=h2.2.2.2 (by omega)
  simp only [Nat.add_sub_cancel] at h3
  omega
theorem qtq {dig:Int} {l:List Sht} (h:∀ j,j < l.length→shP dig l j=0):∀ (d j:Nat),j+d < l.length→(l.getD j sh0).to_≤(l.getD (j+d) sh0).to_
 |0,j,hj=>Int.le_refl _
 |d+1,j,hj=>by
  have h1:=qtq h d j (by omega)
  have h2:=qfP h (j+(d+1)) hj
  have h3:=h2.2.2.2 (by omega)
  have e:j+(d+1) - 1=j+d:=by omega
  rw [e] at h3
  omega
theorem qAv {dig:Int} {l:List Sht} (h:∀ j,j < l.length→shP dig l j=0) (z:Int):∀ j,j < l.length→(l.getD 0 sh0).fr_≤z→z≤(l.getD j sh0).to_→∃ k,k < l.length∧(l.getD k sh0).fr_≤z∧z≤(l.getD k sh0).to_
 |0,hj,h1,h2=>⟨0,hj,h1,h2⟩
 |j+1,hj,h1,h2=>by
  by_cases h3:z≤(l.getD j sh0).to_
  ·exact qAv h z j (by omega) h1 h3
  ·have h4:=(qfP h (j+1) hj).2.2.2 (by omega)
   simp only [Nat.add_sub_cancel] at h4
   exact ⟨j+1,hj,by omega,h2⟩
theorem qaz {G:List Int} (h:qai G=0):∀ x∈G,x=0:=by
 induction G with
 |nil=>intro x hx;cases hx
 |cons e r ih=>
  simp only [qai] at h
  split at h
  ·rename_i h0
   intro x hx
   rcases zC.1 hx with rfl|hx
   ·exact h0
   ·exact ih h x hx
  ·rename_i h0
   exact absurd h h0
theorem qh9 {p:Prd} (h:prdF p=0):p.shs≠[]∧p.shs.length≤2000∧qd3 p.pre p.dig=0∧∀ j,j < p.shs.length→shP p.dig p.shs j=0:=by
 have hz:=qaz h
 simp only [zC,List.not_mem_nil,or_false,forall_eq_or_imp,forall_eq] at hz
 obtain ⟨h1,h2,h3,h4,h5⟩:=hz
 rw [qfp (by decide)] at h3 h4
 refine ⟨fun e=>by rw [e] at h3;simp at h3,by have:=of_decide_eq_false h4;omega,h2,fun j hj=>?_⟩
 exact qaz h5 _ (zG.2 ⟨j,yA.2 hj,rfl⟩)
def takW (x:Sht) (q:Prd):Bool:=decide (x.fr_ < (q.shs.getD (q.shs.length - 1) sh0).to_+1) && decide ((q.shs.getD 0 sh0).fr_≤x.to_)
def takS (x:Sht) (q:Prd):Bool:=q.shs.any fun y=>decide (x.fr_≤y.to_) && decide (y.fr_≤x.to_)
theorem qvJ {q:Prd} (h:prdF q=0) {x:Sht} (hx:x.fr_≤x.to_):takW x q=takS x q:=by
 obtain ⟨h1,h2,_,h3⟩:=qh9 h
 have hl:0 < q.shs.length:=List.length_pos_iff.2 h1
 unfold takW takS
 rw [yx,yw,zj,decide_eq_true_eq,decide_eq_true_eq]
 constructor
 ·rintro ⟨a,b⟩
  have hm:=qp3 h3 (q.shs.length - 1) (by omega)
  obtain ⟨k,hk,c,d⟩:=qAv h3 (max x.fr_ (q.shs.getD 0 sh0).fr_) (q.shs.length - 1) (by omega) (by omega) (by omega)
  refine ⟨q.shs.getD k sh0,?_,?_⟩
  ·simp [zu,zg hk]
  ·rw [zj,decide_eq_true_eq,decide_eq_true_eq]
   omega
 ·rintro ⟨y,hy,c⟩
  rw [zj,decide_eq_true_eq,decide_eq_true_eq] at c
  obtain ⟨k,hk⟩:=zQ hy
  have hkl:=(zk.1 hk).1
  have hyk:q.shs.getD k sh0=y:=by simp [zu,hk]
  have m1:=qp3 h3 k hkl
  have m2:=qtq h3 (q.shs.length - 1 - k) k (by omega)
  have e:k+(q.shs.length - 1 - k)=q.shs.length - 1:=by omega
  rw [e] at m2
  rw [hyk] at m1 m2
  omega
def pd0:Prd:=⟨0,[],0,[]⟩
def qh2 (l:List Prd) (s:List UInt8):Bool:=l.any fun q=>q.shs.any fun y=>decide (y.id=s)
def takA (l:List Prd) (p:Prd) (x:Sht):Bool:=l.any fun q=>decide (q.pre=p.pre) && takW x q
def takB (l:List Prd) (p:Prd) (x:Sht):Bool:=l.any fun q=>decide (q.pre=p.pre) && takS x q
def shBp (l:List Prd) (p:Prd) (x:Sht):Int:=qai [qak (qh2 l x.id) 6,qak (takA l p x) 13]
def pdsA (l:List Prd) (i:Nat):Int:=
 if qai [prdF (l.getD i pd0),qak (!decide ((l.getD i pd0).no=(i:Nat)+1)) 7]=0 then qai ((l.getD i pd0).shs.map (shBp (l.take i) (l.getD i pd0)))
 else qai [prdF (l.getD i pd0),qak (!decide ((l.getD i pd0).no=(i:Nat)+1)) 7]
def pdsF (l:List Prd):Int:=if 200 < l.length then 2 else qai ((zA l.length).map (pdsA l))
theorem qrx (l:List Prd) {k:Nat} (h:k < l.length):((zA l.length).map (pdsA l))[k]?=some (pdsA l k):=by
 rw [List.getElem?_map,List.getElem?_range h];rfl
theorem qgV {l:List Prd} {i:Nat} (h:pdsA l i=0):prdF (l.getD i pd0)=0:=by
 unfold pdsA at h
 split at h
 ·rename_i h0
  exact qaz h0 _ (by simp)
 ·rename_i h0
  exact absurd h h0
theorem qo5 {l:List Prd} {i:Nat} {q:Prd} (hq:q∈l.take i):∃ j,j < i∧j < l.length∧l.getD j pd0=q:=by
 rw [List.mem_take_iff_getElem] at hq
 obtain ⟨j,hj,rfl⟩:=hq
 exact ⟨j,by omega,by omega,by simp [zu,zg (show j < l.length by omega)]⟩
theorem qtd {l:List Prd} {i:Nat} (h:∀ j,j < i→pdsA l j=0) {p:Prd} {x:Sht} (hx:x.fr_≤x.to_):takA (l.take i) p x=takB (l.take i) p x:=by
 unfold takA takB
 rw [yx,yw,yw]
 constructor
 all_goals
  rintro ⟨q,hq,hc⟩
  obtain ⟨j,hj,hjl,he⟩:=qo5 hq
  have h0:prdF q=0:=by rw [← he];exact qgV (h j hj)
  have:=qvJ h0 hx
  exact ⟨q,hq,by first|rw [← this];exact hc|rw [this];exact hc⟩
theorem qtG {p:Prd} (h:prdF p=0) {x:Sht} (hx:x∈p.shs):x.fr_≤x.to_:=by
 obtain ⟨_,_,_,h3⟩:=qh9 h
 obtain ⟨k,hk⟩:=zQ hx
 have:=qfP h3 k (zk.1 hk).1
 have e:p.shs.getD k sh0=x:=by simp [zu,hk]
 rw [e] at this
 exact this.2.1
def gapF:Int→List (Int×Int)→List (Int×Int)
 |_,[]=>[]
 |a,w :: r=>(if a < w.1 then [(a,w.1)] else [])++gapF w.2 r
def winS (l:List Sht):List (Int×Int):=l.map fun x=>(x.fr_,x.to_+1)
def numW (p:Prd):Int×Int:=((p.shs.getD 0 sh0).fr_,(p.shs.getD (p.shs.length - 1) sh0).to_+1)
def qlh:Sht→List Sht→Int
 |x,[]=>x.to_
 |_,y :: r=>qlh y r
def ChnS:Sht→List Sht→Prop
 |x,[]=>x.fr_≤x.to_
 |x,y :: r=>x.fr_≤x.to_∧y.fr_=x.to_+1∧ChnS y r
theorem qmm:∀ (r:List Sht) (x:Sht),((x :: r).getD ((x :: r).length - 1) sh0).to_=qlh x r
 |[],x=>rfl
 |y :: r,x=>by
  have:=qmm r y
  simpa [qlh] using this
theorem quV:∀ (r:List Sht) (x:Sht),(∀ j,j < (x :: r).length→((x :: r).getD j sh0).fr_≤((x :: r).getD j sh0).to_∧(0 < j→((x :: r).getD j sh0).fr_=((x :: r).getD (j - 1) sh0).to_+1))→ChnS x r
 |[],x,h=>(h 0 (by simp)).1
 |y :: r,x,h=>by
  refine ⟨(h 0 (by simp)).1,by simpa using (h 1 (by simp)).2 (by decide),quV r y fun j hj=>?_⟩
  have:=h (j+1) (by simp at hj ⊢;omega)
  refine ⟨by simpa using this.1,fun hp=>?_⟩
  obtain ⟨i,rfl⟩:∃ i,j=i+1:=⟨j - 1,by omega⟩
  simpa using this.2 (by omega)
theorem qo9 (rest:List (Int×Int)):∀ (r:List Sht) (x:Sht) (a:Int),ChnS x r→gapF a (winS (x :: r)++rest)=gapF a ((x.fr_,qlh x r+1) :: rest)
 |[],x,a,h=>rfl
 |y :: r,x,a,h=>by
  obtain ⟨h1,h2,h3⟩:=h
  have ih:=qo9 rest r y (x.to_+1) h3
  have e:winS (x :: y :: r)++rest=(x.fr_,x.to_+1) :: (winS (y :: r)++rest):=rfl
  rw [e]
  simp only [gapF,ih,h2,qlh]
  rw [if_neg (Int.lt_irrefl _),List.nil_append]
theorem qpo:∀ (r:List Sht) (x:Sht),ChnS x r→x.fr_≤qlh x r∧∀ y∈x :: r,x.fr_≤y.fr_∧y.fr_≤y.to_∧y.to_≤qlh x r
 |[],x,h=>⟨h,fun y hy=>by rw [zy] at hy;subst hy;exact ⟨Int.le_refl _,h,Int.le_refl _⟩⟩
 |z :: r,x,h=>by
  obtain ⟨h1,h2,h3⟩:=h
  obtain ⟨i1,i2⟩:=qpo r z h3
  simp only [qlh]
  refine ⟨by omega,fun y hy=>?_⟩
  rcases zC.1 hy with rfl|hy
  ·exact ⟨Int.le_refl _,h1,by omega⟩
  ·have:=i2 y hy
   omega
theorem ql4:∀ (r:List Sht) (x:Sht),ChnS x r→(winS (x :: r)).Pairwise fun a b=>a.1 < b.1
 |[],x,h=>by simp [winS]
 |z :: r,x,h=>by
  obtain ⟨h1,h2,h3⟩:=h
  have ih:=ql4 r z h3
  have e:winS (x :: z :: r)=(x.fr_,x.to_+1) :: winS (z :: r):=rfl
  rw [e,List.pairwise_cons]
  refine ⟨fun w hw=>?_,ih⟩
  obtain ⟨y,hy,rfl⟩:=zG.1 hw
  have:=(qpo r z h3).2 y hy
  simp only
  omega
theorem qx0 (n:Int):∀ (r:List Sht) (x:Sht),ChnS x r→x.fr_≤n→n≤qlh x r→∃ y∈x :: r,y.fr_≤n∧n≤y.to_
 |[],x,h,h1,h2=>⟨x,by simp,h1,h2⟩
 |z :: r,x,h,h1,h2=>by
  obtain ⟨_,h4,h3⟩:=h
  by_cases hc:n≤x.to_
  ·exact ⟨x,by simp,h1,hc⟩
  ·obtain ⟨y,hy,h5⟩:=qx0 n r z h3 (by omega) h2
   exact ⟨y,List.mem_cons_of_mem _ hy,h5⟩
theorem qj7 {α β:Type} (f:α→β):∀ (l:List α) (S:List β),S.Perm (l.map f)→∃ l':List α,l'.Perm l∧S=l'.map f
 |[],S,h=>⟨[],List.Perm.refl _,by simpa using h⟩
 |a :: t,S,h=>by
  have hm:f a∈S:=h.mem_iff.2 (by simp)
  obtain ⟨s1,s2,rfl⟩:=List.append_of_mem hm
  have h2:(s1++s2).Perm (t.map f):=by
   have:=List.perm_middle.symm.trans h
   exact this.cons_inv
  obtain ⟨l'',hp,he⟩:=qj7 f t _ h2
  obtain ⟨l1,l2,rfl,e1,e2⟩:=List.map_eq_append_iff.1 he.symm
  exact ⟨l1++a :: l2,List.perm_middle.trans (hp.cons a),by rw [← e1,← e2];simp⟩
theorem qom:∀ {E R:List (Int×Int)},R.Perm E→(E.Pairwise fun a b=>a.1 < b.1)→(R.Pairwise fun a b=>a.1≤b.1)→R=E
 |[],R,hp,_,_=>by simpa using hp
 |x :: r,R,hp,he,hr=>by
  cases R with
  |nil=>exact absurd hp.length_eq (by simp)
  |cons y s=>
   rw [List.pairwise_cons] at he hr
   have hxy:x=y:=by
    have h1:x∈y :: s:=hp.mem_iff.2 (by simp)
    have h2:y∈x :: r:=hp.mem_iff.1 (by simp)
    rcases zC.1 h1 with h|h1
    ·exact h
    rcases zC.1 h2 with h|h2
    ·exact h.symm
    have a:=he.1 y h2
    have b:=hr.1 x h1
    omega
   subst hxy
   rw [qom hp.cons_inv he.2 hr.2]
def DisjP (p q:Prd):Prop:=∀ x∈p.shs,∀ y∈q.shs,¬ (x.fr_≤y.to_∧y.fr_≤x.to_)
theorem DisjP.symm {p q:Prd} (h:DisjP p q):DisjP q p:=fun x hx y hy hc=>h y hy x hx ⟨hc.2,hc.1⟩
def PrdC (p:Prd):Prop:=∃ x r,p.shs=x :: r∧ChnS x r
theorem qm7 {p:Prd} {x:Sht} {r:List Sht} (h:p.shs=x :: r):numW p=(x.fr_,qlh x r+1):=by
 unfold numW
 rw [h,qmm]
 rfl
theorem quF:∀ (l:List Prd) (a:Int),(∀ p∈l,PrdC p)→gapF a (l.flatMap fun p=>winS p.shs)=gapF a (l.map numW)
 |[],a,h=>rfl
 |p :: t,a,h=>by
  obtain ⟨x,r,e,hc⟩:=h p (by simp)
  rw [List.flatMap_cons,zx,qm7 e,e,qo9 _ r x a hc]
  simp only [gapF]
  rw [quF t _ fun q hq=>h q (List.mem_cons_of_mem _ hq)]
theorem qmu:∀ (l:List Prd),(∀ p∈l,PrdC p)→l.Pairwise DisjP→(l.map numW).Pairwise (fun a b=>a.1≤b.1)→(l.flatMap fun p=>winS p.shs).Pairwise fun a b=>a.1 < b.1
 |[],_,_,_=>by simp
 |p :: t,h,hd,hs=>by
  rw [List.flatMap_cons,List.pairwise_append]
  rw [List.pairwise_cons] at hd
  rw [zx,List.pairwise_cons] at hs
  obtain ⟨x,r,e,hc⟩:=h p (by simp)
  refine ⟨by rw [e];exact ql4 r x hc,qmu t (fun q hq=>h q (List.mem_cons_of_mem _ hq)) hd.2 hs.2,fun u hu v hv=>?_⟩
  obtain ⟨q,hq,hv⟩:=List.mem_flatMap.1 hv
  obtain ⟨y,s,e2,hc2⟩:=h q (List.mem_cons_of_mem _ hq)
  have h1:=hs.1 (numW q) (zG.2 ⟨q,hq,rfl⟩)
  rw [qm7 e,qm7 e2] at h1
  simp only at h1
  rw [e] at hu
  rw [e2] at hv
  obtain ⟨u',hu',rfl⟩:=zG.1 hu
  obtain ⟨v',hv',rfl⟩:=zG.1 hv
  have b1:=(qpo r x hc).2 u' hu'
  have b2:=(qpo s y hc2).2 v' hv'
  have b3:=(qpo s y hc2).2 y (by simp)
  simp only
  rcases Int.lt_or_le (qlh x r) y.fr_ with hlt|hge
  ·omega
  ·obtain ⟨z,hz,hz1,hz2⟩:=qx0 y.fr_ r x hc h1 hge
   exact absurd ⟨by omega,by omega⟩ (hd.1 q hq z (by rw [e];exact hz) y (by rw [e2];simp))
theorem quA {m:List Prd} (hc:∀ p∈m,PrdC p) (hd:m.Pairwise DisjP) {S R:List (Int×Int)} (hS:S.Perm (m.map numW)) (hSs:S.Pairwise fun a b=>a.1≤b.1)
  (hR:R.Perm (m.flatMap fun p=>winS p.shs)) (hRs:R.Pairwise fun a b=>a.1≤b.1) (a:Int):gapF a S=gapF a R:=by
 obtain ⟨l,hp,rfl⟩:=qj7 numW m S hS
 have hc2:∀ p∈l,PrdC p:=fun p h=>hc p (hp.mem_iff.1 h)
 have hd2:l.Pairwise DisjP:=(hp.pairwise_iff (fun h=>h.symm)).2 hd
 have he:=qmu l hc2 hd2 hSs
 have hR2:R.Perm (l.flatMap fun p=>winS p.shs):=hR.trans (hp.symm.flatMap_right _)
 rw [qom hR2 he hRs,quF l a hc2]
def grpS (T:List (List Sht)) (x:Sht):List (List Sht):=if decide (x.id=x.top)=true then T++[[x]] else T.dropLast++[T.getLastD []++[x]]
def grpK (l:List Sht):Nat→List (List Sht)
 |0=>[]
 |k+1=>grpS (grpK l k) (l.getD k sh0)
def grpF (l:List Sht):List (List Sht):=grpK l l.length
def qqW (l:List Sht):Prop:=0 < l.length→(l.getD 0 sh0).id=(l.getD 0 sh0).top
theorem qml {α:Type} {T:List (List α)} (h:T≠[]):T=T.dropLast++[T.getLastD []]:=by
 rw [List.getLastD_eq_getLast?,List.getLast?_eq_some_getLast h,Option.getD_some]
 exact (List.dropLast_concat_getLast h).symm
theorem qqr {l:List Sht} (hg:qqW l):∀ k,k < l.length→grpK l (k+1)≠[]
 |0,h=>by
  rw [grpK,grpS,if_pos (by rw [decide_eq_true_eq];exact hg h)]
  simp
 |k+1,h=>by
  rw [grpK,grpS]
  split<;>simp
theorem qux (T:List (List Sht)) (x:Sht) (h:¬ decide (x.id=x.top)=true→T≠[]):(grpS T x).flatten=T.flatten++[x]:=by
 unfold grpS
 split
 ·simp
 ·rename_i hc
  have:=congrArg List.flatten (qml (h hc))
  rw [this]
  simp
theorem qfA {l:List Sht} (hg:qqW l):∀ k,k≤l.length→(grpK l k).flatten=l.take k
 |0,h=>by simp [grpK]
 |k+1,h=>by
  have ih:=qfA hg k (by omega)
  have hk:k < l.length:=by omega
  rw [grpK,qux,ih,List.take_succ_eq_append_getElem hk]
  ·simp [zu,zg hk]
  ·intro hc
   cases k with
   |zero=>exact absurd (by rw [decide_eq_true_eq];exact hg (by omega)) hc
   |succ j=>exact qqr hg j (by omega)
theorem qwH {T:List (List Sht)} (x:Sht) (h:∀ g∈T,g≠[]):∀ g∈grpS T x,g≠[]:=by
 intro g hm
 unfold grpS at hm
 split at hm
 ·rcases zz.1 hm with hm|hm
  ·exact h g hm
  ·rw [zy] at hm;rw [hm];simp
 ·rcases zz.1 hm with hm|hm
  ·exact h g (List.dropLast_subset _ hm)
  ·rw [zy] at hm;rw [hm];simp
theorem qnA (l:List Sht):∀ k,∀ g∈grpK l k,g≠[]
 |0=>by simp [grpK]
 |k+1=>qwH _ (qnA l k)
theorem qhE (l:List Sht):∀ k,(grpK l k).length≤k
 |0=>by simp [grpK]
 |k+1=>by
  have:=qhE l k
  rw [grpK,grpS]
  split<;>simp<;>omega
theorem qhC {α:Type}:∀ (T:List (List α)),∀ g∈T,g.length≤T.flatten.length
 |[],g,h=>by cases h
 |t :: T,g,h=>by
  rcases zC.1 h with rfl|h
  ·simp
  ·have:=qhC T g h
   simp at this ⊢
   omega
def nOf (g:List Sht):Int:=(g.getD (g.length - 1) sh0).to_ - (g.getD 0 sh0).fr_+1
def volS (most:Int) (st:List (List (List UInt8))×Int) (g:List Sht):List (List (List UInt8))×Int:=
 if (decide (st.1.length=0) || decide (most < st.2+nOf g))=true then (st.1++[g.map (·.id)],nOf g) else (st.1.dropLast++[st.1.getLastD []++g.map (·.id)],st.2+nOf g)
def volK (most:Int) (G:List (List Sht)):Nat→List (List (List UInt8))×Int
 |0=>([],0)
 |k+1=>volS most (volK most G k) (G.getD k [])
def volF (most:Int) (l:List Sht):List (List (List UInt8)):=(volK most (grpF l) (grpF l).length).1
theorem qkC (most:Int) (G:List (List Sht)):∀ k,(volK most G k).1.length≤k∧(0 < k→(volK most G k).1≠[])
 |0=>by simp [volK]
 |k+1=>by
  have:=(qkC most G k).1
  rw [volK,volS]
  split<;>simp<;>omega
theorem qld {p:Prd} (h:prdF p=0):PrdC p:=by
 obtain ⟨h1,_,_,h3⟩:=qh9 h
 cases hs:p.shs with
 |nil=>exact absurd hs h1
 |cons x r=>
  refine ⟨x,r,hs,quV r x fun j hj=>?_⟩
  have:=qfP h3 j (by rw [hs];exact hj)
  rw [hs] at this
  exact ⟨this.2.1,this.2.2.2⟩
theorem qqc {p:Prd} (h:prdF p=0):qqW p.shs:=by
 intro h0
 obtain ⟨_,_,_,h3⟩:=qh9 h
 rcases (qrl (qiO (h3 0 h0)).1).goes with h1|h1
 ·exact h1.symm
 ·exact absurd h1.1 (by decide)
theorem qtR {l:List Prd} (h:pdsF l=0):l.length≤200∧∀ j,j < l.length→pdsA l j=0:=by
 unfold pdsF at h
 split at h
 ·exact absurd h (by decide)
 ·exact ⟨by omega,fun j hj=>qaz h _ (zG.2 ⟨j,yA.2 hj,rfl⟩)⟩
theorem qtS {l:List Prd} (h:pdsF l=0):∀ p∈l,prdF p=0:=by
 intro p hp
 obtain ⟨j,hj⟩:=zQ hp
 have:=qgV ((qtR h).2 j (zk.1 hj).1)
 rwa [show l.getD j pd0=p from by simp [zu,hj]] at this
theorem qwf {l:List Prd} (h:pdsF l=0):l.Pairwise fun p q=>p.pre=q.pre→DisjP p q:=by
 rw [List.pairwise_iff_getElem]
 intro i j hi hj hij he
 have hz:=(qtR h).2
 have h0:=hz j hj
 have hp0:=qgV h0
 have hgj:l.getD j pd0=l[j]:=by simp [zu,zg hj]
 unfold pdsA at h0
 rw [hgj] at h0 hp0
 split at h0
 rotate_left
 ·rename_i hc
  exact absurd h0 hc
 ·intro x hx y hy hc
  have h1:=qaz h0 _ (zG.2 ⟨y,hy,rfl⟩)
  have h2:=qaz h1 (qak (takA (l.take j) l[j] y) 13) (by simp)
  rw [qfp (by decide)] at h2
  rw [qtd (fun k hk=>hz k (by omega)) (qtG hp0 hy)] at h2
  have hm:l[i]∈l.take j:=List.mem_take_iff_getElem.2 ⟨i,by omega,rfl⟩
  have h3:=List.any_eq_false.1 h2 _ hm
  rw [zj,decide_eq_true_eq] at h3
  refine h3 ⟨he,yw.2 ⟨x,hx,?_⟩⟩
  rw [zj,decide_eq_true_eq,decide_eq_true_eq]
  exact ⟨hc.2,hc.1⟩
theorem qnC {l:List Prd} (h:pdsF l=0) (pre:List UInt8) {S R:List (Int×Int)} (hS:S.Perm ((l.filter fun p=>decide (p.pre=pre)).map numW)) (hSs:S.Pairwise fun a b=>a.1≤b.1)
  (hR:R.Perm ((l.filter fun p=>decide (p.pre=pre)).flatMap fun p=>winS p.shs)) (hRs:R.Pairwise fun a b=>a.1≤b.1):gapF 1 S=gapF 1 R:=by
 refine quA (m:=l.filter fun p=>decide (p.pre=pre)) (fun p hp=>qld (qtS h p (ye.1 hp).1)) ?_ hS hSs hR hRs 1
 refine ((qwf h).filter _).imp_of_mem ?_
 intro p q hp hq hd
 have h1:=(ye.1 hp).2
 have h2:=(ye.1 hq).2
 rw [decide_eq_true_eq] at h1 h2
 exact hd (h1.trans h2.symm)
section
variable {E:Envt}
end
def qbJ:IC:=(sR [qT 37 .lss 36 35] (.seq (.cond (.t 37) .skip (.exit 2)) (.seq (.block 3 (.drg [qF 38 6 7,qO 39 (.ldl 1 false (.t 38)),qM 40 0,qM 41 0,qO 42 (.bsl 1 [.c (.int .i64 79),.c (.int .i64 80),.c (.int .i64 81)]),qO 43 (.dcall true 19 [.t 41,.t 42]),qO 44 (.pcall 0 46 [.c (.str [119]),.t 43]),qO 45 (.pcall 1 46 [.c (.str [97,98,32]),.c (.int .i64 30)]),qO 46 (.bsl 1 [.c (.str [111,110,101]),.c (.str [115,101,99,114,101,116,32,119,111,114,100,115]),.c (.str []),.c (.str [195,169,116,195,169,32,120]),.t 44,.t 45]),qO 47 (.dcall true 45 [.t 40,.t 46]),qB 48 .add 47 (.c (.str [10])),qT 49 .add 39 48,qF 50 6 7,qS 1 50 49])) (.reg [qB 51 .add 36 (cI 1),qM 36 51]))))
def qbK:IC:=(sR [qT 14 .lss 13 12] (.seq (jE 14) (.seq (.block 1 (sR [qM 15 13,qM 6 15] (sR [qM 16 6,qO 17 (.bin .add (cI 97) (.t 16)),qO 18 (.cvi .i32 (.t 17)),qO 19 (.cvs (.t 18)),qO 20 (.bin .add (.c (.str [105])) (.t 19)),qM 21 0,qO 22 (.bsl 1 [.c (.str [97,110,110]),.c (.str [98,111])]),jC 23 45 [.t 21,.t 22],qM 24 0,qO 25 (.bsl 1 [.c (.int .i64 1),.c (.int .i64 3),.c (.int .i64 2),.c (.int .i64 4)]),jC 26 19 [.t 24,.t 25],qM 27 0,qO 28 (.bsl 1 [.c (.int .i64 0),.c (.int .i64 5),.c (.int .i64 5),.c (.int .i64 40),.c (.int .i64 1440)]),jC 29 19 [.t 27,.t 28],qM 30 0,qO 31 (.bsl 1 [.c (.str []),.c (.str [120])]),jC 32 45 [.t 30,.t 31],⟨none,.fz (.t 23),none⟩,⟨none,.fz (.t 26),none⟩,⟨none,.fz (.t 29),none⟩,⟨none,.fz (.t 32),none⟩,qO 33 (.bld [.str [],.str [],.int .i64 0,.str [],.int .i64 0,.str [],.str []] [(0,1,.t 20),(1,1,.t 23),(2,1,.t 26),(4,1,.t 29),(3,1,.t 32)]),qO 7 (.alc 79 [.str [],.str [],.int .i64 0,.str [],.int .i64 0,.str [],.str []]),qS 7 7 33] (.seq (sR [qM 34 0,jC 35 29 [.t 34,.c (.int .i64 6)],jI 36 0] (.block 2 (.loop qbJ))) (.seq (sR [qM 52 0,jC 53 43 [.t 52,.c (.int .i64 8)]] (jW 53 (.reg [qM 54 0,qO 55 (.bsl 1 [.c (.int .i64 49),.c (.int .i64 50),.c (.int .i64 51),.c (.int .i64 101)]),jC 56 19 [.t 54,.t 55],jC 57 46 [.c (.str [108,105,110,101,10]),.t 56],qF 58 6 7,qS 1 58 57]))) (.cut (.seq (sR [qM 59 6,qB 60 .gtr 59 (cI 0),qM 61 60,⟨some 62,.mov (.t 0),(some (61,true))⟩,⟨some 63,.call 43 [.t 62,.c (.int .i64 3)],(some (61,true))⟩,qO 64 (.pick (.t 61) (.t 63) (.c (.bool false)))] (jW 64 (sR [qM 65 5,qM 66 0,qM 67 5,qN 68 67,jC 69 29 [.t 66,.t 68],qX 70 7 65 69,qO 71 (.ld 7 true (.t 70)),qO 8 (.alc 79 [.str [],.str [],.int .i64 0,.str [],.int .i64 0,.str [],.str []]),qS 7 8 71] (sR [qF 72 5 8,qL 73 72,qB 74 .eql 73 (.c (.str [])),qM 75 74,⟨some 76,.fla 2 (.t 8),(some (75,true))⟩,⟨some 77,.ld 1 false (.t 76),(some (75,true))⟩,⟨some 78,.bin .eql (.t 77) (cI 1),(some (75,true))⟩,⟨some 79,.mov (.t 78),(some (75,true))⟩,⟨some 80,.fla 2 (.t 8),(some (79,false))⟩,⟨some 81,.ld 1 false (.t 80),(some (79,false))⟩,⟨some 82,.bin .eql (.t 81) (cI 3),(some (79,false))⟩,⟨some 83,.pick (.t 79) (.c (.bool true)) (.t 82),(some (75,true))⟩,qO 84 (.pick (.t 75) (.t 83) (.c (.bool false)))] (jW 84 (.reg [qF 85 0 8,qL 86 85,qF 87 5 7,qS 1 87 86])))))) (.cut (.reg [qM 88 5,qO 89 (.ld 7 true (.t 7)),qO 90 (.bsl 7 [.t 89]),qO 91 (.app 79 7 96 (.t 88) (.t 90)),qM 5 91]))))))))) (.reg [qB 92 .add 13 (cI 1),qM 13 92]))))
abbrev qeP:IC:=(sR [qO 4 (.mov (.c (.nl 7)))] (sR [qO 5 (.nilr 79 7)] (.seq (sR [qM 9 0,qM 10 1,qB 11 .add 10 (cI 1),jC 12 29 [.t 9,.t 11],jI 13 0] (.block 0 (.loop qbK))) (sR [qM 93 5,qM 4 93] .ret))))
theorem qeT:chkF Tryz.prog Tryz.f7 qeP [.t 4] 94=true:=by kernel_rfl
def nxV (l:List Int) (k:Nat):Int:=if l=[] then ((k:Int)+1) * 7919 else qc2 (l.getD (k % l.length) 0) 1073741824+((k / l.length:Nat):Int) * (7919+((k % l.length:Nat):Int))
section
variable {E:Envt}
theorem qxr (l:List Int) (k:Nat) (n:Int) (hk:k≤1000000) (hl:l.length≤9223372036854775807) (h2:n≤9223372036854775807) :
  qeV Tryz.prog E 29 T (stm l k) [int n] (fun x cs'=>x=int (qc2 (nxV l k) n)∧cs'=stm l (k+1)):=by
 unfold qeV
 refine qep mixed Tryz.func29 qcY ?_
 simp only [a0,l0,OS.ao,XX,Nat.reduceSub,stm,qbD,ZZ,WW,Zd,reduceCtorEq,zd,ze,zb,zf,za]
 refine ⟨qal (by omega) (by omega),?_⟩
 simp only [ints,ZZ,WW,Zd,reduceCtorEq,zd,ze,zb,zf,za]
 generalize hes:l.map (fun x=>[PV.int IntKind.i64 x])=es
 have hln:es.length=l.length:=by rw [← hes];simp
 have hc:[PV.sl 1 es,int ((k:Int)+1)]=[PV.sl 1 es,int ((k+1:Nat):Int)]:=by simp
 refine br ?_ ?_
 ·intro h
  have h0:((es.length:Int)=0):=of_decide_eq_true h
  have hnil:l=[]:=by
   apply zr
   omega
  refine zS ?_
  refine ⟨qal (by omega) (by omega),?_⟩
  refine use1 (qhH _ _ h2) rfl (.inl rfl) ?_
  refine zS ?_
  exact qdH [PV.sl 1 es,int ((k:Int)+1)] rfl ⟨by rw [nxV,if_pos hnil],hc⟩
 ·intro h
  have hne:¬ ((es.length:Int)=0):=of_decide_eq_false h
  have hnn:l≠[]:=by
   intro e
   rw [e] at hln
   simp only [List.length_nil] at hln
   omega
  refine zS ?_
  refine drg0 ?_
  refine zS ?_
  refine ⟨qal (by omega) (by omega),⟨by omega,?_⟩⟩
  refine drg0 ?_
  have hkk:(k:Int)+1 - 1=k:=by omega
  have hrem:(k:Int).tmod (es.length:Int)=((k % es.length:Nat):Int):=by rw [Int.tmod_eq_emod_of_nonneg (by omega)];rfl
  have hquo:(k:Int).tdiv (es.length:Int)=((k / es.length:Nat):Int):=by rw [Int.tdiv_eq_ediv_of_nonneg (by omega)];rfl
  have hq1:k / es.length≤k:=Nat.div_le_self _ _
  have hr1:k % es.length≤k:=Nat.mod_le _ _
  have hr2:k % es.length < es.length:=Nat.mod_lt _ (by omega)
  obtain ⟨x,hx⟩:∃ x,l[k % es.length]?=some x:=⟨_,zg (by omega)⟩
  have hg:es.getD (k % es.length) []=[PV.int .i64 x]:=by rw [← hes];exact qao (by rw [hes];exact hx)
  have hnx:nxV l k=qc2 x 1073741824+((k / es.length:Nat):Int) * (7919+((k % es.length:Nat):Int)):=by
   rw [nxV,if_neg hnn,← hln,List.getD_eq_getElem?_getD,hx]
   rfl
  rw [hnx]
  simp only [ZZ,WW,Zd,reduceCtorEq,zd,ze,zb,zf,za,hkk,hrem,hquo,hg]
  generalize k / es.length=q at *
  generalize k % es.length=r at *
  refine ⟨qal (by omega) (by omega),⟨hne,qal (by omega) (by omega)⟩,⟨by omega,by omega⟩,by omega,?_⟩
  refine use1 (qhH _ _ (by decide)) rfl (.inl rfl) ?_
  have hb1:=qdd x 1073741824
  have hb2:=qde x 1073741824 (by omega)
  have hm:(q:Int) * (7919+(r:Int))≤1000000 * 1007919:=Int.mul_le_mul (by omega) (by omega) (by omega) (by omega)
  have hm0:0≤(q:Int) * (7919+(r:Int)):=Int.mul_nonneg (by omega) (by omega)
  refine zS ?_
  refine ⟨qal (by omega) (by omega),qal (by omega) (by omega),qal (by omega) (by omega),?_⟩
  refine use1 (qhH _ _ h2) rfl (.inl rfl) ?_
  refine zS ?_
  exact qdH [PV.sl 1 es,int ((k:Int)+1)] rfl ⟨rfl,hc⟩
theorem qxq (l:List Int) (k:Nat) (c:List Int) (hk:k≤1000000) (hl:l.length≤9223372036854775807) (h0:0 < c.length) (h1:c.length≤1000000) :
  ∃ y,y∈c∧qeV Tryz.prog E 19 T (stm l k) [ints c] (fun x cs'=>x=int y∧cs'=stm l (k+1)):=by
 obtain ⟨i,hi,hy⟩:=qhq (nxV l k) c.length h0
 obtain ⟨z,hz⟩:∃ z,c[i]?=some z:=⟨_,zg hi⟩
 refine ⟨z,zm hz,?_⟩
 unfold qeV
 refine qep mixed Tryz.func19 qcX ?_
 refine zV ?_
 simp only [ints,ZZ,WW,Zd,reduceCtorEq,zd,ze,zb,zf,za]
 generalize hes:c.map (fun x=>[PV.int IntKind.i64 x])=es
 have hln:es.length=c.length:=by rw [← hes];simp
 refine useS (qxr l k _ hk hl (by omega)) rfl rfl rfl zE_ ?_
 rintro x cs' ⟨rfl,rfl⟩
 rw [hln,hy]
 have hg:es.getD i []=[PV.int .i64 z]:=by rw [← hes];exact qao hz
 simp only [ZZ,WW,Zd,reduceCtorEq,zd,ze,zb,zf,za,hg]
 exact ⟨⟨by omega,by omega⟩,by omega,qdH (stm l (k+1)) rfl ⟨rfl,rfl⟩⟩
theorem qzv (c:Int):(Utf8.encode c).data.toList.length≤4:=by
 rw [Array.length_toList]
 exact encode_size_le c
abbrev Itm:Type:=List UInt8×List UInt8×Int×List UInt8×Int×List UInt8×List UInt8
def itC (x:Itm):List PV:=[.str x.1,.str x.2.1,int x.2.2.1,.str x.2.2.2.1,int x.2.2.2.2.1,.str x.2.2.2.2.2.1,.str x.2.2.2.2.2.2]
def itE (l:List Itm):List (List PV):=l.map itC
theorem qan (l:List Itm):(itE l).length=l.length:=by simp [itE]
theorem qc6 {l:List Itm} {k:Nat} {x:Itm} (h:l[k]?=some x):(itE l).getD k []=itC x:=qao h
theorem qup (l:List Itm) (a b:List UInt8) (c:Int) (d:List UInt8) (e:Int) (f g:List UInt8):itE l++[[.str a,.str b,int c,.str d,int e,.str f,.str g]]=itE (l++[(a,b,c,d,e,f,g)]):=by simp [itE,itC]
def itB1 (x:Itm):Prop:=x.1.length≤100∧x.2.1.length≤3∧(1≤x.2.2.1∧x.2.2.1≤4)∧x.2.2.2.1.length≤1∧(0≤x.2.2.2.2.1∧x.2.2.2.2.1≤1440)∧x.2.2.2.2.2.1.length≤100∧x.2.2.2.2.2.2.length≤600
def ItB (l:List Itm):Prop:=∀ x∈l,itB1 x
theorem ItB.nil:ItB []:=fun x hx=>by cases hx
theorem ItB.app {l:List Itm} (h:ItB l) {x:Itm} (hx:itB1 x):ItB (l++[x]):=by
 intro y hy
 rcases zz.1 hy with hy|hy
 ·exact h y hy
 ·rw [zy] at hy;subst hy;exact hx
abbrev qfN:Nat:=79
end
abbrev qln:IC:=(sR [qO 6 (.mov (.c (.bool false)))] (sR [qM 7 1,qM 8 0,qT 9 .leq 7 8,qM 10 9,⟨some 11,.mov (.t 0),(some (10,true))⟩,⟨some 12,.mov (.t 2),(some (10,true))⟩,⟨some 13,.bin .leq (.t 11) (.t 12),(some (10,true))⟩,qO 14 (.pick (.t 10) (.t 13) (.c (.bool false))),qM 6 14] .ret))
theorem qlx:chkF Tryz.prog Tryz.f265 qln [.t 6] 15=true:=by kernel_rfl
abbrev qjL:IC:=(sR [qO 4 (.mov (.c (.bool false)))] (sR [qM 5 0,qM 6 1,jC 7 167 [.t 5,.t 6],qB 8 .eql 7 (.c (.str [])),qM 4 8] .ret))
theorem qjU:chkF Tryz.prog Tryz.f289 qjL [.t 4] 9=true:=by kernel_rfl
abbrev qks:IC:=(sR [qO 2 (.mov (.c (.bool false)))] (sR [qM 3 0,qO 4 (.sln (.t 3)),jC 5 265 [.t 4,.c (.int .i64 1),.c (.int .i64 40)],qM 6 5,⟨some 7,.mov (.t 0),(some (6,true))⟩,⟨some 8,.ssl (.t 7) none (some (cI 1)),(some (6,true))⟩,⟨some 9,.call 289 [.t 8,.c (.str [97,98,99,100,101,102,103,104,105,106,107,108,109,110,111,112,113,114,115,116,117,118,119,120,121,122])],(some (6,true))⟩,qO 10 (.pick (.t 6) (.t 9) (.c (.bool false))),qM 11 10,⟨some 12,.mov (.t 0),(some (11,true))⟩,⟨some 13,.call 289 [.t 12,.c (.str [97,98,99,100,101,102,103,104,105,106,107,108,109,110,111,112,113,114,115,116,117,118,119,120,121,122,48,49,50,51,52,53,54,55,56,57,45,95])],(some (11,true))⟩,qO 14 (.pick (.t 11) (.t 13) (.c (.bool false))),qM 2 14] .ret))
theorem qky:chkF Tryz.prog Tryz.f264 qks [.t 2] 15=true:=by kernel_rfl
def qdr:IC:=(sR [qT 7 .lss 6 5] (.seq (jE 7) (.seq (.block 1 (sR [qM 8 6,qM 3 8] (sR [qM 9 0,qM 10 3,qO 11 (.idx (.t 9) (.t 10)),qB 12 .lss 11 (.c (.int .u8 32)),qM 13 12,⟨some 14,.mov (.t 0),(some (13,true))⟩,⟨some 15,.mov (.t 3),(some (13,true))⟩,⟨some 16,.idx (.t 14) (.t 15),(some (13,true))⟩,⟨some 17,.bin .neq (.t 16) (.c (.int .u8 10)),(some (13,true))⟩,qO 18 (.pick (.t 13) (.t 17) (.c (.bool false))),qM 19 18,⟨some 20,.mov (.t 0),(some (19,false))⟩,⟨some 21,.mov (.t 3),(some (19,false))⟩,⟨some 22,.idx (.t 20) (.t 21),(some (19,false))⟩,⟨some 23,.bin .eql (.t 22) (.c (.int .u8 127)),(some (19,false))⟩,qO 24 (.pick (.t 19) (.c (.bool true)) (.t 23))] (jW 24 (sR [qO 2 (.mov (.c (.bool false)))] .ret))))) (.reg [qB 25 .add 6 (cI 1),qM 6 25]))))
abbrev qil:IC:=(sR [qO 2 (.mov (.c (.bool false)))] (.seq (sR [qM 4 0,qO 5 (.sln (.t 4)),jI 6 0] (.block 0 (.loop qdr))) (sR [qM 26 0,jC 27 170 [.t 26],qM 28 27,⟨some 29,.mov (.t 0),(some (28,true))⟩,⟨some 30,.bin .eql (.t 29) (.c (.str [])),(some (28,true))⟩,⟨some 31,.mov (.t 30),(some (28,true))⟩,⟨some 32,.mov (.t 0),(some (31,false))⟩,⟨some 33,.mov (.t 0),(some (31,false))⟩,⟨some 34,.sln (.t 33),(some (31,false))⟩,⟨some 35,.bin .sub (.t 34) (cI 1),(some (31,false))⟩,⟨some 36,.idx (.t 32) (.t 35),(some (31,false))⟩,⟨some 37,.bin .eql (.t 36) (.c (.int .u8 10)),(some (31,false))⟩,⟨some 38,.pick (.t 31) (.c (.bool true)) (.t 37),(some (28,true))⟩,qO 39 (.pick (.t 28) (.t 38) (.c (.bool false))),qM 2 39] .ret)))
theorem qix:chkF Tryz.prog Tryz.f267 qil [.t 2] 40=true:=by kernel_rfl
def qdV:IC:=(sR [qT 7 .lss 6 5] (.seq (jE 7) (.seq (.block 1 (sR [qM 8 6,qM 3 8] (sR [qM 9 0,qM 10 3,qO 11 (.idx (.t 9) (.t 10)),qB 12 .lss 11 (.c (.int .u8 32)),qM 13 12,⟨some 14,.mov (.t 0),(some (13,false))⟩,⟨some 15,.mov (.t 3),(some (13,false))⟩,⟨some 16,.idx (.t 14) (.t 15),(some (13,false))⟩,⟨some 17,.bin .eql (.t 16) (.c (.int .u8 127)),(some (13,false))⟩,qO 18 (.pick (.t 13) (.c (.bool true)) (.t 17))] (jW 18 (sR [qO 2 (.mov (.c (.bool false)))] .ret))))) (.reg [qB 19 .add 6 (cI 1),qM 6 19]))))
abbrev qi2:IC:=(sR [qO 2 (.mov (.c (.bool false)))] (.seq (sR [qM 4 0,qO 5 (.sln (.t 4)),jI 6 0] (.block 0 (.loop qdV))) (sR [qM 20 0,jC 21 170 [.t 20],qM 22 21,⟨some 23,.mov (.t 0),(some (22,true))⟩,⟨some 24,.call 167 [.t 23,.c (.str [32])],(some (22,true))⟩,⟨some 25,.mov (.t 0),(some (22,true))⟩,⟨some 26,.bin .eql (.t 24) (.t 25),(some (22,true))⟩,qO 27 (.pick (.t 22) (.t 26) (.c (.bool false))),qM 28 27,⟨some 29,.mov (.t 0),(some (28,true))⟩,⟨some 30,.call 240 [.t 29,.c (.str [32,32])],(some (28,true))⟩,⟨some 31,.not (.t 30),(some (28,true))⟩,qO 32 (.pick (.t 28) (.t 31) (.c (.bool false))),qM 2 32] .ret)))
theorem qjk:chkF Tryz.prog Tryz.f266 qi2 [.t 2] 33=true:=by kernel_rfl
abbrev qgz:IC:=(sR [qO 1 (.box 79 (.t 0)),jI 2 0] (.seq (.block 0 (sR [qF 4 0 1,qL 5 4,jC 6 264 [.t 5],qO 7 (.not (.t 6)),qM 8 7,⟨some 9,.fla 1 (.t 1),(some (8,false))⟩,⟨some 10,.ld 1 false (.t 9),(some (8,false))⟩,⟨some 11,.call 264 [.t 10],(some (8,false))⟩,⟨some 12,.not (.t 11),(some (8,false))⟩,qO 13 (.pick (.t 8) (.c (.bool true)) (.t 12)),qM 3 13] (.cond (.t 3) (sR [jI 2 5] .ret) (sR [qF 15 2 1,qL 16 15,jC 17 265 [.t 16,.c (.int .i64 1),.c (.int .i64 4)],qO 18 (.not (.t 17)),qM 14 18] (.cond (.t 14) (sR [jI 2 4] .ret) (sR [qF 20 3 1,qL 21 20,qO 22 (.sln (.t 21)),qB 23 .gtr 22 (cI 120),qM 19 23] (.cond (.t 19) (sR [jI 2 2] .ret) (sR [qF 25 3 1,qL 26 25,jC 27 266 [.t 26],qO 28 (.not (.t 27)),qM 24 28] (.cond (.t 24) (sR [jI 2 3] .ret) (sR [qF 30 4 1,qL 31 30,jC 32 265 [.t 31,.c (.int .i64 0),.c (.int .i64 5761439)],qO 33 (.not (.t 32)),qM 29 33] (.cond (.t 29) (sR [jI 2 1] .ret) (sR [qF 35 5 1,qL 36 35,qB 37 .neq 36 (.c (.str [])),qM 38 37,⟨some 39,.fla 5 (.t 1),(some (38,true))⟩,⟨some 40,.ld 1 false (.t 39),(some (38,true))⟩,⟨some 41,.call 264 [.t 40],(some (38,true))⟩,⟨some 42,.not (.t 41),(some (38,true))⟩,qO 43 (.pick (.t 38) (.t 42) (.c (.bool false))),qM 34 43] (.cond (.t 34) (sR [jI 2 5] .ret) (sR [qF 45 5 1,qL 46 45,qF 47 0 1,qL 48 47,qT 49 .eql 46 48,qM 44 49] (.cond (.t 44) (sR [jI 2 14] .ret) (sR [qF 51 6 1,qL 52 51,qO 53 (.sln (.t 52)),qB 54 .gtr 53 (cI 20000),qM 50 54] (.cond (.t 50) (sR [jI 2 2] .ret) (sR [qF 56 6 1,qL 57 56,jC 58 267 [.t 57],qO 59 (.not (.t 58)),qM 55 59] (jW 55 (sR [jI 2 3] .ret)))))))))))))))))))) (sR [jI 2 0] .ret)))
theorem qgG:chkF Tryz.prog Tryz.f237 qgz [.t 2] 60=true:=by kernel_rfl
theorem qxa (c:UInt8):((decide ((c.toNat:Int) < 32) && !decide ((c.toNat:Int)=10)) || decide ((c.toNat:Int)=127))=badB true c:=qgx (p:=fun c=>((decide ((c.toNat:Int) < 32) && !decide ((c.toNat:Int)=10)) || decide ((c.toNat:Int)=127))=badB true c) (by decide +kernel) c
theorem qu7 (c:UInt8):(decide ((c.toNat:Int) < 32) || decide ((c.toNat:Int)=127))=badB false c:=qgx (p:=fun c=>(decide ((c.toNat:Int) < 32) || decide ((c.toNat:Int)=127))=badB false c) (by decide +kernel) c
section
variable {E:Envt}
theorem qut (n lo hi:Int):PCall Tryz.prog E 265 [int n,int lo,int hi] (·=.bool (inE n lo hi)):=by
 refine qag mixed Tryz.func265 qlx ?_
 refine zV ?_
 rfl
theorem qt1 (s cs:List UInt8) (hs:s.length≤1000000000) (hc:cs.length≤1000) (ha:asc cs=true):PCall Tryz.prog E 289 [.str s,.str cs] (·=.bool (qt8 s cs)):=by
 refine qag mixed Tryz.func289 qjU ?_
 refine zV ?_
 refine use1 (qfL s cs hs (by omega) ha) rfl (.inl rfl) ?_
 refine zS ?_
 rfl
theorem qqU (s:List UInt8) (hs:s.length≤1000000):PCall Tryz.prog E 264 [.str s] (·=.bool (keyB s)):=by
 refine qag mixed Tryz.func264 qky ?_
 refine zV ?_
 refine use1 (qut _ _ _) rfl (.inl rfl) ?_
 refine zS ?_
 refine ⟨fun h=>⟨h,by omega,by simp only [inE,zj,decide_eq_true_eq] at h;omega⟩,?_⟩
 refine useG (fun _=>qt1 (s.take (Int.toNat 1)) smSet (by rw [List.length_take];omega) (by decide) (by decide)) rfl (.inl rfl) ?_
 refine zS ?_
 refine useG (fun _=>qt1 s kcSet (by omega) (by decide) (by decide)) rfl (.inl rfl) ?_
 refine zS ?_
 congr 1
 rw [qg1,qg1,keyB]
 have h1:(s.all fun c=>kcSet.contains c)=s.all kcB:=by congr 1;funext c;exact quk c
 rw [h1]
 cases s with
 |nil=>rfl
 |cons a r=>
  have h2:((a :: r).take (Int.toNat 1)).all (fun c=>smSet.contains c)=smB a:=by
   show ([a]:List UInt8).all (fun c=>smSet.contains c)=smB a
   rw [List.all_cons,qto]
   simp
  rw [h2]
  rfl
end
theorem qA8 (s:List UInt8) (h:s≠[]):decide (((s.getD ((s.length:Int) - 1).toNat 0).toNat:Int)=10)=sufE s [10]:=by
 obtain ⟨t,c,rfl⟩:∃ t c,s=t++[c]:=⟨s.dropLast,s.getLast h,(List.dropLast_concat_getLast h).symm⟩
 have e:(((t++[c]).length:Int) - 1).toNat=t.length:=by simp
 have e2:(t++[c]).getD t.length 0=c:=by simp [zu]
 have e3:(t++[c]).drop ((t++[c]).length - ([10]:List UInt8).length)=[c]:=by simp
 have e4:decide ((([10]:List UInt8).length:Int)≤(t++[c]).length)=true:=by simp;omega
 rw [e,e2]
 unfold sufE
 rw [e3,e4,yc]
 exact qgx (p:=fun c=>decide ((c.toNat:Int)=10)=decide ([c]=[(10:UInt8)])) (by decide +kernel) c
theorem qsS (s:List UInt8) (hs:s.length≤1000000):PCall Tryz.prog E0 267 [.str s] (·=.bool (qjy s)):=by
 refine qag mixed Tryz.func267 qix ?_
 refine zV ?_
 refine qac (fun n fr L=>∃ (k:Nat),k≤s.length∧n=s.length - k∧(((s.take k).all fun c=>!badB true c)=true)∧fr=(.p (.str s)::oo::oo::oo::oo::.p (int (s.length:Nat))::.p (int (k:Nat))::oF (oo::[]))∧L=[]) (s.length) _ [] zF_ zF_ ⟨0,by omega,by omega,by simp,rfl,rfl⟩ ?_
 rintro n fr L ⟨k,hk,rfl,hall,rfl,rfl⟩
 simp only [qdr,ZZ,WW,Zd,reduceCtorEq,zd,ze,zb,zf,za]
 refine br ?_ ?_
 ·intro h
  have hlt:k < s.length:=by have:=of_decide_eq_true h;omega
  obtain ⟨c,hc⟩:∃ x,s[k]?=some x:=⟨_,zg hlt⟩
  have hg:s.getD k 0=c:=by simp [zu,hc]
  have hnx:=qjv (p:=fun c=>!badB true c) hc
  have hbq:=qxa c
  simp only [ZZ,WW,Zd,reduceCtorEq,zd,ze,zb,zf,za,hg]
  ((with_reducible and_intros)<;>try exact sc_)
  rw [hbq]
  refine br ?_ ?_
  ·intro hb
   refine zS ?_
   have:(s.all fun c=>!badB true c)=false:=by
    rw [List.all_eq_false]
    exact ⟨c,zm hc,by simp [hb]⟩
   simp [qjy,visE,this]
  ·intro hb
   refine zS ?_
   ((with_reducible and_intros)<;>try exact sc_)
   refine qab (s.length - (k+1)) _ [] (by omega) zF_ zF_ ⟨k+1,by omega,rfl,by rw [hnx,hall,hb];rfl,rfl,rfl⟩
 intro h
 have hge:s.length≤k:=by have:=of_decide_eq_false h;omega
 rw [zq hge] at hall
 refine zS ?_
 refine use1 (qkT s (by omega)) rfl (.inl rfl) ?_
 refine zS ?_
 have hne:(Lib.validD s && (Lib.validD s && !decide (s=[])))=true→s≠[]∧1≤s.length:=fun h=>by
  simp only [zj,zW,decide_eq_false_iff_not] at h
  have h2:=h.2.2
  exact ⟨h2,by rcases s with _|⟨c,r⟩;exact absurd rfl h2;simp⟩
 refine ⟨fun h=>⟨h,qal (by omega) (by omega)⟩,fun h=>⟨h,h,by have:=(hne h).2;omega,by omega⟩,fun h=>⟨h,fun h2=>by rw [h,h2];rfl⟩,?_⟩
 have hv:visE s true=Lib.validD s:=by rw [visE,hall,yc]
 rw [qjy,hv]
 congr 2
 by_cases h0:s=[]
 ·subst h0;rfl
 ·rw [qA8 s h0]
theorem qvm (s:List UInt8) (hs:s.length≤1000000):PCall Tryz.prog E0 266 [.str s] (·=.bool (qh0 s)):=by
 refine qag mixed Tryz.func266 qjk ?_
 refine zV ?_
 refine qac (fun n fr L=>∃ (k:Nat),k≤s.length∧n=s.length - k∧(((s.take k).all fun c=>!badB false c)=true)∧fr=(.p (.str s)::oo::oo::oo::oo::.p (int (s.length:Nat))::.p (int (k:Nat))::oE (oD (oB [])))∧L=[]) (s.length) _ [] zF_ zF_ ⟨0,by omega,by omega,by simp,rfl,rfl⟩ ?_
 rintro n fr L ⟨k,hk,rfl,hall,rfl,rfl⟩
 simp only [qdV,ZZ,WW,Zd,reduceCtorEq,zd,ze,zb,zf,za]
 refine br ?_ ?_
 ·intro h
  have hlt:k < s.length:=by have:=of_decide_eq_true h;omega
  obtain ⟨c,hc⟩:∃ x,s[k]?=some x:=⟨_,zg hlt⟩
  have hg:s.getD k 0=c:=by simp [zu,hc]
  have hnx:=qjv (p:=fun c=>!badB false c) hc
  have hbq:=qu7 c
  simp only [ZZ,WW,Zd,reduceCtorEq,zd,ze,zb,zf,za,hg]
  ((with_reducible and_intros)<;>try exact sc_)
  rw [hbq]
  refine br ?_ ?_
  ·intro hb
   refine zS ?_
   have:(s.all fun c=>!badB false c)=false:=by
    rw [List.all_eq_false]
    exact ⟨c,zm hc,by simp [hb]⟩
   simp [qh0,visE,this]
  ·intro hb
   refine zS ?_
   ((with_reducible and_intros)<;>try exact sc_)
   refine qab (s.length - (k+1)) _ [] (by omega) zF_ zF_ ⟨k+1,by omega,rfl,by rw [hnx,hall,hb];rfl,rfl,rfl⟩
 intro h
 have hge:s.length≤k:=by have:=of_decide_eq_false h;omega
 rw [zq hge] at hall
 refine zS ?_
 refine use1 (qkT s (by omega)) rfl (.inl rfl) ?_
 refine zS ?_
 refine useG (fun _=>qfL s [32] (by omega) (by decide) (by decide)) rfl (.inl rfl) ?_
 refine zS ?_
 refine useG (fun _=>qlK s [32,32] (by omega)) rfl (.inl rfl) ?_
 refine zS ?_
 have hv:visE s false=Lib.validD s:=by rw [visE,hall,yc]
 rw [qh0,qs5,hv]
 cases Lib.validD s<;>cases Lib.hasPrefix s [32]<;>cases sufE s [32]<;>rfl
def itF (a1 a2:List UInt8) (a3:Int) (a4:List UInt8) (a5:Int) (a6 a7:List UInt8):Int:=
 if (!keyB a1 || !keyB a2)=true then 5 else if (!inE a3 1 4)=true then 4 else if decide (120 < (a4.length:Int))=true then 2 else
 if (!qh0 a4)=true then 3 else if (!inE a5 0 5761439)=true then 1 else if (!decide (a6=[]) && !keyB a6)=true then 5 else
 if decide (a6=a1)=true then 14 else if decide (20000 < (a7.length:Int))=true then 2 else if (!qjy a7)=true then 3 else 0
def ItS (x:Itm):Prop:=x.1.length≤1000000∧x.2.1.length≤1000000∧x.2.2.2.1.length≤1000000∧x.2.2.2.2.2.1.length≤1000000∧x.2.2.2.2.2.2.length≤1000000
def itFx (x:Itm):Int:=itF x.1 x.2.1 x.2.2.1 x.2.2.2.1 x.2.2.2.2.1 x.2.2.2.2.2.1 x.2.2.2.2.2.2
theorem qpO (x:Itm) (hx:ItS x):PCall Tryz.prog E0 237 [.agg (itC x)] (·=int (itFx x)):=by
 obtain ⟨c1,c2,c4,c6,c7⟩:=hx
 obtain ⟨a1,a2,a3,a4,a5,a6,a7⟩:=x
 unfold itFx
 simp only at *
 refine qag mixed Tryz.func237 qgG ?_
 refine zV ?_
 simp only [itC,ZZ,WW,Zd,reduceCtorEq,zd,ze,zb,zf,za]
 refine use1 (qqU a1 (by omega)) rfl (.inl rfl) ?_
 refine zS ?_
 refine useG (fun _=>qqU a2 (by omega)) rfl (.inl rfl) ?_
 refine zS ?_
 refine ⟨fun h=>by rw [h];rfl,?_⟩
 refine br ?_ ?_
 ·intro h
  refine zS ?_
  rw [itF,if_pos h]
 intro h
 rw [itF,if_neg (by rw [h];decide)]
 clear h
 refine zS ?_
 refine use1 (qut a3 1 4) rfl (.inl rfl) ?_
 refine zS ?_
 refine br ?_ ?_
 ·intro h
  refine zS ?_
  rw [if_pos h]
 intro h
 rw [if_neg (by rw [h];decide)]
 clear h
 refine zS ?_
 refine br ?_ ?_
 ·intro h
  refine zS ?_
  rw [if_pos h]
 intro h
 rw [if_neg (by rw [h];decide)]
 clear h
 refine zS ?_
 refine use1 (qvm a4 (by omega)) rfl (.inl rfl) ?_
 refine zS ?_
 refine br ?_ ?_
 ·intro h
  refine zS ?_
  rw [if_pos h]
 intro h
 rw [if_neg (by rw [h];decide)]
 clear h
 refine zS ?_
 refine use1 (qut a5 0 5761439) rfl (.inl rfl) ?_
 refine zS ?_
 refine br ?_ ?_
 ·intro h
  refine zS ?_
  rw [if_pos h]
 intro h
 rw [if_neg (by rw [h];decide)]
 clear h
 refine zS ?_
 refine useG (fun _=>qqU a6 (by omega)) rfl (.inl rfl) ?_
 refine zS ?_
 refine br ?_ ?_
 ·intro h
  refine zS ?_
  rw [if_pos h]
 intro h
 rw [if_neg (by rw [h];decide)]
 clear h
 refine zS ?_
 refine br ?_ ?_
 ·intro h
  refine zS ?_
  rw [if_pos h]
 intro h
 rw [if_neg (by rw [h];decide)]
 clear h
 refine zS ?_
 refine br ?_ ?_
 ·intro h
  refine zS ?_
  rw [if_pos h]
 intro h
 rw [if_neg (by rw [h];decide)]
 clear h
 refine zS ?_
 refine use1 (qsS a7 (by omega)) rfl (.inl rfl) ?_
 refine zS ?_
 refine br ?_ ?_
 ·intro h
  refine zS ?_
  rw [if_pos h]
 intro h
 rw [if_neg (by rw [h];decide)]
 simp only [ZZ,WW,Zd,reduceCtorEq,zd,ze,zb,zf,za]
def okTx:List UInt8→Bool
 |[]=>true
 |[c]=>decide (c.toNat < 128) && !badB true c
 |c :: d :: r=>if c=195∧d=169 then okTx r else (decide (c.toNat < 128) && !badB true c) && okTx (d :: r)
theorem qxM (r:List UInt8):okTx (195 :: 169 :: r)=okTx r:=by rw [okTx];simp
theorem qoK (c:UInt8) (r:List UInt8) (h:c.toNat < 128):okTx (c :: r)=(!badB true c && okTx r):=by
 have h1:decide (c.toNat < 128)=true:=by simpa using h
 cases r with
 |nil=>rw [okTx,okTx,h1,yc,Bool.and_true]
 |cons d r=>
  rw [okTx,if_neg (by rintro ⟨rfl,_⟩;exact absurd h (by decide)),h1,yc]
theorem qjF {s:List UInt8} (h:okTx s=true):s=[]∨(∃ r,s=195 :: 169 :: r∧okTx r=true)∨∃ c r,s=c :: r∧c.toNat < 128∧badB true c=false∧okTx r=true:=by
 match s,h with
 |[],_=>exact .inl rfl
 |[c],h=>
  rw [okTx,zj,decide_eq_true_eq] at h
  exact .inr (.inr ⟨c,[],rfl,h.1,by simpa using h.2,rfl⟩)
 |c :: d :: r,h=>
  rw [okTx] at h
  split at h
  ·rename_i e
   obtain ⟨rfl,rfl⟩:=e
   exact .inr (.inl ⟨r,rfl,h⟩)
  ·rw [zj,zj,decide_eq_true_eq] at h
   exact .inr (.inr ⟨c,d :: r,rfl,h.1.1,by simpa using h.1.2,h.2⟩)
theorem qwo:∀ (n:Nat) (a b:List UInt8),a.length≤n→okTx a=true→okTx (a++b)=okTx b:=by
 intro n
 induction n with
 |zero=>
  intro a b hn _
  have:a=[]:=zr (by omega)
  subst this
  rfl
 |succ n ih=>
  intro a b hn h
  rcases qjF h with rfl|⟨r,rfl,hr⟩|⟨c,r,rfl,hc,hb,hr⟩
  ·rfl
  ·show okTx (195 :: 169 :: (r++b))=okTx b
   rw [qxM]
   exact ih r b (by simp only [zK] at hn;omega) hr
  ·show okTx (c :: (r++b))=okTx b
   rw [qoK c _ hc,hb,ih r b (by simp only [zK] at hn;omega) hr]
   rfl
theorem qnf {a b:List UInt8} (ha:okTx a=true) (hb:okTx b=true):okTx (a++b)=true:=by rw [qwo _ a b (zD _) ha,hb]
theorem qkI {s:List UInt8} (h:okTx s=true):∀ n,okTx (Lib.repeatL s n)=true
 |0=>rfl
 |n+1=>qnf h (qkI h n)
theorem qCW (r:List UInt8):Lib.decodeL (195 :: 169 :: r)=(233,2):=by
 rw [Lib.decodeL_N]
 simp only [zK,List.getD_cons_zero,List.getD_cons_succ]
 unfold Lib.decodeN
 rw [if_neg (by decide),if_pos ⟨by decide,by omega,by decide⟩,if_pos (by decide)]
 rfl
theorem qne:∀ (n:Nat) (s:List UInt8),s.length≤n→okTx s=true→visE s true=true:=by
 intro n
 induction n with
 |zero=>
  intro s hn _
  have:s=[]:=zr (by omega)
  subst this
  rfl
 |succ n ih=>
  intro s hn h
  rcases qjF h with rfl|⟨r,rfl,hr⟩|⟨c,r,rfl,hc,hb,hr⟩
  ·rfl
  ·have:=ih r (by simp only [zK] at hn;omega) hr
   unfold visE at *
   rw [zj] at *
   refine ⟨?_,?_⟩
   ·rw [List.all_cons,List.all_cons,this.1]
    decide +kernel
   ·rw [Lib.validD_step _ (by simp),qCW]
    simpa using this.2
  ·have:=ih r (by simp only [zK] at hn;omega) hr
   unfold visE at *
   rw [zj] at *
   refine ⟨?_,?_⟩
   ·rw [List.all_cons,this.1,hb]
    rfl
   ·rw [Lib.validD_cons c r hc]
    exact this.2
def pid (i:Nat):List UInt8:=[105,UInt8.ofNat (97+i)]
theorem qy4:∀ i:Fin 26,105 :: (Utf8.encode (IntKind.i32.wrap (97+((i.val:Nat):Int)))).data.toList=pid i.val:=by decide +kernel
theorem qtL:∀ i:Fin 26,keyB (pid i.val)=true:=by decide +kernel
theorem qtM {i j:Nat} (hi:i < 26) (hj:j < 26) (h:pid i=pid j):i=j:=by
 have:∀ (i j:Fin 26),pid i.val=pid j.val→i=j:=by decide +kernel
 exact congrArg Fin.val (this ⟨i,hi⟩ ⟨j,hj⟩ h)
structure Pap (il:List Itm) (i:Nat) (x:Itm):Prop where
 b1:x.1=pid i
 b2:x.2.1=[97,110,110]∨x.2.1=[98,111]
 b3:1≤x.2.2.1∧x.2.2.1≤4
 b4:x.2.2.2.1=[]∨x.2.2.2.1=[120]
 b5:0≤x.2.2.2.2.1∧x.2.2.2.2.1≤1440
 b6:x.2.2.2.2.2.1=[]∨∃ j y,j < i∧il[j]?=some y∧y.2.2.2.2.2.1=[]∧(y.2.2.1=1∨y.2.2.1=3)∧x.2.2.2.2.2.1=pid j
 b7:x.2.2.2.2.2.2.length≤600∧okTx x.2.2.2.2.2.2=true∧(x.2.2.2.2.2.2=[]∨sufE x.2.2.2.2.2.2 [10]=true)
def qbl (il:List Itm):Prop:=il.length≤20∧∀ i x,il[i]?=some x→Pap il i x
theorem Pap.right {il:List Itm} {i:Nat} {x:Itm} (h:Pap il i x) (hi:i < 20):itFx x=0∧ItS x:=by
 obtain ⟨a1,a2,a3,a4,a5,a6,a7⟩:=x
 obtain ⟨b1,b2,b3,b4,b5,b6,b7⟩:=h
 simp only at b1 b2 b3 b4 b5 b6 b7
 have k1:keyB a1=true:=by rw [b1];exact qtL ⟨i,by omega⟩
 have k2:keyB a2=true:=by rcases b2 with rfl|rfl<;>decide +kernel
 have k3:inE a3 1 4=true:=by simp [inE];omega
 have k4:qh0 a4=true∧a4.length≤1:=by rcases b4 with rfl|rfl<;>exact ⟨by decide +kernel,by decide⟩
 have k5:inE a5 0 5761439=true:=by simp [inE];omega
 have k6:(!decide (a6=[]) && !keyB a6)=false∧¬ a6=a1∧a6.length≤2:=by
  rcases b6 with rfl|⟨j,y,hj,_,_,_,rfl⟩
  ·exact ⟨rfl,by rw [b1];simp [pid],by simp⟩
  ·refine ⟨by rw [qtL ⟨j,by omega⟩];simp,?_,by simp [pid]⟩
   rw [b1]
   intro e
   have:=qtM (by omega) (by omega) e
   omega
 have k7:qjy a7=true:=by
  rw [qjy,qne _ _ (zD _) b7.2.1]
  rcases b7.2.2 with h|h
  ·rw [h];rfl
  ·rw [h];simp
 refine ⟨?_,?_⟩
 ·simp only [itFx]
  rw [itF,k1,k2,k3,k4.1,k5,k6.1,k7,if_neg (by decide),if_neg (by decide),if_neg (by simp;omega),if_neg (by decide),if_neg (by decide),if_neg (by decide),if_neg (by simpa using k6.2.1),if_neg (by simp;omega),if_neg (by decide)]
 ·refine ⟨?_,?_,?_,?_,?_⟩
  ·simp only;rw [b1];simp [pid]
  ·simp only;rcases b2 with rfl|rfl<;>simp
  ·simp only;omega
  ·simp only;omega
  ·simp only;omega
end Go.Proofs.YtmpdnpljdcincaaGreatDoor
