import Derived.Test.YtehfjlpenlffmaaGreatDoorZ21
import Derived.Test.YtehfjlpenlffmaaGreatDoorZ18
import Derived.Test.YtehfjlpenlffmaaGreatDoorZ20
import Derived.Test.YtehfjlpenlffmaaGreatDoorZ8
set_option linter.unusedVariables false
set_option linter.unusedSimpArgs false
set_option linter.defProp false
namespace Go.Proofs.YtehfjlpenlffmaaGreatDoor
open Nat renaming reduceSub→zp,reduceAdd→zd,reduceMul→ze,reduceLeDiff→zb,reduceLT→zf,reduceEqDiff→za
open List renaming map_cons→zj,map_nil→zo,length_cons→zi,length_nil→zn,cons_append→zl,nil_append→zm,replicate_succ→zh,replicate_zero→zk
open Go.RowKit
def qet:IC:=(.seq (.seq (.reg [qM 39 5,qM 40 6,qO 41 (.idx (.t 39) (.t 40)),qO 42 (.call 263 [.t 41]),qO 43 (.not (.t 42))]) (.cond (.t 43) .skip (.exit 4))) (.block 5 (.reg [qM 44 6,qO 45 (.bin .sub (.t 44) (.c (.int .i64 1))),qM 6 45])))
def qeu:IC:=(.seq (.seq (.reg [qM 14 5,qO 15 (.sln (.t 14)),qO 16 (.bin .gtr (.t 15) (.c (.int .i64 80)))]) (.cond (.t 16) .skip (.exit 2))) (.block 3 (.seq (.reg [qM 17 5,qO 18 (.ssl (.t 17) none (some (.c (.int .i64 81)))),qO 19 (.call 262 [.t 18,.c (.str [32])]),qM 6 19]) (.seq (.seq (.reg [qM 20 6,qO 21 (.bin .gtr (.t 20) (.c (.int .i64 0))),qM 22 21,⟨some 23,.mov (.t 5),(some (22,true))⟩,⟨some 24,.mov (.t 6),(some (22,true))⟩,⟨some 25,.ssl (.t 23) none (some (.t 24)),(some (22,true))⟩,⟨some 26,.call 155 [.t 25,.c (.str [32])],(some (22,true))⟩,⟨some 27,.bin .neq (.t 26) (.c (.str [])),(some (22,true))⟩,qO 28 (.pick (.t 22) (.t 27) (.c (.bool false)))]) (.cond (.t 28) (.seq (.drg [qM 29 3,qM 30 5,qM 31 6,qO 32 (.ssl (.t 30) none (some (.t 31))),qO 33 (.bsl 1 [.t 32]),qO 34 (.app 9 1 16 (.t 29) (.t 33)),qM 35 5,qM 36 6,qO 37 (.bin .add (.t 36) (.c (.int .i64 1))),qO 38 (.ssl (.t 35) (some (.t 37)) none),qM 3 34,qM 5 38]) (.exit 3)) .skip)) (.seq (.reg [qO 6 (.mov (.c (.int .i64 80)))]) (.seq (.block 4 (.loop qet)) (.drg [qM 46 3,qM 47 5,qM 48 6,qO 49 (.ssl (.t 47) none (some (.t 48))),qO 50 (.bsl 1 [.t 49]),qO 51 (.app 9 1 16 (.t 46) (.t 50)),qM 52 5,qM 53 6,qO 54 (.ssl (.t 52) (some (.t 53)) none),qM 3 51,qM 5 54])))))))
def qev:IC:=(.seq (.reg [qO 11 (.bin .lss (.t 10) (.t 9))]) (.seq (.cond (.t 11) .skip (.exit 0)) (.seq (.block 1 (.seq (.reg [qO 12 (.ixa 1 (.t 8) (.t 10)),qO 13 (.ld 1 false (.t 12)),qM 5 13]) (.seq (.block 2 (.loop qeu)) (.reg [qM 55 3,qM 56 5,qO 57 (.bsl 1 [.t 56]),qO 58 (.app 9 1 16 (.t 55) (.t 57)),qM 3 58])))) (.reg [qO 59 (.bin .add (.t 10) (.c (.int .i64 1))),qM 10 59]))))
def qf2:IC:=(.seq (.reg [qO 2 (.mov (.c (.nl 1)))]) (.seq (.reg [qO 3 (.nilr 9 1)]) (.seq (.seq (.reg [qM 7 0,qO 8 (.call 261 [.t 7]),qO 9 (.len (.t 8)),qO 10 (.mov (.c (.int .i64 0)))]) (.block 0 (.loop qev))) (.seq (.reg [qM 60 3,qM 2 60]) .ret))))
def qfO:List IRes:=[.t 2]
theorem qiP:chkF Tryz.prog Tryz.f201 qf2 qfO 61=true:=by kernel_rfl
set_option maxHeartbeats 4000000 in
theorem qsA (t:List UInt8) (hs:t.length≤100000) (ht:qjy t=true):FCall Tryz.prog E0 201 [.str t] tStr 1 (·=strE (qgD (qfr t).1)):=by
 unfold FCall
 refine qje mixed Tryz.func201 qiP ?_
 simp only [a0,l0,OS.ao,zj,zo,zi,zn,zl,zm,zp,zd,zh,zk,qf2,qfO,ZZ,WW,Ze,reduceCtorEq,zd,ze,zb,zf,za]
 refine use1 (qqt t (by omega)) rfl (.inl rfl) ?_
 rw [qpN ht]
 obtain ⟨h1,h2,h3⟩:=qiH ht
 generalize (qfr t).1=ls at *
 rw [qou]
 simp only [ZZ,WW,Ze,reduceCtorEq,zd,ze,zb,zf,za,qal]
 have hR0:([]:List (List PV))=strE []:=rfl
 rw [hR0]
 refine qad (fun n fr L=>∃ (j:Nat) (R:SRow),j≤ls.length∧n=ls.length - j∧(R=qgD (ls.take j))∧fr=[oo,oo,oo,.row (.l 3),oo,oo,oo,oo,.p (.sl 1 (strE ls)),.p (int (ls.length:Nat)),.p (int (j:Nat)),oo,oo,oo,oo,oo,oo,oo,oo,oo,oo,oo,oo,oo,oo,oo,oo,oo,oo,oo,oo,oo,oo,oo,oo,oo,oo,oo,oo,oo,oo,oo,oo,oo,oo,oo,oo,oo,oo,oo,oo,oo,oo,oo,oo,oo,oo,oo,oo,oo,oo]∧L=[(.l 3,.row (strE R) tStr 1 true)]) (ls.length) [oo,oo,oo,.row (.l 3),oo,oo,oo,oo,.p (.sl 1 (strE ls)),.p (int (ls.length:Nat)),.p (int (0:Nat)),oo,oo,oo,oo,oo,oo,oo,oo,oo,oo,oo,oo,oo,oo,oo,oo,oo,oo,oo,oo,oo,oo,oo,oo,oo,oo,oo,oo,oo,oo,oo,oo,oo,oo,oo,oo,oo,oo,oo,oo,oo,oo,oo,oo,oo,oo,oo,oo,oo,oo] [(.l 3,.row (strE []) tStr 1 true)] (by simp only [ZZ,WW,Ze,reduceCtorEq,zd,ze,zb,zf,za,qal];try trivial) (by (simp only [ZZ,WW,Ze,reduceCtorEq,zd,ze,zb,zf,za];try trivial)) ⟨0,[],by omega,by omega,rfl,rfl,rfl⟩ ?_
 rintro n fr L ⟨j,R,hj,rfl,hR,rfl,rfl⟩
 simp only [qev,ZZ,WW,Ze,reduceCtorEq,zd,ze,zb,zf,za]
 refine br ?_ ?_
 ·intro h
  have hlt:j < ls.length:=by have:=of_decide_eq_true h;omega
  obtain ⟨s0,hx⟩:∃ s,ls[j]?=some s:=⟨_,List.getElem?_eq_getElem hlt⟩
  have hg:(strE ls).getD j []=[.str s0]:=qic hx
  obtain ⟨hn,hsl0⟩:=h3 s0 (List.mem_of_getElem? hx)
  have hnx:qgD (ls.take (j+1))=R++wr s0:=by rw [qqa hx,hR];rfl
  have hl1:=qkx ls
  have hl2:=qlT (ls:=ls) (k:=j+1)
  rw [hnx,List.length_append] at hl2
  simp only [ZZ,WW,Ze,reduceCtorEq,zd,ze,zb,zf,za,hg,qal]
  ((repeat' (with_reducible apply And.intro))<;>try ((exact sc_)))
  refine qad (fun n fr L=>∃ (Q:SRow) (s:List UInt8),s.length=n∧(Q++wr s=R++wr s0)∧(s.length≤s0.length)∧(NcP s)∧fr=[oo,oo,oo,.row (.l 3),oo,.p (.str s),oo,oo,.p (.sl 1 (strE ls)),.p (int (ls.length:Nat)),.p (int (j:Nat)),oo,oo,oo,oo,oo,oo,oo,oo,oo,oo,oo,oo,oo,oo,oo,oo,oo,oo,oo,oo,oo,oo,oo,oo,oo,oo,oo,oo,oo,oo,oo,oo,oo,oo,oo,oo,oo,oo,oo,oo,oo,oo,oo,oo,oo,oo,oo,oo,oo,oo]∧L=[(.l 3,.row (strE Q) tStr 1 true)]) (s0.length) [oo,oo,oo,.row (.l 3),oo,.p (.str s0),oo,oo,.p (.sl 1 (strE ls)),.p (int (ls.length:Nat)),.p (int (j:Nat)),oo,oo,oo,oo,oo,oo,oo,oo,oo,oo,oo,oo,oo,oo,oo,oo,oo,oo,oo,oo,oo,oo,oo,oo,oo,oo,oo,oo,oo,oo,oo,oo,oo,oo,oo,oo,oo,oo,oo,oo,oo,oo,oo,oo,oo,oo,oo,oo,oo,oo] [(.l 3,.row (strE R) tStr 1 true)] (by (simp only [ZZ,WW,Ze,reduceCtorEq,zd,ze,zb,zf,za];try trivial)) (by (simp only [ZZ,WW,Ze,reduceCtorEq,zd,ze,zb,zf,za];try trivial)) ⟨R,s0,rfl,rfl,Nat.le_refl _,hn,rfl,rfl⟩ ?_
  rintro n fr L ⟨Q,s,rfl,hQ,hsl,hns,rfl,rfl⟩
  simp only [qeu,ZZ,WW,Ze,reduceCtorEq,zd,ze,zb,zf,za]
  have hQl:Q.length≤2000000:=by
   have h1:=congrArg List.length hQ
   rw [List.length_append,List.length_append] at h1
   omega
  refine br ?_ ?_
  ·intro h
   have h80:80 < s.length:=by have:=of_decide_eq_true h;omega
   have hlw:=qxX h80
   have e81:(81:Int).toNat=81:=rfl
   simp only [ZZ,WW,Ze,reduceCtorEq,zd,ze,zb,zf,za,e81]
   ((repeat' (with_reducible apply And.intro))<;>try ((exact sc_)))
   refine use1 (qoh (s.take 81) 32 (by rw [List.length_take];omega)) rfl (.inl rfl) ?_
   rw [← quO]
   simp only [ZZ,WW,Ze,reduceCtorEq,zd,ze,zb,zf,za]
   ((repeat' (with_reducible apply And.intro))<;>try ((exact sc_)))
   refine useG (fun hg=>qgU (s.take (liW s).toNat) [32] (by rw [List.length_take];omega) (by simp) rfl) rfl (.inl rfl) ?_
   simp only [ZZ,WW,Ze,reduceCtorEq,zd,ze,zb,zf,za]
   ((repeat' (with_reducible apply And.intro))<;>try ((exact sc_)))
   refine br ?_ ?_
   ·intro hb
    have hbk:brkB s=true:=hb
    have h0:0 < liW s:=of_decide_eq_true (Bool.and_eq_true_iff.1 hb).1
    rw [qw9 hns h80 hbk] at hQ
    simp only [ZZ,WW,Ze,reduceCtorEq,zd,ze,zb,zf,za]
    refine drg0 ?_
    have e1:(liW s+1).toNat=(liW s).toNat+1:=by omega
    have hdl:(s.drop ((liW s).toNat+1)).length < s.length:=by rw [List.length_drop];omega
    have hst:strE Q++[[PV.str (s.take (liW s).toNat)]]=strE (Q++[s.take (liW s).toNat]):=by simp [strE]
    simp only [ZZ,WW,Ze,reduceCtorEq,zd,ze,zb,zf,za,qal,List.take_length,e1]
    ((repeat' (with_reducible apply And.intro))<;>try ((exact sc_)))
    rw [hst]
    refine qac ((s.drop ((liW s).toNat+1)).length) [oo,oo,oo,.row (.l 3),oo,.p (.str (s.drop ((liW s).toNat+1))),oo,oo,.p (.sl 1 (strE ls)),.p (int (ls.length:Nat)),.p (int (j:Nat)),oo,oo,oo,oo,oo,oo,oo,oo,oo,oo,oo,oo,oo,oo,oo,oo,oo,oo,oo,oo,oo,oo,oo,oo,oo,oo,oo,oo,oo,oo,oo,oo,oo,oo,oo,oo,oo,oo,oo,oo,oo,oo,oo,oo,oo,oo,oo,oo,oo,oo] [(.l 3,.row (strE (Q++[s.take (liW s).toNat])) tStr 1 true)] (by omega) (by (simp only [ZZ,WW,Ze,reduceCtorEq,zd,ze,zb,zf,za];try trivial)) (by (simp only [ZZ,WW,Ze,reduceCtorEq,zd,ze,zb,zf,za];try trivial)) ⟨Q++[s.take (liW s).toNat],s.drop ((liW s).toNat+1),rfl,by rw [List.append_assoc];exact hQ,by omega,qiF hns _,rfl,rfl⟩
   ·intro hb
    have hbk:brkB s=false:=hb
    rw [qw8 hns h80 hbk] at hQ
    obtain ⟨g1,g2⟩:=qmZ hns h80
    simp only [ZZ,WW,Ze,reduceCtorEq,zd,ze,zb,zf,za]
    refine qad (fun n fr L=>∃ (k:Nat),k=n∧(qby s k=qby s 80)∧(qby s 80≤k)∧(k≤80)∧fr=[oo,oo,oo,.row (.l 3),oo,.p (.str s),.p (int (k:Nat)),oo,.p (.sl 1 (strE ls)),.p (int (ls.length:Nat)),.p (int (j:Nat)),oo,oo,oo,oo,oo,oo,oo,oo,oo,oo,oo,oo,oo,oo,oo,oo,oo,oo,oo,oo,oo,oo,oo,oo,oo,oo,oo,oo,oo,oo,oo,oo,oo,oo,oo,oo,oo,oo,oo,oo,oo,oo,oo,oo,oo,oo,oo,oo,oo,oo]∧L=[(.l 3,.row (strE Q) tStr 1 true)]) (80) [oo,oo,oo,.row (.l 3),oo,.p (.str s),.p (int (80:Nat)),oo,.p (.sl 1 (strE ls)),.p (int (ls.length:Nat)),.p (int (j:Nat)),oo,oo,oo,oo,oo,oo,oo,oo,oo,oo,oo,oo,oo,oo,oo,oo,oo,oo,oo,oo,oo,oo,oo,oo,oo,oo,oo,oo,oo,oo,oo,oo,oo,oo,oo,oo,oo,oo,oo,oo,oo,oo,oo,oo,oo,oo,oo,oo,oo,oo] [(.l 3,.row (strE Q) tStr 1 true)] (by (simp only [ZZ,WW,Ze,reduceCtorEq,zd,ze,zb,zf,za];try trivial)) (by (simp only [ZZ,WW,Ze,reduceCtorEq,zd,ze,zb,zf,za];try trivial)) ⟨80,rfl,rfl,qks s 80,Nat.le_refl _,rfl,rfl⟩ ?_
    rintro n fr L ⟨k,rfl,hk,hk2,hk3,rfl,rfl⟩
    simp only [qet,ZZ,WW,Ze,reduceCtorEq,zd,ze,zb,zf,za]
    ((repeat' (with_reducible apply And.intro))<;>try ((exact sc_)))
    refine use1 (qof (s.getD k 0)) rfl (.inl rfl) ?_
    simp only [ZZ,WW,Ze,reduceCtorEq,zd,ze,zb,zf,za,Bool.not_not]
    refine br ?_ ?_
    ·intro hc
     have hkb:qby s 80 < k:=by
      rcases Nat.lt_or_eq_of_le hk2 with h1|h1
      ·exact h1
      ·rw [← h1,g2] at hc;cases hc
     obtain ⟨g,rfl⟩:∃ g,k=g+1:=⟨k - 1,by omega⟩
     have hgg:((g+1:Nat):Int) - 1=(g:Nat):=by omega
     simp only [ZZ,WW,Ze,reduceCtorEq,zd,ze,zb,zf,za,hgg]
     ((repeat' (with_reducible apply And.intro))<;>try ((exact sc_)))
     refine qac ((g)) [oo,oo,oo,.row (.l 3),oo,.p (.str s),.p (int ((g):Nat)),oo,.p (.sl 1 (strE ls)),.p (int (ls.length:Nat)),.p (int (j:Nat)),oo,oo,oo,oo,oo,oo,oo,oo,oo,oo,oo,oo,oo,oo,oo,oo,oo,oo,oo,oo,oo,oo,oo,oo,oo,oo,oo,oo,oo,oo,oo,oo,oo,oo,oo,oo,oo,oo,oo,oo,oo,oo,oo,oo,oo,oo,oo,oo,oo,oo] [(.l 3,.row (strE Q) tStr 1 true)] (by omega) (by (simp only [ZZ,WW,Ze,reduceCtorEq,zd,ze,zb,zf,za];try trivial)) (by (simp only [ZZ,WW,Ze,reduceCtorEq,zd,ze,zb,zf,za];try trivial)) ⟨g,rfl,qwW hk (by omega) hc,by omega,by omega,rfl,rfl⟩
    ·intro hc
     have hkn:=qsu hk (by omega) (by omega) hc
     subst hkn
     have hdl:(s.drop (qby s 80)).length < s.length:=by rw [List.length_drop];omega
     have hst:strE Q++[[PV.str (s.take (qby s 80))]]=strE (Q++[s.take (qby s 80)]):=by simp [strE]
     have e1:((qby s 80:Nat):Int).toNat=qby s 80:=by omega
     simp only [ZZ,WW,Ze,reduceCtorEq,zd,ze,zb,zf,za]
     refine drg0 ?_
     simp only [ZZ,WW,Ze,reduceCtorEq,zd,ze,zb,zf,za,qal,List.take_length,e1]
     ((repeat' (with_reducible apply And.intro))<;>try ((exact sc_)))
     rw [hst]
     refine qac ((s.drop (qby s 80)).length) [oo,oo,oo,.row (.l 3),oo,.p (.str (s.drop (qby s 80))),oo,oo,.p (.sl 1 (strE ls)),.p (int (ls.length:Nat)),.p (int (j:Nat)),oo,oo,oo,oo,oo,oo,oo,oo,oo,oo,oo,oo,oo,oo,oo,oo,oo,oo,oo,oo,oo,oo,oo,oo,oo,oo,oo,oo,oo,oo,oo,oo,oo,oo,oo,oo,oo,oo,oo,oo,oo,oo,oo,oo,oo,oo,oo,oo,oo,oo] [(.l 3,.row (strE (Q++[s.take (qby s 80)])) tStr 1 true)] (by omega) (by (simp only [ZZ,WW,Ze,reduceCtorEq,zd,ze,zb,zf,za];try trivial)) (by (simp only [ZZ,WW,Ze,reduceCtorEq,zd,ze,zb,zf,za];try trivial)) ⟨Q++[s.take (qby s 80)],s.drop (qby s 80),rfl,by rw [List.append_assoc];exact hQ,by omega,qiF hns _,rfl,rfl⟩
  ·intro h
   have h80:s.length≤80:=by have:=of_decide_eq_false h;omega
   rw [qsR h80] at hQ
   have hst:strE Q++[[PV.str s]]=strE (Q++[s]):=by simp [strE]
   simp only [ZZ,WW,Ze,reduceCtorEq,zd,ze,zb,zf,za,qal]
   ((repeat' (with_reducible apply And.intro))<;>try ((exact sc_)))
   rw [hst]
   refine qac (ls.length - (j+1)) [oo,oo,oo,.row (.l 3),oo,oo,oo,oo,.p (.sl 1 (strE ls)),.p (int (ls.length:Nat)),.p (int ((j+1):Nat)),oo,oo,oo,oo,oo,oo,oo,oo,oo,oo,oo,oo,oo,oo,oo,oo,oo,oo,oo,oo,oo,oo,oo,oo,oo,oo,oo,oo,oo,oo,oo,oo,oo,oo,oo,oo,oo,oo,oo,oo,oo,oo,oo,oo,oo,oo,oo,oo,oo,oo] [(.l 3,.row (strE (Q++[s])) tStr 1 true)] (by omega) (by (simp only [ZZ,WW,Ze,reduceCtorEq,zd,ze,zb,zf,za];try trivial)) (by (simp only [ZZ,WW,Ze,reduceCtorEq,zd,ze,zb,zf,za];try trivial)) ⟨j+1,Q++[s],by omega,rfl,by rw [hQ,hnx],rfl,rfl⟩
 ·intro h
  have hge:j=ls.length:=by have:=of_decide_eq_false h;omega
  rw [hge,List.take_length] at hR
  simp only [ZZ,WW,Ze,reduceCtorEq,zd,ze,zb,zf,za]
  exact qln 3 _ rfl rfl (by rw [hR])
def qd8:IC:=(.seq (.reg [qO 11 (.bin .lss (.t 10) (.t 9))]) (.seq (.cond (.t 11) .skip (.exit 0)) (.seq (.block 1 (.seq (.reg [qO 12 (.ixa 1 (.t 8) (.t 10)),qO 13 (.ld 1 false (.t 12)),qM 5 13]) (.seq (.seq (.reg [qM 14 3,qM 15 3,qO 16 (.len (.t 15)),qO 17 (.bin .sub (.t 16) (.c (.int .i64 1))),qO 18 (.ixa 1 (.t 14) (.t 17)),qO 19 (.ld 1 false (.t 18)),qO 20 (.len (.t 19)),qO 21 (.bin .eql (.t 20) (.c (.int .i64 50)))]) (.cond (.t 21) (.reg [qM 22 3,qO 23 (.bsr 58 1 [.c (.nl 1)]),qO 24 (.app 58 1 24 (.t 22) (.t 23)),qM 3 24]) .skip)) (.cut (.reg [qM 25 3,qM 26 3,qO 27 (.len (.t 26)),qO 28 (.bin .sub (.t 27) (.c (.int .i64 1))),qM 29 3,qM 30 3,qO 31 (.len (.t 30)),qO 32 (.bin .sub (.t 31) (.c (.int .i64 1))),qO 33 (.ixa 1 (.t 29) (.t 32)),qO 34 (.ld 1 false (.t 33)),qM 35 5,qO 36 (.bsl 1 [.t 35]),qO 37 (.app 9 1 16 (.t 34) (.t 36)),qO 38 (.ixa 1 (.t 25) (.t 28)),⟨none,.st 1 (.t 38) (.t 37),none⟩]))))) (.reg [qO 39 (.bin .add (.t 10) (.c (.int .i64 1))),qM 10 39]))))
def qfy:IC:=(.seq (.reg [qO 2 (.mov (.c (.nl 1)))]) (.seq (.reg [qO 6 (.bsr 58 1 [.c (.nl 1)]),qM 3 6]) (.seq (.seq (.reg [qM 7 0,qO 8 (.call 201 [.t 7]),qO 9 (.len (.t 8)),qO 10 (.mov (.c (.int .i64 0)))]) (.block 0 (.loop qd8))) (.seq (.reg [qM 40 3,qM 2 40]) .ret))))
def qfp:List IRes:=[.t 2]
theorem qir:chkF Tryz.prog Tryz.f125 qfy qfp 41=true:=by kernel_rfl
abbrev tPgs:Nat:=58
def tbA (T:Tab):List (List AV):=(tbE T).map (·.map AV.p)
theorem qqX (T:Tab):Zbb (tbA T)=some (tbE T):=by
 unfold tbA
 induction T with
 |nil=>rfl
 |cons r T ih=>
  simp only [tbE,zj] at ih ⊢
  rw [Zbb,ih]
  rfl
theorem qsT (T:Tab) (k:Key):(tbA T).map (fun x=>x.map fun y=>AV.kill k y)=tbA T:=by
 unfold tbA
 rw [List.map_map]
 exact List.map_congr_left fun x _=>qlF k x
theorem qqW (T:Tab):(tbA T++[[AV.row (.l 37)]]).map (fun x=>x.map fun y=>AV.ren (r1 37 1000) y)=tbA T++[[AV.row (.l 1000)]]:=by
 rw [List.map_append]
 congr 1
 unfold tbA
 rw [List.map_map]
 exact List.map_congr_left fun x _=>by rw [Function.comp_apply,List.map_map];exact List.map_congr_left fun _ _=>rfl
theorem qky (T:Tab):(tbA T).length=T.length:=by simp [tbA,tbE]
theorem qib (T:Tab) (x:List AV):(tbA T++[x]).length=T.length+1:=by rw [List.length_append,qky];rfl
theorem qiV (T:Tab) (x:List AV):(tbA T++[x]).getD T.length []=x:=by
 rw [List.getD,List.getElem?_append_right (by rw [qky];exact Nat.le_refl _),qky,Nat.sub_self]
 rfl
theorem ql0 (T:Tab) (x y:List AV):(tbA T++[x]).set T.length y=tbA T++[y]:=by
 rw [List.set_append_right _ _ (by rw [qky];exact Nat.le_refl _),qky,Nat.sub_self]
 rfl
theorem qpn (T:Tab) (k:Key) (c:AV):(tbA T++[[c]]).map (fun x=>x.map fun y=>AV.kill k y)=tbA T++[[c.kill k]]:=by
 rw [List.map_append,qsT];rfl
def PgJ (L:Objs) (p:SRow) (k:Nat):Prop:=
 (k=0∧Zas L (.l 6)=some (.rowv (tbA []++[[.p (.nl 1)]]) tPgs 1))∨(0 < k∧Zas L (.l 6)=some (.rowv (tbA (pgIn p k)++[[.row (.l 1000)]]) tPgs 1)∧Zas L (.l 1000)=some (.row (strE (pgCu p k)) tStr 1 true))
theorem qpG {E:Envt} {fr:List AV} {L:Objs} {I:Tab} {cur:SRow} {x:List (List AV)} (hfr:∀ y,fr.map (·.thaw (.l 1000) y)=fr) (hx:∀ y,x.map (fun c=>c.map (AV.thaw (.l 1000) y))=x) (h1:Zas L (.l 6)=some (.rowv (tbA I++[[.row (.l 1000)]]++x) tPgs 1)) (h2:Zas L (.l 1000)=some (.row (strE cur) tStr 1 true)) :
  ∃ L',ReOk E fr L fr L'∧Zas L' (.l 6)=some (.rowv (tbA (I++[cur])++x) tPgs 1):=by
 have hr:=qbV (E:=E) (fr:=fr) h2
 rw [hfr] at hr
 refine ⟨_,hr,?_⟩
 rw [qeB,if_neg (by simp),h1,Option.map_some,AO.thaw]
 congr 2
 rw [List.map_append,List.map_append,hx]
 simp [tbA,tbE,AV.thaw]
set_option maxHeartbeats 4000000 in
theorem qqH (t:List UInt8) (hs:t.length≤100000) (ht:qjy t=true):FCall Tryz.prog E0 125 [.str t] tPgs 1 (·=tbE (pgsF (qgD (qfr t).1))):=by
 unfold FCall
 refine qje mixed Tryz.func125 qir ?_
 simp only [a0,l0,OS.ao,zj,zo,zi,zn,zl,zm,zp,zd,zh,zk,qfy,qfp,ZZ,WW,Ze,reduceCtorEq,zd,ze,zb,zf,za]
 refine use1 (quK (qsA t hs ht)) rfl (.inl rfl) ?_
 have hpl:(qgD (qfr t).1).length≤1000000:=by
  have h1:=qkx (qfr t).1
  have h2:=(qiH ht).1
  omega
 generalize qgD (qfr t).1=p at *
 simp only [ZZ,WW,Ze,reduceCtorEq,zd,ze,zb,zf,za,qal]
 obtain ⟨J,hJ⟩:∃ J:Nat→Objs→Prop,J=fun k L=>(k < p.length∧PgJ L p k)∨(k=p.length∧Zas L (.l 6)=some (.row (tbE (pgsF p)) tPgs 1 true)):=⟨_,rfl⟩
 have hnx:∀ k L,k≤p.length→PgJ L p k→∃ L',ReOk E0 [.p (.str t),oo,oo,.row (.l 6),oo,oo,oo,oo,.p (.sl 1 (strE p)),.p (int (p.length:Nat)),.p (int (k:Nat)),oo,oo,oo,oo,oo,oo,oo,oo,oo,oo,oo,oo,oo,oo,oo,oo,oo,oo,oo,oo,oo,oo,oo,oo,oo,oo,oo,oo,oo,oo] L [.p (.str t),oo,oo,.row (.l 6),oo,oo,oo,oo,.p (.sl 1 (strE p)),.p (int (p.length:Nat)),.p (int (k:Nat)),oo,oo,oo,oo,oo,oo,oo,oo,oo,oo,oo,oo,oo,oo,oo,oo,oo,oo,oo,oo,oo,oo,oo,oo,oo,oo,oo,oo,oo,oo] L'∧J k L':=by
  intro k L hk h
  by_cases hkl:k < p.length
  ·exact ⟨L,ReOk.refl,by rw [hJ];exact .inl ⟨hkl,h⟩⟩
  ·rcases h with ⟨h0,h1⟩|⟨h0,h1,h2⟩
   ·have hp:p=[]:=List.eq_nil_of_length_eq_zero (by omega)
    refine ⟨_,qig h1 (es':=[[.sl 1 []]]) rfl,?_⟩
    rw [hJ]
    refine .inr ⟨by omega,?_⟩
    rw [qab,if_pos rfl,pgsF,if_pos hp]
    rfl
   ·have hp:p≠[]:=by intro e;rw [e] at hk;simp at hk;omega
    have hkp:k=p.length:=by omega
    obtain ⟨L1,r1,h3⟩:=qpG (E:=E0) (fr:=[.p (.str t),oo,oo,.row (.l 6),oo,oo,oo,oo,.p (.sl 1 (strE p)),.p (int (p.length:Nat)),.p (int (k:Nat)),oo,oo,oo,oo,oo,oo,oo,oo,oo,oo,oo,oo,oo,oo,oo,oo,oo,oo,oo,oo,oo,oo,oo,oo,oo,oo,oo,oo,oo,oo]) (x:=[]) (by
     intro y
     have e1:(Key.l 6=.l 1000)=False:=by simp
     simp only [zj,zo,AV.thaw,e1,if_false]) (fun _=>rfl) (by rw [List.append_nil];exact h1) h2
    rw [List.append_nil,hkp,qxH hp] at h3
    refine ⟨_,ReOk.trans r1 (qig h3 (qqX _)),?_⟩
    rw [hJ]
    refine .inr ⟨hkp,?_⟩
    rw [qab,if_pos rfl]
 obtain ⟨L1,q1,q2⟩:=hnx 0 [(.l 6,.rowv [[.p (.nl 1)]] tPgs 1)] (by omega) (.inl ⟨rfl,rfl⟩)
 refine qrN (fun m fr L=>∃ k,k≤p.length∧m=p.length - k∧fr=[.p (.str t),oo,oo,.row (.l 6),oo,oo,oo,oo,.p (.sl 1 (strE p)),.p (int (p.length:Nat)),.p (int (k:Nat)),oo,oo,oo,oo,oo,oo,oo,oo,oo,oo,oo,oo,oo,oo,oo,oo,oo,oo,oo,oo,oo,oo,oo,oo,oo,oo,oo,oo,oo,oo]∧J k L) p.length [.p (.str t),oo,oo,.row (.l 6),oo,oo,oo,oo,.p (.sl 1 (strE p)),.p (int (p.length:Nat)),.p (int (0:Nat)),oo,oo,oo,oo,oo,oo,oo,oo,oo,oo,oo,oo,oo,oo,oo,oo,oo,oo,oo,oo,oo,oo,oo,oo,oo,oo,oo,oo,oo,oo] L1 (ReOk.trans (qkP (by simp only [ZZ,WW,Ze,reduceCtorEq,zd,ze,zb,zf,za,qal];try trivial)) q1) ⟨0,by omega,by omega,rfl,q2⟩ ?_
 clear q1 q2 L1
 rintro m fr L ⟨k,hk,rfl,rfl,hj⟩
 simp only [qd8,ZZ,WW,Ze,reduceCtorEq,zd,ze,zb,zf,za]
 rw [hJ] at hj
 refine br ?_ ?_
 ·intro h
  have hlt:k < p.length:=by have:=of_decide_eq_true h;omega
  rcases hj with ⟨_,hj⟩|⟨e,_⟩
  rotate_left
  ·omega
  obtain ⟨s,hsx⟩:∃ s,p[k]?=some s:=⟨_,List.getElem?_eq_getElem hlt⟩
  have hg:(strE p).getD k []=[.str s]:=qic hsx
  have hnx1:=fun L=>hnx (k+1) L (by omega)
  have hIl:(pgIn p k).length≤1000000:=by rw [qtm];omega
  have hCl:=qv4 (p:=p) (k:=k) hk
  rcases hj with ⟨h0,hl1⟩|⟨h0,hl1,hl2⟩
  ·subst h0
   obtain ⟨w1,w2⟩:=qxG hsx
   obtain ⟨I,hI⟩:∃ I:Tab,I=[]:=⟨_,rfl⟩
   have w1:pgIn p (0+1)=I:=by rw [hI];exact w1
   have w2:pgCu p (0+1)=[s]:=w2
   rw [← hI] at hl1
   have hix:((I.length+1:Nat):Int) - 1=(I.length:Nat):=by omega
   have hIl:I.length≤1000000:=by rw [hI];simp
   clear hI
   simp only [ZZ,WW,Ze,reduceCtorEq,zd,ze,zb,zf,za,hg,qal,hl1,qib,hix,qiV]
   ((repeat' (with_reducible apply And.intro))<;>try ((exact sc_)))
   refine br (fun h=>by simp at h) ?_
   intro _
   simp only [ZZ,WW,Ze,reduceCtorEq,zd,ze,zb,zf,za]
   refine qc4 _ _ ReOk.refl ?_
   simp only [ZZ,WW,Ze,reduceCtorEq,zd,ze,zb,zf,za,qas,qab,qat,hl1,qib,hix,qiV,ql0,qpn]
   ((repeat' (with_reducible apply And.intro))<;>try ((exact sc_)))
   generalize hLL:Zat (Zat _ (Key.l 37) _) (Key.l 6) _=LL
   obtain ⟨L2,r2,h2⟩:=hnx1 (mapO (r1 37 1000) LL) (by
    refine .inr ⟨by omega,?_,?_⟩
    ·rw [w1,← hLL,qcC,if_neg (by simp),if_neg (by simp),qab,if_pos rfl]
     simp only [Option.map_some,AO.ren]
     exact congrArg (fun c=>some (AO.rowv c tPgs 1)) (qqW _)
    ·rw [w2,← hLL,qcC,if_pos rfl,qab,if_neg (by simp),qab,if_pos rfl]
     rfl)
   refine qlO (p.length - (0+1)) [.p (.str t),oo,oo,.row (.l 6),oo,oo,oo,oo,.p (.sl 1 (strE p)),.p (int (p.length:Nat)),.p (int (0+1:Nat)),oo,oo,oo,oo,oo,oo,oo,oo,oo,oo,oo,oo,oo,oo,oo,oo,oo,oo,oo,oo,oo,oo,oo,oo,oo,oo,oo,oo,oo,oo] L2 (by omega) (ReOk.trans (qpB 37 1000) (ReOk.trans (qkP (by simp only [AV.ren,r1,ZZ,WW,Ze,reduceCtorEq,zd,ze,zb,zf,za];try trivial)) r2)) ⟨0+1,by omega,rfl,rfl,h2⟩
  ·obtain ⟨I,hI⟩:∃ I:Tab,I=pgIn p k:=⟨_,rfl⟩
   obtain ⟨cur,hcu⟩:∃ cur:SRow,cur=pgCu p k:=⟨_,rfl⟩
   have hix:((I.length+1:Nat):Int) - 1=(I.length:Nat):=by omega
   rw [← hI] at hl1 hIl
   rw [← hcu] at hl2 hCl
   simp only [ZZ,WW,Ze,reduceCtorEq,zd,ze,zb,zf,za,hg,qal,hl1,hl2,qib,hix,qiV]
   ((repeat' (with_reducible apply And.intro))<;>try ((exact sc_)))
   refine br ?_ ?_
   ·intro h50
    have h50:(pgCu p k).length=50:=by rw [← hcu];have:=of_decide_eq_true h50;omega
    obtain ⟨w1,w2⟩:=qv3 h0 h50 hsx
    rw [← hI,← hcu] at w1
    simp only [ZZ,WW,Ze,reduceCtorEq,zd,ze,zb,zf,za,qas,qab,qat,hl1,hl2,qib,qpn]
    ((repeat' (with_reducible apply And.intro))<;>try ((exact sc_)))
    generalize hLL:Zat (Zau _ (Zat _ (Key.l 23) _)) (Key.l 6) _=LL
    have q1:Zas LL (.l 6)=some (.rowv (tbA I++[[.row (.l 1000)]]++[[.p (.nl 1)]]) tPgs 1):=by rw [← hLL,qab,if_pos rfl]
    have q2:Zas LL (.l 1000)=some (.row (strE cur) tStr 1 true):=by
     rw [← hLL]
     simp only [qab,qat,hl2,ZZ,WW,Ze,reduceCtorEq,zd,ze,zb,zf,za]
    clear hLL hl1 hl2
    obtain ⟨L3,r3,hl1⟩:=qpG (E:=E0) (fr:=[.p (.str t),oo,oo,.row (.l 6),oo,.p (.str s),oo,oo,.p (.sl 1 (strE p)),.p (int (p.length:Nat)),.p (int (k:Nat)),oo,oo,oo,oo,oo,oo,oo,oo,oo,oo,oo,oo,oo,oo,oo,oo,oo,oo,oo,oo,oo,oo,oo,oo,oo,oo,oo,oo,oo,oo]) (x:=[[.p (.nl 1)]]) (by
     intro y
     have e1:(Key.l 6=.l 1000)=False:=by simp
     simp only [zj,zo,AV.thaw,e1,if_false]) (fun _=>rfl) q1 q2
    refine qc4 [.p (.str t),oo,oo,.row (.l 6),oo,.p (.str s),oo,oo,.p (.sl 1 (strE p)),.p (int (p.length:Nat)),.p (int (k:Nat)),oo,oo,oo,oo,oo,oo,oo,oo,oo,oo,oo,oo,oo,oo,oo,oo,oo,oo,oo,oo,oo,oo,oo,oo,oo,oo,oo,oo,oo,oo] L3 (ReOk.trans (qkP zF_) r3) ?_
    clear r3 q1 q2
    obtain ⟨I2,hI2⟩:∃ I2:Tab,I2=I++[cur]:=⟨_,rfl⟩
    rw [← hI2] at hl1 w1
    have hix:((I2.length+1:Nat):Int) - 1=(I2.length:Nat):=by omega
    have hIl:I2.length≤2000000:=by rw [hI2,List.length_append];simp;omega
    clear hI2
    simp only [ZZ,WW,Ze,reduceCtorEq,zd,ze,zb,zf,za,qas,qab,qat,hl1,qib,hix,qiV,ql0,qpn]
    ((repeat' (with_reducible apply And.intro))<;>try ((exact sc_)))
    generalize hLL:Zat (Zat _ (Key.l 37) _) (Key.l 6) _=LL
    obtain ⟨L2,r2,h2⟩:=hnx1 (mapO (r1 37 1000) LL) (by
     refine .inr ⟨by omega,?_,?_⟩
     ·rw [w1,← hLL,qcC,if_neg (by simp),if_neg (by simp),qab,if_pos rfl]
      simp only [Option.map_some,AO.ren]
      exact congrArg (fun c=>some (AO.rowv c tPgs 1)) (qqW _)
     ·rw [w2,← hLL,qcC,if_pos rfl,qab,if_neg (by simp),qab,if_pos rfl]
      rfl)
    refine qlO (p.length - (k+1)) [.p (.str t),oo,oo,.row (.l 6),oo,oo,oo,oo,.p (.sl 1 (strE p)),.p (int (p.length:Nat)),.p (int (k+1:Nat)),oo,oo,oo,oo,oo,oo,oo,oo,oo,oo,oo,oo,oo,oo,oo,oo,oo,oo,oo,oo,oo,oo,oo,oo,oo,oo,oo,oo,oo,oo] L2 (by omega) (ReOk.trans (qpB 37 1000) (ReOk.trans (qkP (by simp only [AV.ren,r1,ZZ,WW,Ze,reduceCtorEq,zd,ze,zb,zf,za];try trivial)) r2)) ⟨k+1,by omega,rfl,rfl,h2⟩
   ·intro h50
    have h50:¬ (pgCu p k).length=50:=by rw [← hcu];have:=of_decide_eq_false h50;omega
    obtain ⟨w1,w2⟩:=qv2 h0 h50 hsx
    rw [← hI] at w1
    rw [← hcu] at w2
    simp only [ZZ,WW,Ze,reduceCtorEq,zd,ze,zb,zf,za]
    refine qc4 _ _ ReOk.refl ?_
    simp only [ZZ,WW,Ze,reduceCtorEq,zd,ze,zb,zf,za,qas,qab,qat,hl1,hl2,qib,hix,qiV,ql0,qpn,qal]
    ((repeat' (with_reducible apply And.intro))<;>try ((exact sc_)))
    generalize hLL:Zat (Zat _ (Key.l 1000) _) (Key.l 6) _=LL
    obtain ⟨L2,r2,h2⟩:=hnx1 LL (.inr ⟨by omega,by rw [w1,← hLL,qab,if_pos rfl],by rw [w2,← hLL,qab,if_neg (by simp),qab,if_pos rfl,qpr];rfl⟩)
    refine qlO (p.length - (k+1)) [.p (.str t),oo,oo,.row (.l 6),oo,oo,oo,oo,.p (.sl 1 (strE p)),.p (int (p.length:Nat)),.p (int (k+1:Nat)),oo,oo,oo,oo,oo,oo,oo,oo,oo,oo,oo,oo,oo,oo,oo,oo,oo,oo,oo,oo,oo,oo,oo,oo,oo,oo,oo,oo,oo,oo] L2 (by omega) (ReOk.trans (qkP zF_) r2) ⟨k+1,by omega,rfl,rfl,h2⟩
 ·intro h
  have hge:k=p.length:=by have:=of_decide_eq_false h;omega
  rcases hj with ⟨e,_⟩|⟨_,hO⟩
  ·omega
  subst hge
  simp only [ZZ,WW,Ze,reduceCtorEq,zd,ze,zb,zf,za]
  exact qln 6 _ rfl hO rfl
def qew:IC:=(.seq (.reg [qO 96 (.bin .lss (.t 95) (.t 94))]) (.seq (.cond (.t 96) .skip (.exit 6)) (.seq (.block 7 (.seq (.reg [qO 97 (.ixa 1 (.t 93) (.t 95)),qO 98 (.ld 1 false (.t 97)),qM 23 98]) (.seq (.reg [qM 99 19,qM 100 99,⟨some 101,.mov (.t 13),(some (100,false))⟩,⟨some 102,.mov (.t 23),(some (100,false))⟩,⟨some 103,.mpl false (.bool false) (.t 101) (.t 102),(some (100,false))⟩,qO 104 (.pick (.t 100) (.c (.bool true)) (.t 103)),qM 19 104]) (.seq (.reg [qM 105 1,qM 106 23,qO 107 (.call 86 [.t 105,.t 106]),qO 24 (.alc 76 [.str [],.int .i64 0,.nl 2]),⟨none,.st 3 (.t 24) (.t 107),none⟩]) (.seq (.reg [qM 108 23,qO 109 (.fla 0 (.t 21)),qO 110 (.ld 1 false (.t 109)),qM 111 12,qO 112 (.bin .add (.t 111) (.c (.int .i64 1))),qO 113 (.bld [.str [],.str [],.int .i64 0,.int .i64 0,.int .i64 0,.nl 1,.int .i64 0] [(0,1,.t 108),(1,1,.t 110),(3,1,.t 112),(6,1,.c (.int .i64 1))]),qO 25 (.alc 85 [.str [],.str [],.int .i64 0,.int .i64 0,.int .i64 0,.nl 1,.int .i64 0]),⟨none,.st 7 (.t 25) (.t 113),none⟩]) (.seq (.seq (.reg [qO 114 (.fla 1 (.t 24)),qO 115 (.ld 1 false (.t 114))]) (.block 8 (.seq (.reg [qO 123 (.bin .eql (.t 115) (.c (.int .i64 1))),qM 122 123]) (.cond (.t 122) (.seq (.reg [qM 125 0,qM 126 23,qO 127 (.call 72 [.t 125,.t 126]),qM 124 127,qO 128 (.ext 0 (.t 124)),qO 129 (.ext 1 (.t 124)),qO 26 (.alc 80 [.str [],.str [],.int .i64 0,.str [],.int .i64 0,.str [],.str []]),⟨none,.st 7 (.t 26) (.t 128),none⟩,qM 27 129]) (.reg [qO 130 (.fla 6 (.t 26)),qO 131 (.ld 1 false (.t 130)),qO 132 (.fla 2 (.t 24)),qO 133 (.ld 1 false (.t 132)),qO 134 (.call 126 [.t 131,.t 133]),qO 135 (.call 125 [.t 134]),qO 136 (.fla 2 (.t 25)),⟨none,.st 1 (.t 136) (.c (.int .i64 1)),none⟩,qO 137 (.fla 5 (.t 25)),⟨none,.st 1 (.t 137) (.t 135),none⟩])) (.seq (.reg [qO 139 (.bin .eql (.t 115) (.c (.int .i64 2))),qM 138 139]) (.cond (.t 138) (.drg [qO 140 (.fla 3 (.t 6)),qO 141 (.ldn 25 1 false (.t 140)),qO 142 (.bsl 1 [.t 141]),qO 143 (.bsl 1 [.t 142]),qO 144 (.fla 2 (.t 25)),⟨none,.stk 25 1 (.t 144) (.c (.int .i64 2)),none⟩,qO 145 (.fla 5 (.t 25)),⟨none,.st 1 (.t 145) (.t 143),none⟩]) (.drg [qO 116 (.fla 4 (.t 6)),qO 117 (.ldn 25 1 false (.t 116)),qO 118 (.bsl 1 [.t 117]),qO 119 (.bsl 1 [.t 118]),qO 120 (.fla 2 (.t 25)),⟨none,.stk 25 1 (.t 120) (.c (.int .i64 3)),none⟩,qO 121 (.fla 5 (.t 25)),⟨none,.st 1 (.t 121) (.t 119),none⟩]))))))) (.cut (.seq (.reg [qM 146 12,qO 147 (.fla 5 (.t 25)),qO 148 (.ld 1 false (.t 147)),qO 149 (.len (.t 148)),qO 150 (.bin .add (.t 146) (.t 149)),qM 12 150]) (.seq (.reg [qM 151 12,qO 152 (.fla 4 (.t 25)),⟨none,.st 1 (.t 152) (.t 151),none⟩]) (.reg [qO 153 (.fla 3 (.t 11)),qO 154 (.ld 1 false (.t 153)),qO 155 (.ld 7 true (.t 25)),qO 156 (.bsl 7 [.t 155]),qO 157 (.app 85 7 88 (.t 154) (.t 156)),qO 158 (.fla 3 (.t 11)),⟨none,.st 1 (.t 158) (.t 157),none⟩])))))))))) (.reg [qO 159 (.bin .add (.t 95) (.c (.int .i64 1))),qM 95 159]))))
def qex:IC:=(.seq (.reg [qO 89 (.bin .lss (.t 88) (.t 87))]) (.seq (.cond (.t 89) .skip (.exit 4)) (.seq (.block 5 (.seq (.reg [qO 90 (.ixa 2 (.t 86) (.t 88)),qO 91 (.ld 2 true (.t 90)),qO 21 (.alc 119 [.str [],.nl 1]),⟨none,.st 2 (.t 21) (.t 91),none⟩]) (.seq (.reg [qO 92 (.fla 1 (.t 21)),qO 93 (.ld 1 false (.t 92)),qO 94 (.len (.t 93)),qO 95 (.mov (.c (.int .i64 0)))]) (.block 6 (.loop qew))))) (.reg [qO 160 (.bin .add (.t 88) (.c (.int .i64 1))),qM 88 160]))))
def qey:IC:=(.seq (.reg [qO 64 (.bin .lss (.t 63) (.t 62))]) (.seq (.cond (.t 64) .skip (.exit 2)) (.seq (.block 3 (.seq (.reg [qO 65 (.ixa 7 (.t 61) (.t 63)),qO 66 (.ld 7 true (.t 65)),qO 17 (.alc 85 [.str [],.str [],.int .i64 0,.int .i64 0,.int .i64 0,.nl 1,.int .i64 0]),⟨none,.st 7 (.t 17) (.t 66),none⟩]) (.seq (.reg [qM 67 13,qO 68 (.fla 0 (.t 17)),qO 69 (.ld 1 false (.t 68)),⟨none,.mpu (.t 67) (.t 69) (.c (.bool true)),none⟩]) (.seq (.reg [qO 70 (.fla 1 (.t 15)),qO 71 (.ld 1 false (.t 70)),qO 72 (.fla 0 (.t 6)),qO 73 (.ld 1 false (.t 72)),qO 74 (.bin .eql (.t 71) (.t 73))]) (.cond (.t 74) (.reg [qM 75 12,qO 76 (.fla 4 (.t 17)),qO 77 (.ld 1 false (.t 76)),qO 78 (.mx (.t 75) (.t 77)),qM 12 78]) .skip))))) (.cut (.reg [qO 79 (.bin .add (.t 63) (.c (.int .i64 1))),qM 63 79])))))
def qez:IC:=(.seq (.reg [qO 57 (.bin .lss (.t 56) (.t 55))]) (.seq (.cond (.t 57) .skip (.exit 0)) (.seq (.block 1 (.seq (.reg [qO 58 (.ixa 4 (.t 54) (.t 56)),qO 59 (.ld 4 true (.t 58)),qO 15 (.alc 36 [.int .i64 0,.str [],.int .i64 0,.nl 7]),⟨none,.st 4 (.t 15) (.t 59),none⟩]) (.seq (.reg [qO 60 (.fla 3 (.t 15)),qO 61 (.ld 1 false (.t 60)),qO 62 (.len (.t 61)),qO 63 (.mov (.c (.int .i64 0)))]) (.block 2 (.loop qey))))) (.reg [qO 80 (.bin .add (.t 56) (.c (.int .i64 1))),qM 56 80]))))
def qf3:IC:=(.seq (.reg [qO 6 (.box 45 (.t 2)),qO 8 (.alc 36 [.int .i64 0,.str [],.int .i64 0,.nl 7]),qO 9 (.mov (.c (.int .i64 0)))]) (.seq (.seq (.drg [qM 28 0,qM 29 1,qO 30 (.pcall 0 20 [.t 28,.t 29]),qO 31 (.ld 6 true (.t 6)),qO 32 (.pcall 1 22 [.t 31]),qM 33 3,qO 34 (.pcall 2 16 [.t 33]),qO 35 (.bsl 1 [.t 30,.t 32,.t 34]),qO 36 (.pcall 3 124 [.t 35]),qM 10 36]) (.seq (.reg [qM 37 10,qO 38 (.bin .neq (.t 37) (.c (.int .i64 0)))]) (.cond (.t 38) (.seq (.reg [qO 39 (.bld [.int .i64 0,.str [],.int .i64 0,.nl 7] []),qM 40 10,⟨none,.st 4 (.t 8) (.t 39),none⟩,qM 9 40]) .ret) .skip))) (.seq (.seq (.reg [qM 41 3,qO 42 (.len (.t 41)),qO 43 (.bin .eql (.t 42) (.c (.int .i64 200)))]) (.cond (.t 43) (.seq (.reg [qO 44 (.bld [.int .i64 0,.str [],.int .i64 0,.nl 7] []),⟨none,.st 4 (.t 8) (.t 44),none⟩,qO 9 (.mov (.c (.int .i64 12)))]) .ret) .skip)) (.seq (.reg [qM 45 3,qO 46 (.len (.t 45)),qO 47 (.bin .add (.t 46) (.c (.int .i64 1))),qO 48 (.fla 0 (.t 6)),qO 49 (.ld 1 false (.t 48)),qO 50 (.fla 1 (.t 6)),qO 51 (.ld 1 false (.t 50)),qO 52 (.bld [.int .i64 0,.str [],.int .i64 0,.nl 7] [(0,1,.t 47),(1,1,.t 49),(2,1,.t 51)]),qO 11 (.alc 36 [.int .i64 0,.str [],.int .i64 0,.nl 7]),⟨none,.st 4 (.t 11) (.t 52),none⟩,⟨none,.re,none⟩]) (.seq (.reg [qO 12 (.mov (.c (.int .i64 0)))]) (.seq (.reg [qO 53 (.mkm 9 4),qM 13 53]) (.seq (.seq (.reg [qM 54 3,qO 55 (.len (.t 54)),qO 56 (.mov (.c (.int .i64 0)))]) (.block 0 (.loop qez))) (.seq (.reg [qM 81 12,qM 18 81]) (.seq (.reg [qO 19 (.mov (.c (.bool false)))]) (.seq (.seq (.reg [qM 82 0,qM 83 1,qO 84 (.fla 2 (.t 6)),qO 85 (.ld 1 false (.t 84)),qO 86 (.call 26 [.t 82,.t 83,.t 85]),qO 87 (.len (.t 86)),qO 88 (.mov (.c (.int .i64 0)))]) (.block 4 (.loop qex))) (.seq (.block 9 (.seq (.reg [qM 162 19,qM 161 162]) (.cond (.t 161) (.seq (.reg [qO 163 (.bld [.int .i64 0,.str [],.int .i64 0,.nl 7] []),⟨none,.st 4 (.t 8) (.t 163),none⟩,qO 9 (.mov (.c (.int .i64 6)))]) .ret) (.seq (.reg [qO 165 (.fla 3 (.t 11)),qO 166 (.ld 1 false (.t 165)),qO 167 (.len (.t 166)),qO 168 (.bin .eql (.t 167) (.c (.int .i64 0))),qM 164 168]) (.cond (.t 164) (.seq (.reg [qO 169 (.bld [.int .i64 0,.str [],.int .i64 0,.nl 7] []),⟨none,.st 4 (.t 8) (.t 169),none⟩,qO 9 (.mov (.c (.int .i64 8)))]) .ret) (.seq (.reg [qM 171 12,qM 172 18,qO 173 (.bin .sub (.t 171) (.t 172)),qO 174 (.fla 5 (.t 6)),qO 175 (.ld 1 false (.t 174)),qO 176 (.bin .gtr (.t 173) (.t 175)),qM 170 176]) (.cond (.t 170) (.seq (.reg [qO 177 (.bld [.int .i64 0,.str [],.int .i64 0,.nl 7] []),⟨none,.st 4 (.t 8) (.t 177),none⟩,qO 9 (.mov (.c (.int .i64 2)))]) .ret) (.seq (.reg [qM 179 12,qO 180 (.fla 1 (.t 6)),qO 181 (.ld 1 false (.t 180)),qO 182 (.call 61 [.t 181]),qO 183 (.bin .geq (.t 179) (.t 182)),qM 178 183]) (.cond (.t 178) (.seq (.reg [qO 184 (.bld [.int .i64 0,.str [],.int .i64 0,.nl 7] []),⟨none,.st 4 (.t 8) (.t 184),none⟩,qO 9 (.mov (.c (.int .i64 12)))]) .ret) .skip))))))))) (.seq (.reg [⟨none,.re,none⟩,qO 185 (.ld 4 true (.t 11)),⟨none,.st 4 (.t 8) (.t 185),none⟩,qO 9 (.mov (.c (.int .i64 0)))]) .ret))))))))))))
def qfP:List IRes:=[.c 8 4 true,.t 9]
theorem qiQ:chkF Tryz.prog Tryz.f39 qf3 qfP 186=true:=by kernel_rfl
section
variable {E:Envt}
theorem qnl (l:List Rul) (hl:l.length≤1000000) (s:List UInt8):PCall Tryz.prog E 86 [.sl 3 (rlE l),.str s] (·=.agg (rlV (rlOf l s))):=by
 refine qag mixed Tryz.func86 qe8 ?_
 simp only [a0,l0,OS.ao,zj,zo,zi,zn,zl,zm,zp,zd,zh,zk,qcE,qcB,ZZ,WW,Ze,reduceCtorEq,zd,ze,zb,zf,za]
 simp only [ZZ,WW,Ze,reduceCtorEq,zd,ze,zb,zf,za,qcl]
 refine qad (fun n fr L=>∃ (k:Nat),k≤l.length∧n=l.length - k∧(l.find? (fun r=>decide (r.id=s))=(l.drop k).find? (fun r=>decide (r.id=s)))∧fr=[oo,.p (.str s),oo,oo,.adr (.l 4) 0,oo,oo,.p (.sl 3 (rlE l)),.p (int (l.length:Nat)),.p (int (k:Nat)),oo,oo,oo,oo,oo,oo,oo,oo,oo,oo,oo]∧L=[(.l 4,.box [.p (.str []),.p (int 0),.p (.nl 2)] 76)]) (l.length) [oo,.p (.str s),oo,oo,.adr (.l 4) 0,oo,oo,.p (.sl 3 (rlE l)),.p (int (l.length:Nat)),.p (int (0:Nat)),oo,oo,oo,oo,oo,oo,oo,oo,oo,oo,oo] [(.l 4,.box [.p (.str []),.p (int 0),.p (.nl 2)] 76)] (by simp only [ZZ,WW,Ze,reduceCtorEq,zd,ze,zb,zf,za,qcl];try trivial) (by (simp only [ZZ,WW,Ze,reduceCtorEq,zd,ze,zb,zf,za];try trivial)) ⟨0,by omega,by omega,rfl,rfl,rfl⟩ ?_
 rintro n fr L ⟨k,hk,rfl,hF,rfl,rfl⟩
 simp only [qb0,ZZ,WW,Ze,reduceCtorEq,zd,ze,zb,zf,za]
 refine br ?_ ?_
 ·intro h
  have hlt:k < l.length:=by have:=of_decide_eq_true h;omega
  obtain ⟨r,hr⟩:∃ r,l[k]?=some r:=⟨_,List.getElem?_eq_getElem hlt⟩
  have hg:=qkO hr
  have hd:l.drop k=r :: l.drop (k+1):=by rw [List.drop_eq_getElem_cons hlt,(List.getElem?_eq_some_iff.1 hr).2]
  rw [hd,List.find?_cons] at hF
  simp only [ZZ,WW,Ze,reduceCtorEq,zd,ze,zb,zf,za,hg,qcl]
  ((repeat' (with_reducible apply And.intro))<;>try ((exact sc_)))
  refine br ?_ ?_
  ·intro h2
   have h3:r.id=s:=by simpa using h2
   rw [decide_eq_true h3] at hF
   simp only [ZZ,WW,Ze,reduceCtorEq,zd,ze,zb,zf,za]
   unfold rlOf
   rw [hF]
   rfl
  ·intro h2
   have h3:¬ r.id=s:=by simpa using h2
   rw [decide_eq_false h3] at hF
   simp only [ZZ,WW,Ze,reduceCtorEq,zd,ze,zb,zf,za]
   ((repeat' (with_reducible apply And.intro))<;>try ((exact sc_)))
   refine qac (l.length - (k+1)) [oo,.p (.str s),oo,oo,.adr (.l 4) 0,oo,oo,.p (.sl 3 (rlE l)),.p (int (l.length:Nat)),.p (int ((k+1):Nat)),oo,oo,oo,oo,oo,oo,oo,oo,oo,oo,oo] [(.l 4,.box [.p (.str []),.p (int 0),.p (.nl 2)] 76)] (by omega) (by (simp only [ZZ,WW,Ze,reduceCtorEq,zd,ze,zb,zf,za];try trivial)) (by (simp only [ZZ,WW,Ze,reduceCtorEq,zd,ze,zb,zf,za];try trivial)) ⟨k+1,by omega,rfl,hF,rfl,rfl⟩
 intro h
 have hge:l.length≤k:=by have:=of_decide_eq_false h;omega
 rw [List.drop_eq_nil_of_le hge] at hF
 simp only [ZZ,WW,Ze,reduceCtorEq,zd,ze,zb,zf,za]
 unfold rlOf
 rw [hF]
 rfl
end
theorem qqg {il:List Itm} {l:List Rul} (h:rulF il l=0) (s:List UInt8) (h1:(rlOf l s).what=1):(∀ p∈(rlOf l s).spans,0≤p.1∧p.1 < p.2∧p.2≤(qjx (itOf il s)).length):=by
 unfold rlOf at h1 ⊢
 cases hf:l.find? (fun r=>decide (r.id=s)) with
 |none=>rw [hf] at h1;cases h1
 |some r=>
  have hm:=List.mem_of_find?_eq_some hf
  have hs:r.id=s:=by simpa using List.find?_some hf
  obtain ⟨k,hk⟩:=List.getElem?_of_mem hm
  have hkl:=(List.getElem?_eq_some_iff.1 hk).1
  have h2:qaf ((List.range l.length).map (ruE il l))=0:=by
   unfold rulF at h
   split at h
   ·cases h
   ·exact h
  have h3:=qaL h2 _ (List.mem_map.2 ⟨k,List.mem_range.2 hkl,rfl⟩)
  unfold ruE at h3
  have hd:l.getD k rl0=r:=by simp [List.getD,hk]
  rw [hd] at h3
  have h4:=qaL h3 (qgE r.spans (((getI il r.id).getD it0).2.2.2.2.2.2.length:Nat)) (by simp)
  rw [hs] at h4
  exact qq2 h4
theorem qtg {l:List Rul} (hb:∀ r∈l,r.spans.length≤1000000) (s:List UInt8):(rlOf l s).spans.length≤1000000:=by
 unfold rlOf
 cases hf:l.find? (fun r=>decide (r.id=s)) with
 |none=>simp
 |some r=>exact hb r (List.mem_of_find?_eq_some hf)
theorem qs8 {s:Stp} (h:setF s=0):(s.ord=1∨s.ord=2∨s.ord=3)∧4≤s.dig∧s.dig≤9:=by
 have z1:=qaL h (qe6 s.pre s.dig) (by simp)
 have z2:=qaL h (ordF s.ord) (by simp)
 refine ⟨?_,qkZ z1⟩
 unfold ordF qaj at z2
 split at z2
 ·cases z2
 ·rename_i h3
  have h4:inE s.ord 1 3=true:=by simpa using h3
  unfold inE at h4
  simp only [Bool.and_eq_true,Bool.not_eq_true',decide_eq_true_eq,decide_eq_false_iff_not] at h4
  omega
theorem qrb:shE []=[]:=rfl
def twM (past:List Prd) (D:List (List UInt8×List UInt8)):Bool:=D.any fun q=>qiy past q.2
set_option maxHeartbeats 8000000 in
set_option maxRecDepth 100000 in
theorem qsH (il:List Itm) (hP:qbE il) (h12:il.length≤12) (l:List Rul) (hl:l.length≤1000000) (hb:∀ r∈l,r.spans.length≤1000000) (s:Stp) (hs:StB s) (hm:-1000000000≤s.most∧s.most≤1000000000) (past:List Prd) (hpl:past.length≤1000) (hpB:∀ p∈past,PdB p) :
  qsD Tryz.prog E0 39 [.sl 7 (itE il),.sl 3 (rlE l),.agg (stV s)] tPrd 4 (pdE past) [] (fun x es'=>es'=pdE past∧x=.tup [.agg (pdV (pmP il l s past)),int (pmE il l s past)]):=by
 unfold qsD
 refine qr3 mixed Tryz.func39 qiQ ?_
 simp only [a0P,a0,l0,OS.ao,zj,zo,zi,zn,zl,zm,zp,zd,zh,zk,qf3,qfP,stV,ZZ,WW,Ze,reduceCtorEq,zd,ze,zb,zf,za]
 have hsf:=qm7 s hs
 simp only [stV] at hsf
 have hend:∀ c:Int,c≠0→pmE il l s past=c→PV.tup [.agg [int 0,.str [],int 0,.sl 7 []],int c]=.tup [.agg (pdV (pmP il l s past)),int (pmE il l s past)]:=by
  intro c hc he
  unfold pmP
  rw [if_neg (by rw [he];exact hc),he]
  rfl
 refine ⟨[int (rulF il l),int (setF s),int (pdsF past),int (pmA il l s past)],?_⟩
 simp only [ZZ,WW,Ze,reduceCtorEq,zd,ze,zb,zf,za]
 refine ⟨usep (qle il hP l hl hb) rfl (.inl rfl),usep hsf rfl (.inl rfl),usep (qdA past (by omega) hpB) rfl (.inr rfl),usep (qzX [_,_,_] (by simp)) rfl (.inl rfl),?_⟩
 refine br ?_ ?_
 ·intro h
  have h1:¬ pmA il l s past=0:=by simpa using h
  simp only [ZZ,WW,Ze,reduceCtorEq,zd,ze,zb,zf,za]
  exact qjJ (pdE past) rfl ⟨rfl,hend _ h1 (by rw [pmE,if_neg h1])⟩
 intro h
 have hA:pmA il l s past=0:=by simpa using h
 have hr0:rulF il l=0:=qaL hA _ (by simp)
 have hs0:setF s=0:=qaL hA _ (by simp)
 have hd0:pdsF past=0:=qaL hA _ (by simp)
 have hE:pmE il l s past=if past.length=200 then 12 else pmB il l s past:=by rw [pmE,if_pos hA]
 clear h
 have e200:decide ((past.length:Int)=200)=decide (past.length=200):=decide_eq_decide.2 (by omega)
 simp only [ZZ,WW,Ze,reduceCtorEq,zd,ze,zb,zf,za,qaQ,e200]
 refine br ?_ ?_
 ·intro h
  rw [if_pos (by simpa using h)] at hE
  simp only [ZZ,WW,Ze,reduceCtorEq,zd,ze,zb,zf,za]
  exact qjJ (pdE past) rfl ⟨rfl,hend _ (by decide) hE⟩
 intro h
 rw [if_neg (by simpa using h)] at hE
 clear h e200
 obtain ⟨ho,hd4,hd9⟩:=qs8 hs0
 simp only [ZZ,WW,Ze,reduceCtorEq,zd,ze,zb,zf,za,qaQ]
 ((repeat' (with_reducible apply And.intro))<;>try ((exact sc_)))
 rw [qa9]
 refine ⟨_,_,qrl (k:=.l 11) 3 157 qbA 7 7 (by simp) rfl rfl,?_⟩
 simp only [ZZ,WW,Ze,reduceCtorEq,zd,ze,zb,zf,za,qaQ]
 refine qad (fun n fr L=>∃ (a:Nat) (kv:List (List UInt8×PV)) (nn:Int),a≤past.length∧n=past.length - a∧(nn=qoN (past.take a) s.pre)∧(qrf kv (idsT (past.take a)))∧fr=[.p (.sl 7 (itE il)),.p (.sl 3 (rlE l)),oo,.row (.b 0),oo,oo,.adr (.l 6) 0,oo,.adr (.l 8) 0,.p (int 0),oo,.adr (.l 11) 0,.p (int nn),.mp (.l 53),oo,oo,oo,oo,oo,oo,oo,oo,oo,oo,oo,oo,oo,oo,oo,oo,oo,oo,oo,oo,oo,oo,oo,oo,oo,oo,oo,oo,oo,oo,oo,oo,oo,oo,oo,oo,oo,oo,oo,oo,.row (.b 0),.p (int (past.length:Nat)),.p (int (a:Nat)),oo,oo,oo,oo,oo,oo,oo,oo,oo,oo,oo,oo,oo,oo,oo,oo,oo,oo,oo,oo,oo,oo,oo,oo,oo,oo,oo,oo,oo,oo,oo,oo,oo,oo,oo,oo,oo,oo,oo,oo,oo,oo,oo,oo,oo,oo,oo,oo,oo,oo,oo,oo,oo,oo,oo,oo,oo,oo,oo,oo,oo,oo,oo,oo,oo,oo,oo,oo,oo,oo,oo,oo,oo,oo,oo,oo,oo,oo,oo,oo,oo,oo,oo,oo,oo,oo,oo,oo,oo,oo,oo,oo,oo,oo,oo,oo,oo,oo,oo,oo,oo,oo,oo,oo,oo,oo,oo,oo,oo,oo,oo,oo,oo,oo,oo,oo,oo,oo,oo,oo,oo,oo,oo,oo,oo,oo,oo,oo,oo]∧L=[(.b 0,.row (pdE past) tPrd 4 true),(.l 6,.box [.p (.str s.pre),.p (int s.dig),.p (int s.ord),.p (.str s.slip),.p (.str s.skip),.p (int s.most)] 45),(.l 8,.box [.p (int 0),.p (.str []),.p (int 0),.p (.nl 7)] tPrd),(.l 11,.box [.p (int ((past.length:Nat)+1)),.p (.str s.pre),.p (int s.dig),.row (.l 157)] tPrd),(.l 157,.row (shE []) qbA 7 true),(.l 53,.map kv 9 4)]) (past.length) [.p (.sl 7 (itE il)),.p (.sl 3 (rlE l)),oo,.row (.b 0),oo,oo,.adr (.l 6) 0,oo,.adr (.l 8) 0,.p (int 0),oo,.adr (.l 11) 0,.p (int 0),.mp (.l 53),oo,oo,oo,oo,oo,oo,oo,oo,oo,oo,oo,oo,oo,oo,oo,oo,oo,oo,oo,oo,oo,oo,oo,oo,oo,oo,oo,oo,oo,oo,oo,oo,oo,oo,oo,oo,oo,oo,oo,oo,.row (.b 0),.p (int (past.length:Nat)),.p (int (0:Nat)),oo,oo,oo,oo,oo,oo,oo,oo,oo,oo,oo,oo,oo,oo,oo,oo,oo,oo,oo,oo,oo,oo,oo,oo,oo,oo,oo,oo,oo,oo,oo,oo,oo,oo,oo,oo,oo,oo,oo,oo,oo,oo,oo,oo,oo,oo,oo,oo,oo,oo,oo,oo,oo,oo,oo,oo,oo,oo,oo,oo,oo,oo,oo,oo,oo,oo,oo,oo,oo,oo,oo,oo,oo,oo,oo,oo,oo,oo,oo,oo,oo,oo,oo,oo,oo,oo,oo,oo,oo,oo,oo,oo,oo,oo,oo,oo,oo,oo,oo,oo,oo,oo,oo,oo,oo,oo,oo,oo,oo,oo,oo,oo,oo,oo,oo,oo,oo,oo,oo,oo,oo,oo,oo,oo,oo,oo,oo,oo,oo] [(.b 0,.row (pdE past) tPrd 4 true),(.l 6,.box [.p (.str s.pre),.p (int s.dig),.p (int s.ord),.p (.str s.slip),.p (.str s.skip),.p (int s.most)] 45),(.l 8,.box [.p (int 0),.p (.str []),.p (int 0),.p (.nl 7)] tPrd),(.l 11,.box [.p (int ((past.length:Nat)+1)),.p (.str s.pre),.p (int s.dig),.row (.l 157)] tPrd),(.l 157,.row (shE []) qbA 7 true),(.l 53,.map [] 9 4)] (by simp only [ZZ,WW,Ze,reduceCtorEq,zd,ze,zb,zf,za,qaQ];try trivial) (by simp only [qrb,ZZ,WW,Ze,reduceCtorEq,zd,ze,zb,zf,za]) ⟨0,[],0,by omega,by omega,rfl,qre,rfl,rfl⟩ ?_
 rintro n fr L ⟨a,kv,nn,ha,rfl,hn,hkv,rfl,rfl⟩
 simp only [qez,ZZ,WW,Ze,reduceCtorEq,zd,ze,zb,zf,za]
 refine br ?_ ?_
 ·intro h
  have hlt:a < past.length:=by have:=of_decide_eq_true h;omega
  obtain ⟨p,hp⟩:∃ p,past[a]?=some p:=⟨_,List.getElem?_eq_getElem hlt⟩
  have hg:=qiD hp
  have hpm:=List.mem_of_getElem? hp
  have hpB1:=hpB p hpm
  have hto:=qpH hd0 p hpm
  have hsl:=hpB1.shs
  simp only [pdV] at hg
  have htk:past.take (a+1)=past.take a++[p]:=by rw [List.take_succ_eq_append_getElem hlt,(List.getElem?_eq_some_iff.1 hp).2]
  have hnb:=qmA (past:=past.take a) (fun q hq x hx=>(qpH hd0 q (List.mem_of_mem_take hq) x hx).2.2) s.pre
  simp only [ZZ,WW,Ze,reduceCtorEq,zd,ze,zb,zf,za,hg,qaQ,qah]
  ((repeat' (with_reducible apply And.intro))<;>try ((exact sc_)))
  refine qad (fun n fr L=>∃ (b:Nat) (kw:List (List UInt8×PV)) (mm:Int),b≤p.shs.length∧n=p.shs.length - b∧(mm=(pagT (past.take a) s.pre++(if p.pre=s.pre then (p.shs.take b).map (·.to_) else [])).foldl max 0)∧(qrf kw (idsT (past.take a)++(p.shs.take b).map (·.id)))∧fr=[.p (.sl 7 (itE il)),.p (.sl 3 (rlE l)),oo,.row (.b 0),oo,oo,.adr (.l 6) 0,oo,.adr (.l 8) 0,.p (int 0),oo,.adr (.l 11) 0,.p (int mm),.mp (.l 53),oo,.adr (.l 15) 0,oo,oo,oo,oo,oo,oo,oo,oo,oo,oo,oo,oo,oo,oo,oo,oo,oo,oo,oo,oo,oo,oo,oo,oo,oo,oo,oo,oo,oo,oo,oo,oo,oo,oo,oo,oo,oo,oo,.row (.b 0),.p (int (past.length:Nat)),.p (int (a:Nat)),oo,oo,oo,oo,.p (.sl 7 (shE p.shs)),.p (int (p.shs.length:Nat)),.p (int (b:Nat)),oo,oo,oo,oo,oo,oo,oo,oo,oo,oo,oo,oo,oo,oo,oo,oo,oo,oo,oo,oo,oo,oo,oo,oo,oo,oo,oo,oo,oo,oo,oo,oo,oo,oo,oo,oo,oo,oo,oo,oo,oo,oo,oo,oo,oo,oo,oo,oo,oo,oo,oo,oo,oo,oo,oo,oo,oo,oo,oo,oo,oo,oo,oo,oo,oo,oo,oo,oo,oo,oo,oo,oo,oo,oo,oo,oo,oo,oo,oo,oo,oo,oo,oo,oo,oo,oo,oo,oo,oo,oo,oo,oo,oo,oo,oo,oo,oo,oo,oo,oo,oo,oo,oo,oo,oo,oo,oo,oo,oo,oo,oo,oo,oo,oo,oo,oo,oo,oo,oo,oo,oo,oo]∧L=[(.b 0,.row (pdE past) tPrd 4 true),(.l 6,.box [.p (.str s.pre),.p (int s.dig),.p (int s.ord),.p (.str s.slip),.p (.str s.skip),.p (int s.most)] 45),(.l 8,.box [.p (int 0),.p (.str []),.p (int 0),.p (.nl 7)] tPrd),(.l 11,.box [.p (int ((past.length:Nat)+1)),.p (.str s.pre),.p (int s.dig),.row (.l 157)] tPrd),(.l 157,.row (shE []) qbA 7 true),(.l 53,.map kw 9 4),(.l 15,.box [.p (int p.no),.p (.str p.pre),.p (int p.dig),.p (.sl 7 (shE p.shs))] tPrd)]) (p.shs.length) [.p (.sl 7 (itE il)),.p (.sl 3 (rlE l)),oo,.row (.b 0),oo,oo,.adr (.l 6) 0,oo,.adr (.l 8) 0,.p (int 0),oo,.adr (.l 11) 0,.p (int nn),.mp (.l 53),oo,.adr (.l 15) 0,oo,oo,oo,oo,oo,oo,oo,oo,oo,oo,oo,oo,oo,oo,oo,oo,oo,oo,oo,oo,oo,oo,oo,oo,oo,oo,oo,oo,oo,oo,oo,oo,oo,oo,oo,oo,oo,oo,.row (.b 0),.p (int (past.length:Nat)),.p (int (a:Nat)),oo,oo,oo,oo,.p (.sl 7 (shE p.shs)),.p (int (p.shs.length:Nat)),.p (int (0:Nat)),oo,oo,oo,oo,oo,oo,oo,oo,oo,oo,oo,oo,oo,oo,oo,oo,oo,oo,oo,oo,oo,oo,oo,oo,oo,oo,oo,oo,oo,oo,oo,oo,oo,oo,oo,oo,oo,oo,oo,oo,oo,oo,oo,oo,oo,oo,oo,oo,oo,oo,oo,oo,oo,oo,oo,oo,oo,oo,oo,oo,oo,oo,oo,oo,oo,oo,oo,oo,oo,oo,oo,oo,oo,oo,oo,oo,oo,oo,oo,oo,oo,oo,oo,oo,oo,oo,oo,oo,oo,oo,oo,oo,oo,oo,oo,oo,oo,oo,oo,oo,oo,oo,oo,oo,oo,oo,oo,oo,oo,oo,oo,oo,oo,oo,oo,oo,oo,oo,oo,oo,oo,oo] [(.b 0,.row (pdE past) tPrd 4 true),(.l 6,.box [.p (.str s.pre),.p (int s.dig),.p (int s.ord),.p (.str s.slip),.p (.str s.skip),.p (int s.most)] 45),(.l 8,.box [.p (int 0),.p (.str []),.p (int 0),.p (.nl 7)] tPrd),(.l 11,.box [.p (int ((past.length:Nat)+1)),.p (.str s.pre),.p (int s.dig),.row (.l 157)] tPrd),(.l 157,.row (shE []) qbA 7 true),(.l 53,.map kv 9 4),(.l 15,.box [.p (int p.no),.p (.str p.pre),.p (int p.dig),.p (.sl 7 (shE p.shs))] tPrd)] (by simp only [ZZ,WW,Ze,reduceCtorEq,zd,ze,zb,zf,za,qah];try trivial) (by simp only [qrb,ZZ,WW,Ze,reduceCtorEq,zd,ze,zb,zf,za]) ⟨0,kv,nn,by omega,by omega,(by rw [hn];simp [qoN]),(by simpa using hkv),rfl,rfl⟩ ?_
  rintro n fr L ⟨b,kw,mm,hb,rfl,hm2,hkw,rfl,rfl⟩
  simp only [qey,ZZ,WW,Ze,reduceCtorEq,zd,ze,zb,zf,za]
  refine br ?_ ?_
  ·intro h2
   have hbl:b < p.shs.length:=by have:=of_decide_eq_true h2;omega
   obtain ⟨x,hx⟩:∃ x,p.shs[b]?=some x:=⟨_,List.getElem?_eq_getElem hbl⟩
   have hgx:=qfb hx
   simp only [shV] at hgx
   have hbk:p.shs.take (b+1)=p.shs.take b++[x]:=by rw [List.take_succ_eq_append_getElem hbl,(List.getElem?_eq_some_iff.1 hx).2]
   have hpu:=qrd hkw x.id
   rw [List.append_assoc,show (p.shs.take b).map (·.id)++[x.id]=(p.shs.take (b+1)).map (·.id) from by rw [hbk];simp] at hpu
   simp only [ZZ,WW,Ze,reduceCtorEq,zd,ze,zb,zf,za,hgx,qah]
   ((repeat' (with_reducible apply And.intro))<;>try ((exact sc_)))
   refine br ?_ ?_
   ·intro h3
    have h4:p.pre=s.pre:=by simpa using h3
    have hm3:max mm x.to_=(pagT (past.take a) s.pre++(if p.pre=s.pre then (p.shs.take (b+1)).map (·.to_) else [])).foldl max 0:=by
     rw [if_pos h4] at hm2 ⊢
     rw [hbk,List.map_append,← List.append_assoc,hm2]
     exact (qr4 _ _ _).symm
    simp only [ZZ,WW,Ze,reduceCtorEq,zd,ze,zb,zf,za]
    refine qc4 _ _ ReOk.refl ?_
    simp only [ZZ,WW,Ze,reduceCtorEq,zd,ze,zb,zf,za]
    ((repeat' (with_reducible apply And.intro))<;>try ((exact sc_)))
    refine qac (p.shs.length - (b+1)) [.p (.sl 7 (itE il)),.p (.sl 3 (rlE l)),oo,.row (.b 0),oo,oo,.adr (.l 6) 0,oo,.adr (.l 8) 0,.p (int 0),oo,.adr (.l 11) 0,.p (int (max mm x.to_)),.mp (.l 53),oo,.adr (.l 15) 0,oo,oo,oo,oo,oo,oo,oo,oo,oo,oo,oo,oo,oo,oo,oo,oo,oo,oo,oo,oo,oo,oo,oo,oo,oo,oo,oo,oo,oo,oo,oo,oo,oo,oo,oo,oo,oo,oo,.row (.b 0),.p (int (past.length:Nat)),.p (int (a:Nat)),oo,oo,oo,oo,.p (.sl 7 (shE p.shs)),.p (int (p.shs.length:Nat)),.p (int ((b+1):Nat)),oo,oo,oo,oo,oo,oo,oo,oo,oo,oo,oo,oo,oo,oo,oo,oo,oo,oo,oo,oo,oo,oo,oo,oo,oo,oo,oo,oo,oo,oo,oo,oo,oo,oo,oo,oo,oo,oo,oo,oo,oo,oo,oo,oo,oo,oo,oo,oo,oo,oo,oo,oo,oo,oo,oo,oo,oo,oo,oo,oo,oo,oo,oo,oo,oo,oo,oo,oo,oo,oo,oo,oo,oo,oo,oo,oo,oo,oo,oo,oo,oo,oo,oo,oo,oo,oo,oo,oo,oo,oo,oo,oo,oo,oo,oo,oo,oo,oo,oo,oo,oo,oo,oo,oo,oo,oo,oo,oo,oo,oo,oo,oo,oo,oo,oo,oo,oo,oo,oo,oo,oo,oo] [(.b 0,.row (pdE past) tPrd 4 true),(.l 6,.box [.p (.str s.pre),.p (int s.dig),.p (int s.ord),.p (.str s.slip),.p (.str s.skip),.p (int s.most)] 45),(.l 8,.box [.p (int 0),.p (.str []),.p (int 0),.p (.nl 7)] tPrd),(.l 11,.box [.p (int ((past.length:Nat)+1)),.p (.str s.pre),.p (int s.dig),.row (.l 157)] tPrd),(.l 157,.row (shE []) qbA 7 true),(.l 53,.map (mpS kw x.id (.bool true)) 9 4),(.l 15,.box [.p (int p.no),.p (.str p.pre),.p (int p.dig),.p (.sl 7 (shE p.shs))] tPrd)] (by omega) (by (simp only [ZZ,WW,Ze,reduceCtorEq,zd,ze,zb,zf,za];try trivial)) (by (simp only [ZZ,WW,Ze,reduceCtorEq,zd,ze,zb,zf,za];try trivial)) ⟨b+1,mpS kw x.id (.bool true),max mm x.to_,by omega,rfl,hm3,hpu,rfl,rfl⟩
   ·intro h3
    have h4:¬ p.pre=s.pre:=by simpa using h3
    simp only [ZZ,WW,Ze,reduceCtorEq,zd,ze,zb,zf,za]
    refine qc4 _ _ ReOk.refl ?_
    simp only [ZZ,WW,Ze,reduceCtorEq,zd,ze,zb,zf,za]
    ((repeat' (with_reducible apply And.intro))<;>try ((exact sc_)))
    refine qac (p.shs.length - (b+1)) [.p (.sl 7 (itE il)),.p (.sl 3 (rlE l)),oo,.row (.b 0),oo,oo,.adr (.l 6) 0,oo,.adr (.l 8) 0,.p (int 0),oo,.adr (.l 11) 0,.p (int mm),.mp (.l 53),oo,.adr (.l 15) 0,oo,oo,oo,oo,oo,oo,oo,oo,oo,oo,oo,oo,oo,oo,oo,oo,oo,oo,oo,oo,oo,oo,oo,oo,oo,oo,oo,oo,oo,oo,oo,oo,oo,oo,oo,oo,oo,oo,.row (.b 0),.p (int (past.length:Nat)),.p (int (a:Nat)),oo,oo,oo,oo,.p (.sl 7 (shE p.shs)),.p (int (p.shs.length:Nat)),.p (int ((b+1):Nat)),oo,oo,oo,oo,oo,oo,oo,oo,oo,oo,oo,oo,oo,oo,oo,oo,oo,oo,oo,oo,oo,oo,oo,oo,oo,oo,oo,oo,oo,oo,oo,oo,oo,oo,oo,oo,oo,oo,oo,oo,oo,oo,oo,oo,oo,oo,oo,oo,oo,oo,oo,oo,oo,oo,oo,oo,oo,oo,oo,oo,oo,oo,oo,oo,oo,oo,oo,oo,oo,oo,oo,oo,oo,oo,oo,oo,oo,oo,oo,oo,oo,oo,oo,oo,oo,oo,oo,oo,oo,oo,oo,oo,oo,oo,oo,oo,oo,oo,oo,oo,oo,oo,oo,oo,oo,oo,oo,oo,oo,oo,oo,oo,oo,oo,oo,oo,oo,oo,oo,oo,oo,oo] [(.b 0,.row (pdE past) tPrd 4 true),(.l 6,.box [.p (.str s.pre),.p (int s.dig),.p (int s.ord),.p (.str s.slip),.p (.str s.skip),.p (int s.most)] 45),(.l 8,.box [.p (int 0),.p (.str []),.p (int 0),.p (.nl 7)] tPrd),(.l 11,.box [.p (int ((past.length:Nat)+1)),.p (.str s.pre),.p (int s.dig),.row (.l 157)] tPrd),(.l 157,.row (shE []) qbA 7 true),(.l 53,.map (mpS kw x.id (.bool true)) 9 4),(.l 15,.box [.p (int p.no),.p (.str p.pre),.p (int p.dig),.p (.sl 7 (shE p.shs))] tPrd)] (by omega) (by (simp only [ZZ,WW,Ze,reduceCtorEq,zd,ze,zb,zf,za];try trivial)) (by (simp only [ZZ,WW,Ze,reduceCtorEq,zd,ze,zb,zf,za];try trivial)) ⟨b+1,mpS kw x.id (.bool true),mm,by omega,rfl,(by rw [if_neg h4] at hm2 ⊢;exact hm2),hpu,rfl,rfl⟩
  intro h2
  have hbl:p.shs.length≤b:=by have:=of_decide_eq_false h2;omega
  rw [List.take_of_length_le hbl] at hm2 hkw
  simp only [ZZ,WW,Ze,reduceCtorEq,zd,ze,zb,zf,za]
  ((repeat' (with_reducible apply And.intro))<;>try ((exact sc_)))
  refine qac (past.length - (a+1)) [.p (.sl 7 (itE il)),.p (.sl 3 (rlE l)),oo,.row (.b 0),oo,oo,.adr (.l 6) 0,oo,.adr (.l 8) 0,.p (int 0),oo,.adr (.l 11) 0,.p (int (mm)),.mp (.l 53),oo,oo,oo,oo,oo,oo,oo,oo,oo,oo,oo,oo,oo,oo,oo,oo,oo,oo,oo,oo,oo,oo,oo,oo,oo,oo,oo,oo,oo,oo,oo,oo,oo,oo,oo,oo,oo,oo,oo,oo,.row (.b 0),.p (int (past.length:Nat)),.p (int ((a+1):Nat)),oo,oo,oo,oo,oo,oo,oo,oo,oo,oo,oo,oo,oo,oo,oo,oo,oo,oo,oo,oo,oo,oo,oo,oo,oo,oo,oo,oo,oo,oo,oo,oo,oo,oo,oo,oo,oo,oo,oo,oo,oo,oo,oo,oo,oo,oo,oo,oo,oo,oo,oo,oo,oo,oo,oo,oo,oo,oo,oo,oo,oo,oo,oo,oo,oo,oo,oo,oo,oo,oo,oo,oo,oo,oo,oo,oo,oo,oo,oo,oo,oo,oo,oo,oo,oo,oo,oo,oo,oo,oo,oo,oo,oo,oo,oo,oo,oo,oo,oo,oo,oo,oo,oo,oo,oo,oo,oo,oo,oo,oo,oo,oo,oo,oo,oo,oo,oo,oo,oo,oo,oo,oo,oo,oo,oo,oo,oo,oo,oo] [(.b 0,.row (pdE past) tPrd 4 true),(.l 6,.box [.p (.str s.pre),.p (int s.dig),.p (int s.ord),.p (.str s.slip),.p (.str s.skip),.p (int s.most)] 45),(.l 8,.box [.p (int 0),.p (.str []),.p (int 0),.p (.nl 7)] tPrd),(.l 11,.box [.p (int ((past.length:Nat)+1)),.p (.str s.pre),.p (int s.dig),.row (.l 157)] tPrd),(.l 157,.row (shE []) qbA 7 true),(.l 53,.map (kw) 9 4)] (by omega) (by (simp only [ZZ,WW,Ze,reduceCtorEq,zd,ze,zb,zf,za];try trivial)) (by (simp only [ZZ,WW,Ze,reduceCtorEq,zd,ze,zb,zf,za];try trivial)) ⟨a+1,kw,mm,by omega,rfl,(by rw [hm2,htk,qoN,pagT,pagT,List.flatMap_append];simp),(by rw [htk,idsT,List.flatMap_append];simpa [idsT] using hkw),rfl,rfl⟩
 intro h
 have hal:past.length≤a:=by have:=of_decide_eq_false h;omega
 rw [List.take_of_length_le hal] at hn hkv
 obtain ⟨nb1,nb2⟩:=qmA (fun q hq x hx=>(qpH hd0 q hq x hx).2.2) s.pre
 rw [← hn] at nb1 nb2
 clear h hal
 simp only [ZZ,WW,Ze,reduceCtorEq,zd,ze,zb,zf,za]
 refine use1 (qpg il hP h12 l hl s.ord ho) rfl (.inl rfl) ?_
 obtain ⟨F,hF⟩:∃ F,chS il l s.ord=F:=⟨_,rfl⟩
 have hFl:F.length≤20:=by rw [← hF];exact Nat.le_trans (qp1 il l s.ord) hP.1
 have hpr:prsM il l s.ord=F.flatMap (famP il):=by rw [prsM,hF]
 rw [hF]
 clear hF
 simp only [ZZ,WW,Ze,reduceCtorEq,zd,ze,zb,zf,za,List.length_map]
 refine qad (fun n fr L=>∃ (c:Nat) (D:List (List UInt8×List UInt8)),c≤F.length∧n=F.length - c∧(D=(F.take c).flatMap (famP il))∧fr=[.p (.sl 7 (itE il)),.p (.sl 3 (rlE l)),oo,.row (.b 0),oo,oo,.adr (.l 6) 0,oo,.adr (.l 8) 0,.p (int 0),oo,.adr (.l 11) 0,.p (int (nn+totM il l s D)),.mp (.l 53),oo,oo,oo,oo,.p (int nn),.p (.bool (twM past D)),oo,oo,oo,oo,oo,oo,oo,oo,oo,oo,oo,oo,oo,oo,oo,oo,oo,oo,oo,oo,oo,oo,oo,oo,oo,oo,oo,oo,oo,oo,oo,oo,oo,oo,oo,oo,oo,oo,oo,oo,oo,oo,oo,oo,oo,oo,oo,oo,oo,oo,oo,oo,oo,oo,oo,oo,oo,oo,oo,oo,oo,oo,oo,oo,oo,oo,.p (.sl 2 (F.map (encF il))),.p (int (F.length:Nat)),.p (int (c:Nat)),oo,oo,oo,oo,oo,oo,oo,oo,oo,oo,oo,oo,oo,oo,oo,oo,oo,oo,oo,oo,oo,oo,oo,oo,oo,oo,oo,oo,oo,oo,oo,oo,oo,oo,oo,oo,oo,oo,oo,oo,oo,oo,oo,oo,oo,oo,oo,oo,oo,oo,oo,oo,oo,oo,oo,oo,oo,oo,oo,oo,oo,oo,oo,oo,oo,oo,oo,oo,oo,oo,oo,oo,oo,oo,oo,oo,oo,oo,oo,oo,oo,oo,oo,oo,oo,oo,oo,oo,oo,oo,oo,oo,oo,oo,oo,oo,oo]∧L=[(.b 0,.row (pdE past) tPrd 4 true),(.l 6,.box [.p (.str s.pre),.p (int s.dig),.p (int s.ord),.p (.str s.slip),.p (.str s.skip),.p (int s.most)] 45),(.l 8,.box [.p (int 0),.p (.str []),.p (int 0),.p (.nl 7)] tPrd),(.l 11,.box [.p (int ((past.length:Nat)+1)),.p (.str s.pre),.p (int s.dig),.row (.l 157)] tPrd),(.l 157,.row (shE (shsM il l s nn D)) qbA 7 true),(.l 53,.map kv 9 4)]) (F.length) [.p (.sl 7 (itE il)),.p (.sl 3 (rlE l)),oo,.row (.b 0),oo,oo,.adr (.l 6) 0,oo,.adr (.l 8) 0,.p (int 0),oo,.adr (.l 11) 0,.p (int (nn+totM il l s [])),.mp (.l 53),oo,oo,oo,oo,.p (int nn),.p (.bool (twM past [])),oo,oo,oo,oo,oo,oo,oo,oo,oo,oo,oo,oo,oo,oo,oo,oo,oo,oo,oo,oo,oo,oo,oo,oo,oo,oo,oo,oo,oo,oo,oo,oo,oo,oo,oo,oo,oo,oo,oo,oo,oo,oo,oo,oo,oo,oo,oo,oo,oo,oo,oo,oo,oo,oo,oo,oo,oo,oo,oo,oo,oo,oo,oo,oo,oo,oo,.p (.sl 2 (F.map (encF il))),.p (int (F.length:Nat)),.p (int (0:Nat)),oo,oo,oo,oo,oo,oo,oo,oo,oo,oo,oo,oo,oo,oo,oo,oo,oo,oo,oo,oo,oo,oo,oo,oo,oo,oo,oo,oo,oo,oo,oo,oo,oo,oo,oo,oo,oo,oo,oo,oo,oo,oo,oo,oo,oo,oo,oo,oo,oo,oo,oo,oo,oo,oo,oo,oo,oo,oo,oo,oo,oo,oo,oo,oo,oo,oo,oo,oo,oo,oo,oo,oo,oo,oo,oo,oo,oo,oo,oo,oo,oo,oo,oo,oo,oo,oo,oo,oo,oo,oo,oo,oo,oo,oo,oo,oo,oo] [(.b 0,.row (pdE past) tPrd 4 true),(.l 6,.box [.p (.str s.pre),.p (int s.dig),.p (int s.ord),.p (.str s.slip),.p (.str s.skip),.p (int s.most)] 45),(.l 8,.box [.p (int 0),.p (.str []),.p (int 0),.p (.nl 7)] tPrd),(.l 11,.box [.p (int ((past.length:Nat)+1)),.p (.str s.pre),.p (int s.dig),.row (.l 157)] tPrd),(.l 157,.row (shE (shsM il l s nn [])) qbA 7 true),(.l 53,.map kv 9 4)] (by simp only [totM,Int.add_zero,twM,List.any_nil,List.length_map,ZZ,WW,Ze,reduceCtorEq,zd,ze,zb,zf,za];try trivial) (by simp only [shsM,ZZ,WW,Ze,reduceCtorEq,zd,ze,zb,zf,za]) ⟨0,[],by omega,by omega,rfl,rfl,rfl⟩ ?_
 rintro n fr L ⟨c,D,hc,rfl,hD,rfl,rfl⟩
 simp only [qex,ZZ,WW,Ze,reduceCtorEq,zd,ze,zb,zf,za]
 refine br ?_ ?_
 ·intro h
  have hlt:c < F.length:=by have:=of_decide_eq_true h;omega
  obtain ⟨t,ht⟩:∃ t,F[c]?=some t:=⟨_,List.getElem?_eq_getElem hlt⟩
  have hg:(F.map (encF il)).getD c []=encF il t:=qaH ht
  have htk:F.take (c+1)=F.take c++[t]:=by rw [List.take_succ_eq_append_getElem hlt,(List.getElem?_eq_some_iff.1 ht).2]
  have hIl:(t :: kidsF il t).length≤21:=by have:=qgL il t;have:=hP.1;simp;omega
  have hfp:famP il t=(t :: kidsF il t).map fun i=>(t,i):=rfl
  simp only [encF] at hg
  generalize t :: kidsF il t=I at hg hIl hfp
  have hDl:D.length≤c * 21:=by
   rw [hD]
   have h1:=qk3 (famP il) 21 (F.take c) fun x _=>Nat.le_trans (qpT il x) (by have:=hP.1;omega)
   rw [List.length_take] at h1
   have:min c F.length=c:=by omega
   rw [this] at h1
   exact h1
  have hDl2:D.length≤420:=Nat.le_trans hDl (by omega)
  simp only [ZZ,WW,Ze,reduceCtorEq,zd,ze,zb,zf,za,hg,List.length_map,qal]
  ((repeat' (with_reducible apply And.intro))<;>try ((exact sc_)))
  refine qad (fun n fr L=>∃ (d:Nat) (D2:List (List UInt8×List UInt8)),d≤I.length∧n=I.length - d∧(D2=D++(I.take d).map (fun i=>(t,i)))∧fr=[.p (.sl 7 (itE il)),.p (.sl 3 (rlE l)),oo,.row (.b 0),oo,oo,.adr (.l 6) 0,oo,.adr (.l 8) 0,.p (int 0),oo,.adr (.l 11) 0,.p (int (nn+totM il l s D2)),.mp (.l 53),oo,oo,oo,oo,.p (int nn),.p (.bool (twM past D2)),oo,.adr (.l 21) 0,oo,oo,oo,oo,oo,oo,oo,oo,oo,oo,oo,oo,oo,oo,oo,oo,oo,oo,oo,oo,oo,oo,oo,oo,oo,oo,oo,oo,oo,oo,oo,oo,oo,oo,oo,oo,oo,oo,oo,oo,oo,oo,oo,oo,oo,oo,oo,oo,oo,oo,oo,oo,oo,oo,oo,oo,oo,oo,oo,oo,oo,oo,oo,oo,.p (.sl 2 (F.map (encF il))),.p (int (F.length:Nat)),.p (int (c:Nat)),oo,oo,oo,oo,.p (.sl 1 (strE I)),.p (int (I.length:Nat)),.p (int (d:Nat)),oo,oo,oo,oo,oo,oo,oo,oo,oo,oo,oo,oo,oo,oo,oo,oo,oo,oo,oo,oo,oo,oo,oo,oo,oo,oo,oo,oo,oo,oo,oo,oo,oo,oo,oo,oo,oo,oo,oo,oo,oo,oo,oo,oo,oo,oo,oo,oo,oo,oo,oo,oo,oo,oo,oo,oo,oo,oo,oo,oo,oo,oo,oo,oo,oo,oo,oo,oo,oo,oo,oo,oo,oo,oo,oo,oo,oo,oo,oo,oo,oo,oo,oo,oo,oo,oo,oo,oo,oo,oo]∧L=[(.b 0,.row (pdE past) tPrd 4 true),(.l 6,.box [.p (.str s.pre),.p (int s.dig),.p (int s.ord),.p (.str s.slip),.p (.str s.skip),.p (int s.most)] 45),(.l 8,.box [.p (int 0),.p (.str []),.p (int 0),.p (.nl 7)] tPrd),(.l 11,.box [.p (int ((past.length:Nat)+1)),.p (.str s.pre),.p (int s.dig),.row (.l 157)] tPrd),(.l 157,.row (shE (shsM il l s nn D2)) qbA 7 true),(.l 53,.map kv 9 4),(.l 21,.box [.p (.str t),.p (.sl 1 (strE I))] 119)]) (I.length) [.p (.sl 7 (itE il)),.p (.sl 3 (rlE l)),oo,.row (.b 0),oo,oo,.adr (.l 6) 0,oo,.adr (.l 8) 0,.p (int 0),oo,.adr (.l 11) 0,.p (int (nn+totM il l s D)),.mp (.l 53),oo,oo,oo,oo,.p (int nn),.p (.bool (twM past D)),oo,.adr (.l 21) 0,oo,oo,oo,oo,oo,oo,oo,oo,oo,oo,oo,oo,oo,oo,oo,oo,oo,oo,oo,oo,oo,oo,oo,oo,oo,oo,oo,oo,oo,oo,oo,oo,oo,oo,oo,oo,oo,oo,oo,oo,oo,oo,oo,oo,oo,oo,oo,oo,oo,oo,oo,oo,oo,oo,oo,oo,oo,oo,oo,oo,oo,oo,oo,oo,.p (.sl 2 (F.map (encF il))),.p (int (F.length:Nat)),.p (int (c:Nat)),oo,oo,oo,oo,.p (.sl 1 (strE I)),.p (int (I.length:Nat)),.p (int (0:Nat)),oo,oo,oo,oo,oo,oo,oo,oo,oo,oo,oo,oo,oo,oo,oo,oo,oo,oo,oo,oo,oo,oo,oo,oo,oo,oo,oo,oo,oo,oo,oo,oo,oo,oo,oo,oo,oo,oo,oo,oo,oo,oo,oo,oo,oo,oo,oo,oo,oo,oo,oo,oo,oo,oo,oo,oo,oo,oo,oo,oo,oo,oo,oo,oo,oo,oo,oo,oo,oo,oo,oo,oo,oo,oo,oo,oo,oo,oo,oo,oo,oo,oo,oo,oo,oo,oo,oo,oo,oo,oo] [(.b 0,.row (pdE past) tPrd 4 true),(.l 6,.box [.p (.str s.pre),.p (int s.dig),.p (int s.ord),.p (.str s.slip),.p (.str s.skip),.p (int s.most)] 45),(.l 8,.box [.p (int 0),.p (.str []),.p (int 0),.p (.nl 7)] tPrd),(.l 11,.box [.p (int ((past.length:Nat)+1)),.p (.str s.pre),.p (int s.dig),.row (.l 157)] tPrd),(.l 157,.row (shE (shsM il l s nn D)) qbA 7 true),(.l 53,.map kv 9 4),(.l 21,.box [.p (.str t),.p (.sl 1 (strE I))] 119)] (by simp only [ZZ,WW,Ze,reduceCtorEq,zd,ze,zb,zf,za,qal];try trivial) (by (simp only [ZZ,WW,Ze,reduceCtorEq,zd,ze,zb,zf,za];try trivial)) ⟨0,D,by omega,by omega,(by simp),rfl,rfl⟩ ?_
  rintro n fr L ⟨d,D2,hd,rfl,hD2,rfl,rfl⟩
  simp only [qew,ZZ,WW,Ze,reduceCtorEq,zd,ze,zb,zf,za]
  refine br ?_ ?_
  ·intro h2
   have hdl:d < I.length:=by have:=of_decide_eq_true h2;omega
   obtain ⟨id,hid⟩:∃ id,I[d]?=some id:=⟨_,List.getElem?_eq_getElem hdl⟩
   have hgi:=qic hid
   have hdk:I.take (d+1)=I.take d++[id]:=by rw [List.take_succ_eq_append_getElem hdl,(List.getElem?_eq_some_iff.1 hid).2]
   have hD3:D2++[(t,id)]=D++(I.take (d+1)).map (fun i=>(t,i)):=by rw [hD2,hdk,List.map_append,List.append_assoc];rfl
   have hD2l:D2.length≤450:=by rw [hD2,List.length_append,List.length_map,List.length_take];omega
   have tb1:=qlW hP l hs D2
   have tb2:=qlV il l s D2
   have hkn:=hkv id
   rw [qtJ] at hkn
   have etw:(twM past D2 || qiy past id)=twM past (D2++[(t,id)]):=by simp [twM,List.any_append]
   have hRo:=qnl (E:=E0) l hl id
   simp only [rlV] at hRo
   obtain ⟨g1,g2,g3⟩:=qrv hP l hs id
   have e12:nn+totM il l s D2+((pgR il l s id).length:Nat)=nn+totM il l s (D2++[(t,id)]):=by rw [qne,Int.add_assoc]
   have esh:shE (shsM il l s nn D2)++[[.str id,.str t,int (kdR l id),int (nn+totM il l s D2+1),int (nn+totM il l s D2+((pgR il l s id).length:Nat)),.sl 1 (tbE (pgR il l s id)),int 1]]=shE (shsM il l s nn (D2++[(t,id)])):=by
    rw [qng,← qvI]
    rfl
   simp only [ZZ,WW,Ze,reduceCtorEq,zd,ze,zb,zf,za,hgi,qal,hkn]
   ((repeat' (with_reducible apply And.intro))<;>try ((exact sc_)))
   refine use1 hRo rfl (.inl rfl) ?_
   simp only [etw]
   by_cases w1:(rlOf l id).what=1
   ·obtain ⟨r1,r2⟩:=qrk hP id (rlOf l id).spans
    obtain ⟨t1,t2,t3⟩:=quG hP id
    have hIo:=qi8 (E:=E0) il hP id
    have hRd:=qpd (qjx (itOf il id)) (rlOf l id).spans (by omega) (qtg hb id) (by have:=qmu _ _ (Nat.le_refl _) t2;unfold visE at this;exact (Bool.and_eq_true_iff.1 this).2) (qqg hr0 id w1)
    have hPg:=quK (qqH (qc5 (qjx (itOf il id)) (rlOf l id).spans) (by omega) r2)
    have hpg:pgsF (qgD (qfr (qc5 (qjx (itOf il id)) (rlOf l id).spans)).1)=pgR il l s id:=by rw [pgR,if_pos w1]
    have hkd:kdR l id=1:=by rw [kdR,if_pos w1]
    rw [hpg] at hPg
    rw [hkd] at esh
    clear r1 r2 t1 t2 t3 hpg
    unfold qjx at hRd hPg
    simp only [itC] at hIo
    generalize itOf il id=y at *
    generalize qc5 y.2.2.2.2.2.2 (rlOf l id).spans=u at *
    generalize pgR il l s id=pg at *
    rw [e12] at esh
    simp only [sps] at hRd
    have w1d:decide ((rlOf l id).what=1)=true:=by rw [w1];rfl
    simp only [ZZ,WW,Ze,reduceCtorEq,zd,ze,zb,zf,za,w1d]
    refine ⟨qar (by omega) (by omega),?_⟩
    refine use1 hIo rfl (.inl rfl) ?_
    simp only [ZZ,WW,Ze,reduceCtorEq,zd,ze,zb,zf,za]
    refine use1 hRd rfl (.inl rfl) ?_
    simp only [ZZ,WW,Ze,reduceCtorEq,zd,ze,zb,zf,za]
    refine use1 hPg rfl (.inl rfl) ?_
    simp only [ZZ,WW,Ze,reduceCtorEq,zd,ze,zb,zf,za]
    refine qc4 _ _ ReOk.refl ?_
    simp only [ZZ,WW,Ze,reduceCtorEq,zd,ze,zb,zf,za,qaP,qah,qid,esh,e12]
    ((repeat' (with_reducible apply And.intro))<;>try ((exact sc_)))
    refine qac (I.length - (d+1)) [.p (.sl 7 (itE il)),.p (.sl 3 (rlE l)),oo,.row (.b 0),oo,oo,.adr (.l 6) 0,oo,.adr (.l 8) 0,.p (int 0),oo,.adr (.l 11) 0,.p (int (nn+totM il l s (D2++[(t,id)]))),.mp (.l 53),oo,oo,oo,oo,.p (int nn),.p (.bool (twM past (D2++[(t,id)]))),oo,.adr (.l 21) 0,oo,oo,oo,oo,oo,oo,oo,oo,oo,oo,oo,oo,oo,oo,oo,oo,oo,oo,oo,oo,oo,oo,oo,oo,oo,oo,oo,oo,oo,oo,oo,oo,oo,oo,oo,oo,oo,oo,oo,oo,oo,oo,oo,oo,oo,oo,oo,oo,oo,oo,oo,oo,oo,oo,oo,oo,oo,oo,oo,oo,oo,oo,oo,oo,.p (.sl 2 (F.map (encF il))),.p (int (F.length:Nat)),.p (int (c:Nat)),oo,oo,oo,oo,.p (.sl 1 (strE I)),.p (int (I.length:Nat)),.p (int ((d+1):Nat)),oo,oo,oo,oo,oo,oo,oo,oo,oo,oo,oo,oo,oo,oo,oo,oo,oo,oo,oo,oo,oo,oo,oo,oo,oo,oo,oo,oo,oo,oo,oo,oo,oo,oo,oo,oo,oo,oo,oo,oo,oo,oo,oo,oo,oo,oo,oo,oo,oo,oo,oo,oo,oo,oo,oo,oo,oo,oo,oo,oo,oo,oo,oo,oo,oo,oo,oo,oo,oo,oo,oo,oo,oo,oo,oo,oo,oo,oo,oo,oo,oo,oo,oo,oo,oo,oo,oo,oo,oo,oo] [(.b 0,.row (pdE past) tPrd 4 true),(.l 6,.box [.p (.str s.pre),.p (int s.dig),.p (int s.ord),.p (.str s.slip),.p (.str s.skip),.p (int s.most)] 45),(.l 8,.box [.p (int 0),.p (.str []),.p (int 0),.p (.nl 7)] tPrd),(.l 11,.box [.p (int ((past.length:Nat)+1)),.p (.str s.pre),.p (int s.dig),.row (.l 157)] tPrd),(.l 157,.row (shE (shsM il l s nn (D2++[(t,id)]))) qbA 7 true),(.l 53,.map kv 9 4),(.l 21,.box [.p (.str t),.p (.sl 1 (strE I))] 119)] (by omega) (by (simp only [ZZ,WW,Ze,reduceCtorEq,zd,ze,zb,zf,za];try trivial)) (by (simp only [ZZ,WW,Ze,reduceCtorEq,zd,ze,zb,zf,za];try trivial)) ⟨d+1,D2++[(t,id)],by omega,rfl,hD3,rfl,rfl⟩
   ·have w1d:decide ((rlOf l id).what=1)=false:=decide_eq_false w1
    by_cases w2:(rlOf l id).what=2
    ·have w2d:decide ((rlOf l id).what=2)=true:=by rw [w2];rfl
     have hpg:pgR il l s id=[[s.slip]]:=by rw [pgR,if_neg w1,if_pos w2]
     have hkd:kdR l id=2:=by rw [kdR,if_neg w1,if_pos w2]
     rw [hkd,hpg] at esh
     rw [hpg] at e12
     simp only [zi,zn,Nat.zero_add,tbE,strE,zj,zo] at esh e12
     rw [e12] at esh
     simp only [ZZ,WW,Ze,reduceCtorEq,zd,ze,zb,zf,za,w1d,w2d]
     refine ⟨qar (by omega) (by omega),?_⟩
     refine drg0 ?_
     simp only [ZZ,WW,Ze,reduceCtorEq,zd,ze,zb,zf,za]
     refine qc4 _ _ ReOk.refl ?_
     simp only [ZZ,WW,Ze,reduceCtorEq,zd,ze,zb,zf,za,qah,qid,esh,e12]
     ((repeat' (with_reducible apply And.intro))<;>try ((exact sc_)))
     refine qac (I.length - (d+1)) [.p (.sl 7 (itE il)),.p (.sl 3 (rlE l)),oo,.row (.b 0),oo,oo,.adr (.l 6) 0,oo,.adr (.l 8) 0,.p (int 0),oo,.adr (.l 11) 0,.p (int (nn+totM il l s (D2++[(t,id)]))),.mp (.l 53),oo,oo,oo,oo,.p (int nn),.p (.bool (twM past (D2++[(t,id)]))),oo,.adr (.l 21) 0,oo,oo,oo,oo,oo,oo,oo,oo,oo,oo,oo,oo,oo,oo,oo,oo,oo,oo,oo,oo,oo,oo,oo,oo,oo,oo,oo,oo,oo,oo,oo,oo,oo,oo,oo,oo,oo,oo,oo,oo,oo,oo,oo,oo,oo,oo,oo,oo,oo,oo,oo,oo,oo,oo,oo,oo,oo,oo,oo,oo,oo,oo,oo,oo,.p (.sl 2 (F.map (encF il))),.p (int (F.length:Nat)),.p (int (c:Nat)),oo,oo,oo,oo,.p (.sl 1 (strE I)),.p (int (I.length:Nat)),.p (int ((d+1):Nat)),oo,oo,oo,oo,oo,oo,oo,oo,oo,oo,oo,oo,oo,oo,oo,oo,oo,oo,oo,oo,oo,oo,oo,oo,oo,oo,oo,oo,oo,oo,oo,oo,oo,oo,oo,oo,oo,oo,oo,oo,oo,oo,oo,oo,oo,oo,oo,oo,oo,oo,oo,oo,oo,oo,oo,oo,oo,oo,oo,oo,oo,oo,oo,oo,oo,oo,oo,oo,oo,oo,oo,oo,oo,oo,oo,oo,oo,oo,oo,oo,oo,oo,oo,oo,oo,oo,oo,oo,oo,oo] [(.b 0,.row (pdE past) tPrd 4 true),(.l 6,.box [.p (.str s.pre),.p (int s.dig),.p (int s.ord),.p (.str s.slip),.p (.str s.skip),.p (int s.most)] 45),(.l 8,.box [.p (int 0),.p (.str []),.p (int 0),.p (.nl 7)] tPrd),(.l 11,.box [.p (int ((past.length:Nat)+1)),.p (.str s.pre),.p (int s.dig),.row (.l 157)] tPrd),(.l 157,.row (shE (shsM il l s nn (D2++[(t,id)]))) qbA 7 true),(.l 53,.map kv 9 4),(.l 21,.box [.p (.str t),.p (.sl 1 (strE I))] 119)] (by omega) (by (simp only [ZZ,WW,Ze,reduceCtorEq,zd,ze,zb,zf,za];try trivial)) (by (simp only [ZZ,WW,Ze,reduceCtorEq,zd,ze,zb,zf,za];try trivial)) ⟨d+1,D2++[(t,id)],by omega,rfl,hD3,rfl,rfl⟩
    ·have w2d:decide ((rlOf l id).what=2)=false:=decide_eq_false w2
     have hpg:pgR il l s id=[[s.skip]]:=by rw [pgR,if_neg w1,if_neg w2]
     have hkd:kdR l id=3:=by rw [kdR,if_neg w1,if_neg w2]
     rw [hkd,hpg] at esh
     rw [hpg] at e12
     simp only [zi,zn,Nat.zero_add,tbE,strE,zj,zo] at esh e12
     rw [e12] at esh
     simp only [ZZ,WW,Ze,reduceCtorEq,zd,ze,zb,zf,za,w1d,w2d]
     refine ⟨qar (by omega) (by omega),?_⟩
     refine drg0 ?_
     simp only [ZZ,WW,Ze,reduceCtorEq,zd,ze,zb,zf,za]
     refine qc4 _ _ ReOk.refl ?_
     simp only [ZZ,WW,Ze,reduceCtorEq,zd,ze,zb,zf,za,qah,qid,esh,e12]
     ((repeat' (with_reducible apply And.intro))<;>try ((exact sc_)))
     refine qac (I.length - (d+1)) [.p (.sl 7 (itE il)),.p (.sl 3 (rlE l)),oo,.row (.b 0),oo,oo,.adr (.l 6) 0,oo,.adr (.l 8) 0,.p (int 0),oo,.adr (.l 11) 0,.p (int (nn+totM il l s (D2++[(t,id)]))),.mp (.l 53),oo,oo,oo,oo,.p (int nn),.p (.bool (twM past (D2++[(t,id)]))),oo,.adr (.l 21) 0,oo,oo,oo,oo,oo,oo,oo,oo,oo,oo,oo,oo,oo,oo,oo,oo,oo,oo,oo,oo,oo,oo,oo,oo,oo,oo,oo,oo,oo,oo,oo,oo,oo,oo,oo,oo,oo,oo,oo,oo,oo,oo,oo,oo,oo,oo,oo,oo,oo,oo,oo,oo,oo,oo,oo,oo,oo,oo,oo,oo,oo,oo,oo,oo,.p (.sl 2 (F.map (encF il))),.p (int (F.length:Nat)),.p (int (c:Nat)),oo,oo,oo,oo,.p (.sl 1 (strE I)),.p (int (I.length:Nat)),.p (int ((d+1):Nat)),oo,oo,oo,oo,oo,oo,oo,oo,oo,oo,oo,oo,oo,oo,oo,oo,oo,oo,oo,oo,oo,oo,oo,oo,oo,oo,oo,oo,oo,oo,oo,oo,oo,oo,oo,oo,oo,oo,oo,oo,oo,oo,oo,oo,oo,oo,oo,oo,oo,oo,oo,oo,oo,oo,oo,oo,oo,oo,oo,oo,oo,oo,oo,oo,oo,oo,oo,oo,oo,oo,oo,oo,oo,oo,oo,oo,oo,oo,oo,oo,oo,oo,oo,oo,oo,oo,oo,oo,oo,oo] [(.b 0,.row (pdE past) tPrd 4 true),(.l 6,.box [.p (.str s.pre),.p (int s.dig),.p (int s.ord),.p (.str s.slip),.p (.str s.skip),.p (int s.most)] 45),(.l 8,.box [.p (int 0),.p (.str []),.p (int 0),.p (.nl 7)] tPrd),(.l 11,.box [.p (int ((past.length:Nat)+1)),.p (.str s.pre),.p (int s.dig),.row (.l 157)] tPrd),(.l 157,.row (shE (shsM il l s nn (D2++[(t,id)]))) qbA 7 true),(.l 53,.map kv 9 4),(.l 21,.box [.p (.str t),.p (.sl 1 (strE I))] 119)] (by omega) (by (simp only [ZZ,WW,Ze,reduceCtorEq,zd,ze,zb,zf,za];try trivial)) (by (simp only [ZZ,WW,Ze,reduceCtorEq,zd,ze,zb,zf,za];try trivial)) ⟨d+1,D2++[(t,id)],by omega,rfl,hD3,rfl,rfl⟩
  intro h2
  have hdl:I.length≤d:=by have:=of_decide_eq_false h2;omega
  rw [List.take_of_length_le hdl,← hfp] at hD2
  simp only [ZZ,WW,Ze,reduceCtorEq,zd,ze,zb,zf,za]
  ((repeat' (with_reducible apply And.intro))<;>try ((exact sc_)))
  refine qac (F.length - (c+1)) [.p (.sl 7 (itE il)),.p (.sl 3 (rlE l)),oo,.row (.b 0),oo,oo,.adr (.l 6) 0,oo,.adr (.l 8) 0,.p (int 0),oo,.adr (.l 11) 0,.p (int (nn+totM il l s (D2))),.mp (.l 53),oo,oo,oo,oo,.p (int nn),.p (.bool (twM past (D2))),oo,oo,oo,oo,oo,oo,oo,oo,oo,oo,oo,oo,oo,oo,oo,oo,oo,oo,oo,oo,oo,oo,oo,oo,oo,oo,oo,oo,oo,oo,oo,oo,oo,oo,oo,oo,oo,oo,oo,oo,oo,oo,oo,oo,oo,oo,oo,oo,oo,oo,oo,oo,oo,oo,oo,oo,oo,oo,oo,oo,oo,oo,oo,oo,oo,oo,.p (.sl 2 (F.map (encF il))),.p (int (F.length:Nat)),.p (int ((c+1):Nat)),oo,oo,oo,oo,oo,oo,oo,oo,oo,oo,oo,oo,oo,oo,oo,oo,oo,oo,oo,oo,oo,oo,oo,oo,oo,oo,oo,oo,oo,oo,oo,oo,oo,oo,oo,oo,oo,oo,oo,oo,oo,oo,oo,oo,oo,oo,oo,oo,oo,oo,oo,oo,oo,oo,oo,oo,oo,oo,oo,oo,oo,oo,oo,oo,oo,oo,oo,oo,oo,oo,oo,oo,oo,oo,oo,oo,oo,oo,oo,oo,oo,oo,oo,oo,oo,oo,oo,oo,oo,oo,oo,oo,oo,oo,oo,oo,oo] [(.b 0,.row (pdE past) tPrd 4 true),(.l 6,.box [.p (.str s.pre),.p (int s.dig),.p (int s.ord),.p (.str s.slip),.p (.str s.skip),.p (int s.most)] 45),(.l 8,.box [.p (int 0),.p (.str []),.p (int 0),.p (.nl 7)] tPrd),(.l 11,.box [.p (int ((past.length:Nat)+1)),.p (.str s.pre),.p (int s.dig),.row (.l 157)] tPrd),(.l 157,.row (shE (shsM il l s nn (D2))) qbA 7 true),(.l 53,.map kv 9 4)] (by omega) (by (simp only [ZZ,WW,Ze,reduceCtorEq,zd,ze,zb,zf,za];try trivial)) (by (simp only [ZZ,WW,Ze,reduceCtorEq,zd,ze,zb,zf,za];try trivial)) ⟨c+1,D2,by omega,rfl,by rw [hD2,htk,List.flatMap_append,hD];simp,rfl,rfl⟩
 intro h
 have hcl:F.length≤c:=by have:=of_decide_eq_false h;omega
 rw [List.take_of_length_le hcl,← hpr] at hD
 clear h hcl
 subst hD
 have tb1:=qlW hP l hs (prsM il l s.ord)
 have tb2:=qlV il l s (prsM il l s.ord)
 have tb3:=qml hP.1 l s.ord
 have hE2:pmE il l s past=if twM past (prsM il l s.ord)=true then 6 else if prsM il l s.ord=[] then 8 else if s.most < totM il l s (prsM il l s.ord) then 2 else if powF s.dig≤nn+totM il l s (prsM il l s.ord) then 12 else 0:=by
  rw [hE,hn]
  rfl
 have hfin:pmE il l s past=0→PV.tup [.agg [int ((past.length:Nat)+1),.str s.pre,int s.dig,.sl 7 (shE (shsM il l s nn (prsM il l s.ord)))],int 0]=.tup [.agg (pdV (pmP il l s past)),int (pmE il l s past)]:=by
  intro he
  unfold pmP
  rw [if_pos he,he,hn]
  rfl
 have hpw:=qkR hd9
 generalize prsM il l s.ord=D at *
 simp only [ZZ,WW,Ze,reduceCtorEq,zd,ze,zb,zf,za]
 refine br ?_ ?_
 ·intro h
  rw [if_pos h] at hE2
  simp only [ZZ,WW,Ze,reduceCtorEq,zd,ze,zb,zf,za]
  exact qjJ (pdE past) rfl ⟨rfl,hend _ (by decide) hE2⟩
 intro h
 rw [if_neg (by rw [h];simp)] at hE2
 clear h
 have e0:decide ((D.length:Int)=0)=decide (D=[]):=by
  rw [decide_eq_decide]
  cases D<;>simp
  omega
 simp only [ZZ,WW,Ze,reduceCtorEq,zd,ze,zb,zf,za,qah,qid,e0]
 refine br ?_ ?_
 ·intro h
  rw [if_pos (by simpa using h)] at hE2
  simp only [ZZ,WW,Ze,reduceCtorEq,zd,ze,zb,zf,za]
  exact qjJ (pdE past) rfl ⟨rfl,hend _ (by decide) hE2⟩
 intro h
 rw [if_neg (by simpa using h)] at hE2
 clear h e0
 have e1:decide (s.most < nn+totM il l s D - nn)=decide (s.most < totM il l s D):=decide_eq_decide.2 (by omega)
 simp only [ZZ,WW,Ze,reduceCtorEq,zd,ze,zb,zf,za,e1]
 refine ⟨qar (by omega) (by omega),?_⟩
 refine br ?_ ?_
 ·intro h
  rw [if_pos (by simpa using h)] at hE2
  simp only [ZZ,WW,Ze,reduceCtorEq,zd,ze,zb,zf,za]
  exact qjJ (pdE past) rfl ⟨rfl,hend _ (by decide) hE2⟩
 intro h
 rw [if_neg (by simpa using h)] at hE2
 clear h e1
 simp only [ZZ,WW,Ze,reduceCtorEq,zd,ze,zb,zf,za]
 refine use1 (qkL s.dig (by omega) (by omega)) rfl (.inl rfl) ?_
 simp only [ZZ,WW,Ze,reduceCtorEq,zd,ze,zb,zf,za]
 refine br ?_ ?_
 ·intro h
  rw [if_pos (by simpa using h)] at hE2
  simp only [ZZ,WW,Ze,reduceCtorEq,zd,ze,zb,zf,za]
  exact qjJ (pdE past) rfl ⟨rfl,hend _ (by decide) hE2⟩
 intro h
 rw [if_neg (by simpa using h)] at hE2
 clear h
 simp only [ZZ,WW,Ze,reduceCtorEq,zd,ze,zb,zf,za]
 rw [qa9]
 refine ⟨_,_,qbV (k:=.l 157) rfl,?_⟩
 simp only [ZZ,WW,Ze,reduceCtorEq,zd,ze,zb,zf,za]
 exact qjJ (pdE past) rfl ⟨rfl,hfin hE2⟩
end Go.Proofs.YtehfjlpenlffmaaGreatDoor
