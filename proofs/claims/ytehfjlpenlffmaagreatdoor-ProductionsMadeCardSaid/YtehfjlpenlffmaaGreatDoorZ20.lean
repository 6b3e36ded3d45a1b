import Derived.Test.YtehfjlpenlffmaaGreatDoorZ19
import Derived.Test.YtehfjlpenlffmaaGreatDoorZ16
import Derived.Test.YtehfjlpenlffmaaGreatDoorZ18
import Derived.Test.YtehfjlpenlffmaaGreatDoorZ7
set_option linter.unusedVariables false
set_option linter.unusedSimpArgs false
set_option linter.defProp false
namespace Go.Proofs.YtehfjlpenlffmaaGreatDoor
open Nat renaming le_refl→zM,le_trans→zT,reduceAdd→zd,reduceEqDiff→za,reduceLT→zf,reduceLeDiff→zb,reduceMul→ze,reduceSub→zu
open List renaming append_assoc→ym,append_nil→yo,cons_append→zl,getElem?_eq_getElem→zg,getElem?_eq_some_iff→zt,length_append→zK,length_cons→zi,length_drop→z8,length_map→zB,length_nil→zo,length_take→zP,map_append→zO,map_congr_left→zQ,map_cons→zk,map_map→z7,map_nil→zr,mem_of_getElem?→zx,nil_append→zm,replicate_succ→zh,replicate_zero→zj,take_of_length_le→zC,take_succ_eq_append_getElem→zy
open Option renaming map_some→zL
open Go.RowKit
def qgF:IC:=(sR [qT 16 .lss 15 14] (.seq (.cond (.t 16) .skip (.exit 0)) (.seq (.block 1 (sR [qX 17 1 13 15,qL 18 17,qM 7 18] (.reg [qM 19 5,qM 20 7,qO 21 (.call 311 [.t 20]),qO 22 (.app 9 1 16 (.t 19) (.t 21)),qM 5 22]))) (.reg [qB 23 .add 15 (cI 1),qM 15 23]))))
def qiP:IC:=(sR [qO 2 (.mov (.c (.nl 1)))] (sR [qM 9 0,qO 10 (.call 310 [.t 9]),qM 8 10,qO 11 (.ext 0 (.t 8)),qO 12 (.ext 1 (.t 8)),qM 3 11,qM 4 12] (sR [qO 5 (.nilr 9 1)] (.seq (sR [qM 13 3,qN 14 13,qO 15 (.mov (cI 0))] (.block 0 (.loop qgF))) (sR [qM 24 5,qM 2 24] .ret)))))
def qiF:List IRes:=[.t 2]
theorem qmI:chkF Tryz.prog Tryz.f259 qiP qiF 25=true:=by kernel_rfl
def qfv:IC:=(.seq (sR [qM 39 5,qM 40 6,qO 41 (.idx (.t 39) (.t 40)),qO 42 (.call 263 [.t 41]),qO 43 (.not (.t 42))] (.cond (.t 43) .skip (.exit 4))) (.block 5 (.reg [qM 44 6,qB 45 .sub 44 (cI 1),qM 6 45])))
def qfw:IC:=(.seq (sR [qM 14 5,qO 15 (.sln (.t 14)),qB 16 .gtr 15 (cI 80)] (.cond (.t 16) .skip (.exit 2))) (.block 3 (sR [qM 17 5,qO 18 (.ssl (.t 17) none (some (cI 81))),qO 19 (.call 262 [.t 18,.c (.str [32])]),qM 6 19] (.seq (sR [qM 20 6,qB 21 .gtr 20 (cI 0),qM 22 21,⟨some 23,.mov (.t 5),(some (22,true))⟩,⟨some 24,.mov (.t 6),(some (22,true))⟩,⟨some 25,.ssl (.t 23) none (some (.t 24)),(some (22,true))⟩,⟨some 26,.call 155 [.t 25,.c (.str [32])],(some (22,true))⟩,⟨some 27,.bin .neq (.t 26) (.c (.str [])),(some (22,true))⟩,qO 28 (.pick (.t 22) (.t 27) (.c (.bool false)))] (.cond (.t 28) (.seq (.drg [qM 29 3,qM 30 5,qM 31 6,qO 32 (.ssl (.t 30) none (some (.t 31))),qO 33 (.bsl 1 [.t 32]),qO 34 (.app 9 1 16 (.t 29) (.t 33)),qM 35 5,qM 36 6,qB 37 .add 36 (cI 1),qO 38 (.ssl (.t 35) (some (.t 37)) none),qM 3 34,qM 5 38]) (.exit 3)) .skip)) (sR [qO 6 (.mov (cI 80))] (.seq (.block 4 (.loop qfv)) (.drg [qM 46 3,qM 47 5,qM 48 6,qO 49 (.ssl (.t 47) none (some (.t 48))),qO 50 (.bsl 1 [.t 49]),qO 51 (.app 9 1 16 (.t 46) (.t 50)),qM 52 5,qM 53 6,qO 54 (.ssl (.t 52) (some (.t 53)) none),qM 3 51,qM 5 54])))))))
def qfx:IC:=(sR [qT 11 .lss 10 9] (.seq (.cond (.t 11) .skip (.exit 0)) (.seq (.block 1 (sR [qX 12 1 8 10,qL 13 12,qM 5 13] (.seq (.block 2 (.loop qfw)) (.reg [qM 55 3,qM 56 5,qO 57 (.bsl 1 [.t 56]),qO 58 (.app 9 1 16 (.t 55) (.t 57)),qM 3 58])))) (.reg [qB 59 .add 10 (cI 1),qM 10 59]))))
def qhx:IC:=(sR [qO 2 (.mov (.c (.nl 1)))] (sR [qO 3 (.nilr 9 1)] (.seq (sR [qM 7 0,qO 8 (.call 261 [.t 7]),qN 9 8,qO 10 (.mov (cI 0))] (.block 0 (.loop qfx))) (sR [qM 60 3,qM 2 60] .ret))))
def qhe:List IRes:=[.t 2]
theorem qlr:chkF Tryz.prog Tryz.f201 qhx qhe 61=true:=by kernel_rfl
set_option maxHeartbeats 4000000 in
theorem qvx (t:List UInt8) (hs:t.length≤100000) (ht:qgR t=true):FCall Tryz.prog E0 259 [.str t] tStr 1 (·=strE (qfJ (qcD t).1)):=by
 unfold FCall
 refine qio mixed Tryz.func259 qmI ?_
 simp only [a0,l0,OS.ao,zk,zr,zi,zo,zl,zm,zu,zd,zh,zj,qiP,qiF,ZZ,WW,Zd,reduceCtorEq,zd,ze,zb,zf,za]
 refine use1 (qyG t (by omega)) rfl (.inl rfl) ?_
 obtain ⟨h1,h2,h3⟩:=qhi ht
 generalize qcD t=q at *
 obtain ⟨ls,b⟩:=q
 simp only at h1 h2 h3 ⊢
 rw [qpp]
 simp only [ZZ,WW,Zd,reduceCtorEq,zd,ze,zb,zf,za,qag]
 have hR0:([]:List (List PV))=strE []:=rfl
 rw [hR0]
 refine qad (fun n fr L=>∃ (k:Nat) (R:SRow),k≤ls.length∧n=ls.length - k∧(R=qfJ (ls.take k))∧fr=(oo::oo::oo::.p (.sl 1 (strE ls))::oo::.row (.l 5)::oC (oB (oo::(.p (.sl 1 (strE ls))::.p (int (ls.length:Nat))::.p (int (k:Nat))::oD (oo::[])))))∧L=[(.l 5,.row (strE R) tStr 1 true)]) (ls.length) _ _ (by simp only [ZZ,WW,Zd,reduceCtorEq,zd,ze,zb,zf,za,qag];try trivial) (by (simp only [ZZ,WW,Zd,reduceCtorEq,zd,ze,zb,zf,za];try trivial)) ⟨0,[],by omega,by omega,rfl,rfl,rfl⟩ ?_
 rintro n fr L ⟨k,R,hk,rfl,hR,rfl,rfl⟩
 simp only [qgF,ZZ,WW,Zd,reduceCtorEq,zd,ze,zb,zf,za]
 refine br ?_ ?_
 ·intro h
  have hlt:k < ls.length:=by have:=of_decide_eq_true h;omega
  obtain ⟨s,hx⟩:∃ s,ls[k]?=some s:=⟨_,zg hlt⟩
  have hg:(strE ls).getD k []=[.str s]:=qfH hx
  obtain ⟨hn,hsl⟩:=h3 s (zx hx)
  have hnx:qfJ (ls.take (k+1))=R++wr s:=by rw [qoO hx,hR];rfl
  have hl1:=qjQ ls
  have hl2:=qlx (ls:=ls) (k:=k+1)
  rw [hnx,zK] at hl2
  simp only [ZZ,WW,Zd,reduceCtorEq,zd,ze,zb,zf,za,hg,qag]
  ((with_reducible and_intros)<;>try exact sc_)
  refine use1 (qq3 (que s (by omega) hn)) rfl (.inl rfl) ?_
  simp only [ZZ,WW,Zd,reduceCtorEq,zd,ze,zb,zf,za,qag]
  ((with_reducible and_intros)<;>try exact sc_)
  rw [← qlE]
  refine qac (ls.length - (k+1)) _ _ (by omega) (by (simp only [ZZ,WW,Zd,reduceCtorEq,zd,ze,zb,zf,za];try trivial)) (by (simp only [ZZ,WW,Zd,reduceCtorEq,zd,ze,zb,zf,za];try trivial)) ⟨k+1,R++wr s,by omega,rfl,hnx.symm,rfl,rfl⟩
 ·intro h
  have hge:k=ls.length:=by have:=of_decide_eq_false h;omega
  rw [hge,List.take_length] at hR
  refine zS ?_
  exact qle 5 _ rfl rfl (by rw [hR])
set_option maxHeartbeats 4000000 in
theorem qwO (t:List UInt8) (hs:t.length≤100000) (ht:qgR t=true):FCall Tryz.prog E0 201 [.str t] tStr 1 (·=strE (qfJ (qcD t).1)):=by
 unfold FCall
 refine qio mixed Tryz.func201 qlr ?_
 simp only [a0,l0,OS.ao,zk,zr,zi,zo,zl,zm,zu,zd,zh,zj,qhx,qhe,ZZ,WW,Zd,reduceCtorEq,zd,ze,zb,zf,za]
 refine use1 (quy t (by omega)) rfl (.inl rfl) ?_
 rw [qtJ ht]
 obtain ⟨h1,h2,h3⟩:=qhi ht
 generalize (qcD t).1=ls at *
 rw [qpp]
 simp only [ZZ,WW,Zd,reduceCtorEq,zd,ze,zb,zf,za,qag]
 have hR0:([]:List (List PV))=strE []:=rfl
 rw [hR0]
 refine qad (fun n fr L=>∃ (j:Nat) (R:SRow),j≤ls.length∧n=ls.length - j∧(R=qfJ (ls.take j))∧fr=(oo::oo::oo::.row (.l 3)::oo::oo::oo::oo::.p (.sl 1 (strE ls))::.p (int (ls.length:Nat))::.p (int (j:Nat))::oF (oE (oB [])))∧L=[(.l 3,.row (strE R) tStr 1 true)]) (ls.length) _ _ (by simp only [ZZ,WW,Zd,reduceCtorEq,zd,ze,zb,zf,za,qag];try trivial) (by (simp only [ZZ,WW,Zd,reduceCtorEq,zd,ze,zb,zf,za];try trivial)) ⟨0,[],by omega,by omega,rfl,rfl,rfl⟩ ?_
 rintro n fr L ⟨j,R,hj,rfl,hR,rfl,rfl⟩
 simp only [qfx,ZZ,WW,Zd,reduceCtorEq,zd,ze,zb,zf,za]
 refine br ?_ ?_
 ·intro h
  have hlt:j < ls.length:=by have:=of_decide_eq_true h;omega
  obtain ⟨s0,hx⟩:∃ s,ls[j]?=some s:=⟨_,zg hlt⟩
  have hg:(strE ls).getD j []=[.str s0]:=qfH hx
  obtain ⟨hn,hsl0⟩:=h3 s0 (zx hx)
  have hnx:qfJ (ls.take (j+1))=R++wr s0:=by rw [qoO hx,hR];rfl
  have hl1:=qjQ ls
  have hl2:=qlx (ls:=ls) (k:=j+1)
  rw [hnx,zK] at hl2
  simp only [ZZ,WW,Zd,reduceCtorEq,zd,ze,zb,zf,za,hg,qag]
  ((with_reducible and_intros)<;>try exact sc_)
  refine qad (fun n fr L=>∃ (Q:SRow) (s:List UInt8),s.length=n∧(Q++wr s=R++wr s0)∧(s.length≤s0.length)∧(NcP s)∧fr=(oo::oo::oo::.row (.l 3)::oo::.p (.str s)::oo::oo::.p (.sl 1 (strE ls))::.p (int (ls.length:Nat))::.p (int (j:Nat))::oF (oE (oB [])))∧L=[(.l 3,.row (strE Q) tStr 1 true)]) (s0.length) (oo::oo::oo::.row (.l 3)::oo::.p (.str s0)::oo::oo::.p (.sl 1 (strE ls))::.p (int (ls.length:Nat))::.p (int (j:Nat))::oF (oE (oB []))) [(.l 3,.row (strE R) tStr 1 true)] (by (simp only [ZZ,WW,Zd,reduceCtorEq,zd,ze,zb,zf,za];try trivial)) (by (simp only [ZZ,WW,Zd,reduceCtorEq,zd,ze,zb,zf,za];try trivial)) ⟨R,s0,rfl,rfl,zM _,hn,rfl,rfl⟩ ?_
  rintro n fr L ⟨Q,s,rfl,hQ,hsl,hns,rfl,rfl⟩
  simp only [qfw,ZZ,WW,Zd,reduceCtorEq,zd,ze,zb,zf,za]
  have hQl:Q.length≤2000000:=by
   have h1:=congrArg List.length hQ
   rw [zK,zK] at h1
   omega
  refine br ?_ ?_
  ·intro h
   have h80:80 < s.length:=by have:=of_decide_eq_true h;omega
   have hlw:=qy5 h80
   have e81:(81:Int).toNat=81:=rfl
   simp only [ZZ,WW,Zd,reduceCtorEq,zd,ze,zb,zf,za,e81]
   ((with_reducible and_intros)<;>try exact sc_)
   refine use1 (qrW (s.take 81) 32 (by rw [zP];omega)) rfl (.inl rfl) ?_
   rw [← qvX]
   refine zS ?_
   ((with_reducible and_intros)<;>try exact sc_)
   refine useG (fun hg=>qgZ (s.take (liW s).toNat) [32] (by rw [zP];omega) (by simp) rfl) rfl (.inl rfl) ?_
   refine zS ?_
   ((with_reducible and_intros)<;>try exact sc_)
   refine br ?_ ?_
   ·intro hb
    have hbk:brkB s=true:=hb
    have h0:0 < liW s:=of_decide_eq_true (Bool.and_eq_true_iff.1 hb).1
    rw [qyU hns h80 hbk] at hQ
    refine zS ?_
    refine drg0 ?_
    have e1:(liW s+1).toNat=(liW s).toNat+1:=by omega
    have hdl:(s.drop ((liW s).toNat+1)).length < s.length:=by rw [z8];omega
    have hst:strE Q++[[PV.str (s.take (liW s).toNat)]]=strE (Q++[s.take (liW s).toNat]):=by simp [strE]
    simp only [ZZ,WW,Zd,reduceCtorEq,zd,ze,zb,zf,za,qag,List.take_length,e1]
    ((with_reducible and_intros)<;>try exact sc_)
    rw [hst]
    refine qac ((s.drop ((liW s).toNat+1)).length) (oo::oo::oo::.row (.l 3)::oo::.p (.str (s.drop ((liW s).toNat+1)))::oo::oo::.p (.sl 1 (strE ls))::.p (int (ls.length:Nat))::.p (int (j:Nat))::oF (oE (oB []))) [(.l 3,.row (strE (Q++[s.take (liW s).toNat])) tStr 1 true)] (by omega) (by (simp only [ZZ,WW,Zd,reduceCtorEq,zd,ze,zb,zf,za];try trivial)) (by (simp only [ZZ,WW,Zd,reduceCtorEq,zd,ze,zb,zf,za];try trivial)) ⟨Q++[s.take (liW s).toNat],s.drop ((liW s).toNat+1),rfl,by rw [ym];exact hQ,by omega,qi8 hns _,rfl,rfl⟩
   ·intro hb
    have hbk:brkB s=false:=hb
    rw [qyT hns h80 hbk] at hQ
    obtain ⟨g1,g2⟩:=qnJ hns h80
    refine zS ?_
    refine qad (fun n fr L=>∃ (k:Nat),k=n∧(qaM s k=qaM s 80)∧(qaM s 80≤k)∧(k≤80)∧fr=(oo::oo::oo::.row (.l 3)::oo::.p (.str s)::.p (int (k:Nat))::oo::.p (.sl 1 (strE ls))::.p (int (ls.length:Nat))::.p (int (j:Nat))::oF (oE (oB [])))∧L=[(.l 3,.row (strE Q) tStr 1 true)]) (80) (oo::oo::oo::.row (.l 3)::oo::.p (.str s)::.p (int (80:Nat))::oo::.p (.sl 1 (strE ls))::.p (int (ls.length:Nat))::.p (int (j:Nat))::oF (oE (oB []))) [(.l 3,.row (strE Q) tStr 1 true)] (by (simp only [ZZ,WW,Zd,reduceCtorEq,zd,ze,zb,zf,za];try trivial)) (by (simp only [ZZ,WW,Zd,reduceCtorEq,zd,ze,zb,zf,za];try trivial)) ⟨80,rfl,rfl,qmn s 80,zM _,rfl,rfl⟩ ?_
    rintro n fr L ⟨k,rfl,hk,hk2,hk3,rfl,rfl⟩
    simp only [qfv,ZZ,WW,Zd,reduceCtorEq,zd,ze,zb,zf,za]
    ((with_reducible and_intros)<;>try exact sc_)
    refine use1 (qrS (s.getD k 0)) rfl (.inl rfl) ?_
    simp only [ZZ,WW,Zd,reduceCtorEq,zd,ze,zb,zf,za,Bool.not_not]
    refine br ?_ ?_
    ·intro hc
     have hkb:qaM s 80 < k:=by
      rcases Nat.lt_or_eq_of_le hk2 with h1|h1
      ·exact h1
      ·rw [← h1,g2] at hc;cases hc
     obtain ⟨g,rfl⟩:∃ g,k=g+1:=⟨k - 1,by omega⟩
     have hgg:((g+1:Nat):Int) - 1=(g:Nat):=by omega
     simp only [ZZ,WW,Zd,reduceCtorEq,zd,ze,zb,zf,za,hgg]
     ((with_reducible and_intros)<;>try exact sc_)
     refine qac ((g)) _ _ (by omega) (by (simp only [ZZ,WW,Zd,reduceCtorEq,zd,ze,zb,zf,za];try trivial)) (by (simp only [ZZ,WW,Zd,reduceCtorEq,zd,ze,zb,zf,za];try trivial)) ⟨g,rfl,qwJ hk (by omega) hc,by omega,by omega,rfl,rfl⟩
    ·intro hc
     have hkn:=qrH hk (by omega) (by omega) hc
     subst hkn
     have hdl:(s.drop (qaM s 80)).length < s.length:=by rw [z8];omega
     have hst:strE Q++[[PV.str (s.take (qaM s 80))]]=strE (Q++[s.take (qaM s 80)]):=by simp [strE]
     have e1:((qaM s 80:Nat):Int).toNat=qaM s 80:=by omega
     refine zS ?_
     refine drg0 ?_
     simp only [ZZ,WW,Zd,reduceCtorEq,zd,ze,zb,zf,za,qag,List.take_length,e1]
     ((with_reducible and_intros)<;>try exact sc_)
     rw [hst]
     refine qac ((s.drop (qaM s 80)).length) (oo::oo::oo::.row (.l 3)::oo::.p (.str (s.drop (qaM s 80)))::oo::oo::.p (.sl 1 (strE ls))::.p (int (ls.length:Nat))::.p (int (j:Nat))::oF (oE (oB []))) [(.l 3,.row (strE (Q++[s.take (qaM s 80)])) tStr 1 true)] (by omega) (by (simp only [ZZ,WW,Zd,reduceCtorEq,zd,ze,zb,zf,za];try trivial)) (by (simp only [ZZ,WW,Zd,reduceCtorEq,zd,ze,zb,zf,za];try trivial)) ⟨Q++[s.take (qaM s 80)],s.drop (qaM s 80),rfl,by rw [ym];exact hQ,by omega,qi8 hns _,rfl,rfl⟩
  ·intro h
   have h80:s.length≤80:=by have:=of_decide_eq_false h;omega
   rw [qtd h80] at hQ
   have hst:strE Q++[[PV.str s]]=strE (Q++[s]):=by simp [strE]
   simp only [ZZ,WW,Zd,reduceCtorEq,zd,ze,zb,zf,za,qag]
   ((with_reducible and_intros)<;>try exact sc_)
   rw [hst]
   refine qac (ls.length - (j+1)) _ _ (by omega) (by (simp only [ZZ,WW,Zd,reduceCtorEq,zd,ze,zb,zf,za];try trivial)) (by (simp only [ZZ,WW,Zd,reduceCtorEq,zd,ze,zb,zf,za];try trivial)) ⟨j+1,Q++[s],by omega,rfl,by rw [hQ,hnx],rfl,rfl⟩
 ·intro h
  have hge:j=ls.length:=by have:=of_decide_eq_false h;omega
  rw [hge,List.take_length] at hR
  refine zS ?_
  exact qle 3 _ rfl rfl (by rw [hR])
def qeZ:IC:=(sR [qT 11 .lss 10 9] (.seq (.cond (.t 11) .skip (.exit 0)) (.seq (.block 1 (sR [qX 12 1 8 10,qL 13 12,qM 5 13] (.seq (sR [qM 14 3,qM 15 3,qN 16 15,qB 17 .sub 16 (cI 1),qX 18 1 14 17,qL 19 18,qN 20 19,qB 21 .eql 20 (cI 50)] (.cond (.t 21) (.reg [qM 22 3,qO 23 (.bsr 58 1 [.c (.nl 1)]),qO 24 (.app 58 1 24 (.t 22) (.t 23)),qM 3 24]) .skip)) (.cut (.reg [qM 25 3,qM 26 3,qN 27 26,qB 28 .sub 27 (cI 1),qM 29 3,qM 30 3,qN 31 30,qB 32 .sub 31 (cI 1),qX 33 1 29 32,qL 34 33,qM 35 5,qO 36 (.bsl 1 [.t 35]),qO 37 (.app 9 1 16 (.t 34) (.t 36)),qX 38 1 25 28,qS 1 38 37]))))) (.reg [qB 39 .add 10 (cI 1),qM 10 39]))))
def qgO:IC:=(sR [qO 2 (.mov (.c (.nl 1)))] (sR [qO 6 (.bsr 58 1 [.c (.nl 1)]),qM 3 6] (.seq (sR [qM 7 0,qO 8 (.call 201 [.t 7]),qN 9 8,qO 10 (.mov (cI 0))] (.block 0 (.loop qeZ))) (sR [qM 40 3,qM 2 40] .ret))))
def qgA:List IRes:=[.t 2]
theorem qkV:chkF Tryz.prog Tryz.f125 qgO qgA 41=true:=by kernel_rfl
abbrev tPgs:Nat:=58
def tbA (T:Tab):List (List AV):=(tbE T).map (·.map AV.p)
theorem qu2 (T:Tab):Zba (tbA T)=some (tbE T):=by
 unfold tbA
 induction T with
 |nil=>rfl
 |cons r T ih=>
  simp only [tbE,zk] at ih ⊢
  rw [Zba,ih]
  rfl
theorem qw9 (T:Tab) (k:Key):(tbA T).map (fun x=>x.map fun y=>AV.kill k y)=tbA T:=by
 unfold tbA
 rw [z7]
 exact zQ fun x _=>qo6 k x
theorem qu1 (T:Tab):(tbA T++[[AV.row (.l 37)]]).map (fun x=>x.map fun y=>AV.ren (r1 37 1000) y)=tbA T++[[AV.row (.l 1000)]]:=by
 rw [zO]
 congr 1
 unfold tbA
 rw [z7]
 exact zQ fun x _=>by rw [Function.comp_apply,z7];exact zQ fun _ _=>rfl
theorem qnQ (T:Tab):(tbA T).length=T.length:=by simp [tbA,tbE]
theorem qkB (T:Tab) (x:List AV):(tbA T++[x]).length=T.length+1:=by rw [zK,qnQ];rfl
theorem qlA (T:Tab) (x:List AV):(tbA T++[x]).getD T.length []=x:=by
 rw [List.getD,List.getElem?_append_right (by rw [qnQ];exact zM _),qnQ,Nat.sub_self]
 rfl
theorem qpn (T:Tab) (x y:List AV):(tbA T++[x]).set T.length y=tbA T++[y]:=by
 rw [List.set_append_right _ _ (by rw [qnQ];exact zM _),qnQ,Nat.sub_self]
 rfl
theorem qti (T:Tab) (k:Key) (c:AV):(tbA T++[[c]]).map (fun x=>x.map fun y=>AV.kill k y)=tbA T++[[c.kill k]]:=by
 rw [zO,qw9];rfl
def PgJ (L:Objs) (p:SRow) (k:Nat):Prop:=
 (k=0∧Zar L (.l 6)=some (.rowv (tbA []++[[.p (.nl 1)]]) tPgs 1))∨(0 < k∧Zar L (.l 6)=some (.rowv (tbA (pgIn p k)++[[.row (.l 1000)]]) tPgs 1)∧Zar L (.l 1000)=some (.row (strE (pgCu p k)) tStr 1 true))
theorem qtA {E:Envt} {fr:List AV} {L:Objs} {I:Tab} {cur:SRow} {x:List (List AV)} (hfr:∀ y,fr.map (·.thaw (.l 1000) y)=fr) (hx:∀ y,x.map (fun c=>c.map (AV.thaw (.l 1000) y))=x) (h1:Zar L (.l 6)=some (.rowv (tbA I++[[.row (.l 1000)]]++x) tPgs 1)) (h2:Zar L (.l 1000)=some (.row (strE cur) tStr 1 true)) :
  ∃ L',ReOk E fr L fr L'∧Zar L' (.l 6)=some (.rowv (tbA (I++[cur])++x) tPgs 1):=by
 have hr:=qbO (E:=E) (fr:=fr) h2
 rw [hfr] at hr
 refine ⟨_,hr,?_⟩
 rw [qbY,if_neg (by simp),h1,zL,AO.thaw]
 congr 2
 rw [zO,zO,hx]
 simp [tbA,tbE,AV.thaw]
set_option maxHeartbeats 4000000 in
theorem quM (t:List UInt8) (hs:t.length≤100000) (ht:qgR t=true):FCall Tryz.prog E0 125 [.str t] tPgs 1 (·=tbE (pgsF (qfJ (qcD t).1))):=by
 unfold FCall
 refine qio mixed Tryz.func125 qkV ?_
 simp only [a0,l0,OS.ao,zk,zr,zi,zo,zl,zm,zu,zd,zh,zj,qgO,qgA,ZZ,WW,Zd,reduceCtorEq,zd,ze,zb,zf,za]
 refine use1 (qq3 (qwO t hs ht)) rfl (.inl rfl) ?_
 have hpl:(qfJ (qcD t).1).length≤1000000:=by
  have h1:=qjQ (qcD t).1
  have h2:=(qhi ht).1
  omega
 generalize qfJ (qcD t).1=p at *
 simp only [ZZ,WW,Zd,reduceCtorEq,zd,ze,zb,zf,za,qag]
 obtain ⟨J,hJ⟩:∃ J:Nat→Objs→Prop,J=fun k L=>(k < p.length∧PgJ L p k)∨(k=p.length∧Zar L (.l 6)=some (.row (tbE (pgsF p)) tPgs 1 true)):=⟨_,rfl⟩
 have hnx:∀ k L,k≤p.length→PgJ L p k→∃ L',ReOk E0 (.p (.str t)::oo::oo::.row (.l 6)::oo::oo::oo::oo::.p (.sl 1 (strE p))::.p (int (p.length:Nat))::.p (int (k:Nat))::oE (oD (oC (oB [])))) L (.p (.str t)::oo::oo::.row (.l 6)::oo::oo::oo::oo::.p (.sl 1 (strE p))::.p (int (p.length:Nat))::.p (int (k:Nat))::oE (oD (oC (oB [])))) L'∧J k L':=by
  intro k L hk h
  by_cases hkl:k < p.length
  ·exact ⟨L,ReOk.refl,by rw [hJ];exact .inl ⟨hkl,h⟩⟩
  ·rcases h with ⟨h0,h1⟩|⟨h0,h1,h2⟩
   ·have hp:p=[]:=List.eq_nil_of_length_eq_zero (by omega)
    refine ⟨_,qkF h1 (es':=[[.sl 1 []]]) rfl,?_⟩
    rw [hJ]
    refine .inr ⟨by omega,?_⟩
    rw [qab,if_pos rfl,pgsF,if_pos hp]
    rfl
   ·have hp:p≠[]:=by intro e;rw [e] at hk;simp at hk;omega
    have hkp:k=p.length:=by omega
    obtain ⟨L1,r1,h3⟩:=qtA (E:=E0) (fr:=(.p (.str t)::oo::oo::.row (.l 6)::oo::oo::oo::oo::.p (.sl 1 (strE p))::.p (int (p.length:Nat))::.p (int (k:Nat))::oE (oD (oC (oB []))))) (x:=[]) (by
     intro y
     have e1:(Key.l 6=.l 1000)=False:=by simp
     simp only [zk,zr,AV.thaw,e1,if_false]) (fun _=>rfl) (by rw [yo];exact h1) h2
    rw [yo,hkp,qBV hp] at h3
    refine ⟨_,ReOk.trans r1 (qkF h3 (qu2 _)),?_⟩
    rw [hJ]
    refine .inr ⟨hkp,?_⟩
    rw [qab,if_pos rfl]
 obtain ⟨L1,q1,q2⟩:=hnx 0 [(.l 6,.rowv [[.p (.nl 1)]] tPgs 1)] (by omega) (.inl ⟨rfl,rfl⟩)
 refine qsz (fun m fr L=>∃ k,k≤p.length∧m=p.length - k∧fr=(.p (.str t)::oo::oo::.row (.l 6)::oo::oo::oo::oo::.p (.sl 1 (strE p))::.p (int (p.length:Nat))::.p (int (k:Nat))::oE (oD (oC (oB []))))∧J k L) p.length _ L1 (ReOk.trans (qkK (by simp only [ZZ,WW,Zd,reduceCtorEq,zd,ze,zb,zf,za,qag];try trivial)) q1) ⟨0,by omega,by omega,rfl,q2⟩ ?_
 clear q1 q2 L1
 rintro m fr L ⟨k,hk,rfl,rfl,hj⟩
 simp only [qeZ,ZZ,WW,Zd,reduceCtorEq,zd,ze,zb,zf,za]
 rw [hJ] at hj
 refine br ?_ ?_
 ·intro h
  have hlt:k < p.length:=by have:=of_decide_eq_true h;omega
  rcases hj with ⟨_,hj⟩|⟨e,_⟩
  rotate_left
  ·omega
  obtain ⟨s,hsx⟩:∃ s,p[k]?=some s:=⟨_,zg hlt⟩
  have hg:(strE p).getD k []=[.str s]:=qfH hsx
  have hnx1:=fun L=>hnx (k+1) L (by omega)
  have hIl:(pgIn p k).length≤1000000:=by rw [qxD];omega
  have hCl:=qAj (p:=p) (k:=k) hk
  rcases hj with ⟨h0,hl1⟩|⟨h0,hl1,hl2⟩
  ·subst h0
   obtain ⟨w1,w2⟩:=qBU hsx
   obtain ⟨I,hI⟩:∃ I:Tab,I=[]:=⟨_,rfl⟩
   have w1:pgIn p (0+1)=I:=by rw [hI];exact w1
   have w2:pgCu p (0+1)=[s]:=w2
   rw [← hI] at hl1
   have hix:((I.length+1:Nat):Int) - 1=(I.length:Nat):=by omega
   have hIl:I.length≤1000000:=by rw [hI];simp
   clear hI
   simp only [ZZ,WW,Zd,reduceCtorEq,zd,ze,zb,zf,za,hg,qag,hl1,qkB,hix,qlA]
   ((with_reducible and_intros)<;>try exact sc_)
   refine br (fun h=>by simp at h) ?_
   intro _
   refine zS ?_
   refine qa1 _ _ ReOk.refl ?_
   simp only [ZZ,WW,Zd,reduceCtorEq,zd,ze,zb,zf,za,qao,qab,qam,hl1,qkB,hix,qlA,qpn,qti]
   ((with_reducible and_intros)<;>try exact sc_)
   generalize hLL:Zas (Zas _ (Key.l 37) _) (Key.l 6) _=LL
   obtain ⟨L2,r2,h2⟩:=hnx1 (mapO (r1 37 1000) LL) (by
    refine .inr ⟨by omega,?_,?_⟩
    ·rw [w1,← hLL,qaK,if_neg (by simp),if_neg (by simp),qab,if_pos rfl]
     simp only [zL,AO.ren]
     exact congrArg (fun c=>some (AO.rowv c tPgs 1)) (qu1 _)
    ·rw [w2,← hLL,qaK,if_pos rfl,qab,if_neg (by simp),qab,if_pos rfl]
     rfl)
   refine qk5 (p.length - (0+1)) _ L2 (by omega) (ReOk.trans (qoZ 37 1000) (ReOk.trans (qkK (by simp only [AV.ren,r1,ZZ,WW,Zd,reduceCtorEq,zd,ze,zb,zf,za];try trivial)) r2)) ⟨0+1,by omega,rfl,rfl,h2⟩
  ·obtain ⟨I,hI⟩:∃ I:Tab,I=pgIn p k:=⟨_,rfl⟩
   obtain ⟨cur,hcu⟩:∃ cur:SRow,cur=pgCu p k:=⟨_,rfl⟩
   have hix:((I.length+1:Nat):Int) - 1=(I.length:Nat):=by omega
   rw [← hI] at hl1 hIl
   rw [← hcu] at hl2 hCl
   simp only [ZZ,WW,Zd,reduceCtorEq,zd,ze,zb,zf,za,hg,qag,hl1,hl2,qkB,hix,qlA]
   ((with_reducible and_intros)<;>try exact sc_)
   refine br ?_ ?_
   ·intro h50
    have h50:(pgCu p k).length=50:=by rw [← hcu];have:=of_decide_eq_true h50;omega
    obtain ⟨w1,w2⟩:=qAi h0 h50 hsx
    rw [← hI,← hcu] at w1
    simp only [ZZ,WW,Zd,reduceCtorEq,zd,ze,zb,zf,za,qao,qab,qam,hl1,hl2,qkB,qti]
    ((with_reducible and_intros)<;>try exact sc_)
    generalize hLL:Zas (Zat _ (Zas _ (Key.l 23) _)) (Key.l 6) _=LL
    have q1:Zar LL (.l 6)=some (.rowv (tbA I++[[.row (.l 1000)]]++[[.p (.nl 1)]]) tPgs 1):=by rw [← hLL,qab,if_pos rfl]
    have q2:Zar LL (.l 1000)=some (.row (strE cur) tStr 1 true):=by
     rw [← hLL]
     simp only [qab,qam,hl2,ZZ,WW,Zd,reduceCtorEq,zd,ze,zb,zf,za]
    clear hLL hl1 hl2
    obtain ⟨L3,r3,hl1⟩:=qtA (E:=E0) (fr:=(.p (.str t)::oo::oo::.row (.l 6)::oo::.p (.str s)::oo::oo::.p (.sl 1 (strE p))::.p (int (p.length:Nat))::.p (int (k:Nat))::oE (oD (oC (oB []))))) (x:=[[.p (.nl 1)]]) (by
     intro y
     have e1:(Key.l 6=.l 1000)=False:=by simp
     simp only [zk,zr,AV.thaw,e1,if_false]) (fun _=>rfl) q1 q2
    refine qa1 (.p (.str t)::oo::oo::.row (.l 6)::oo::.p (.str s)::oo::oo::.p (.sl 1 (strE p))::.p (int (p.length:Nat))::.p (int (k:Nat))::oE (oD (oC (oB [])))) L3 (ReOk.trans (qkK zF_) r3) ?_
    clear r3 q1 q2
    obtain ⟨I2,hI2⟩:∃ I2:Tab,I2=I++[cur]:=⟨_,rfl⟩
    rw [← hI2] at hl1 w1
    have hix:((I2.length+1:Nat):Int) - 1=(I2.length:Nat):=by omega
    have hIl:I2.length≤2000000:=by rw [hI2,zK];simp;omega
    clear hI2
    simp only [ZZ,WW,Zd,reduceCtorEq,zd,ze,zb,zf,za,qao,qab,qam,hl1,qkB,hix,qlA,qpn,qti]
    ((with_reducible and_intros)<;>try exact sc_)
    generalize hLL:Zas (Zas _ (Key.l 37) _) (Key.l 6) _=LL
    obtain ⟨L2,r2,h2⟩:=hnx1 (mapO (r1 37 1000) LL) (by
     refine .inr ⟨by omega,?_,?_⟩
     ·rw [w1,← hLL,qaK,if_neg (by simp),if_neg (by simp),qab,if_pos rfl]
      simp only [zL,AO.ren]
      exact congrArg (fun c=>some (AO.rowv c tPgs 1)) (qu1 _)
     ·rw [w2,← hLL,qaK,if_pos rfl,qab,if_neg (by simp),qab,if_pos rfl]
      rfl)
    refine qk5 (p.length - (k+1)) _ L2 (by omega) (ReOk.trans (qoZ 37 1000) (ReOk.trans (qkK (by simp only [AV.ren,r1,ZZ,WW,Zd,reduceCtorEq,zd,ze,zb,zf,za];try trivial)) r2)) ⟨k+1,by omega,rfl,rfl,h2⟩
   ·intro h50
    have h50:¬ (pgCu p k).length=50:=by rw [← hcu];have:=of_decide_eq_false h50;omega
    obtain ⟨w1,w2⟩:=qAh h0 h50 hsx
    rw [← hI] at w1
    rw [← hcu] at w2
    refine zS ?_
    refine qa1 _ _ ReOk.refl ?_
    simp only [ZZ,WW,Zd,reduceCtorEq,zd,ze,zb,zf,za,qao,qab,qam,hl1,hl2,qkB,hix,qlA,qpn,qti,qag]
    ((with_reducible and_intros)<;>try exact sc_)
    generalize hLL:Zas (Zas _ (Key.l 1000) _) (Key.l 6) _=LL
    obtain ⟨L2,r2,h2⟩:=hnx1 LL (.inr ⟨by omega,by rw [w1,← hLL,qab,if_pos rfl],by rw [w2,← hLL,qab,if_neg (by simp),qab,if_pos rfl,qlE];rfl⟩)
    refine qk5 (p.length - (k+1)) _ L2 (by omega) (ReOk.trans (qkK zF_) r2) ⟨k+1,by omega,rfl,rfl,h2⟩
 ·intro h
  have hge:k=p.length:=by have:=of_decide_eq_false h;omega
  rcases hj with ⟨e,_⟩|⟨_,hO⟩
  ·omega
  subst hge
  refine zS ?_
  exact qle 6 _ rfl hO rfl
def qfy:IC:=(sR [qT 96 .lss 95 94] (.seq (.cond (.t 96) .skip (.exit 6)) (.seq (.block 7 (sR [qX 97 1 93 95,qL 98 97,qM 23 98] (sR [qM 99 19,qM 100 99,⟨some 101,.mov (.t 13),(some (100,false))⟩,⟨some 102,.mov (.t 23),(some (100,false))⟩,⟨some 103,.mpl false (.bool false) (.t 101) (.t 102),(some (100,false))⟩,qO 104 (.pick (.t 100) (.c (.bool true)) (.t 103)),qM 19 104] (sR [qM 105 1,qM 106 23,qO 107 (.call 86 [.t 105,.t 106]),qO 24 (.alc 76 [.str [],.int .i64 0,.nl 2]),qS 3 24 107] (sR [qM 108 23,qF 109 0 21,qL 110 109,qM 111 12,qB 112 .add 111 (cI 1),qO 113 (.bld [.str [],.str [],.int .i64 0,.int .i64 0,.int .i64 0,.nl 1,.int .i64 0] [(0,1,.t 108),(1,1,.t 110),(3,1,.t 112),(6,1,.c (.int .i64 1))]),qO 25 (.alc 85 [.str [],.str [],.int .i64 0,.int .i64 0,.int .i64 0,.nl 1,.int .i64 0]),qS 7 25 113] (.seq (sR [qF 114 1 24,qL 115 114] (.block 8 (sR [qB 123 .eql 115 (cI 1),qM 122 123] (.cond (.t 122) (sR [qM 125 0,qM 126 23,qO 127 (.call 72 [.t 125,.t 126]),qM 124 127,qO 128 (.ext 0 (.t 124)),qO 129 (.ext 1 (.t 124)),qO 26 (.alc 80 [.str [],.str [],.int .i64 0,.str [],.int .i64 0,.str [],.str []]),qS 7 26 128,qM 27 129] (.reg [qF 130 6 26,qL 131 130,qF 132 2 24,qL 133 132,qO 134 (.call 126 [.t 131,.t 133]),qO 135 (.call 125 [.t 134]),qF 136 2 25,⟨none,.st 1 (.t 136) (cI 1),none⟩,qF 137 5 25,qS 1 137 135])) (sR [qB 139 .eql 115 (cI 2),qM 138 139] (.cond (.t 138) (.drg [qF 140 3 6,qO 141 (.ldn 25 1 false (.t 140)),qO 142 (.bsl 1 [.t 141]),qO 143 (.bsl 1 [.t 142]),qF 144 2 25,⟨none,.stk 25 1 (.t 144) (cI 2),none⟩,qF 145 5 25,qS 1 145 143]) (.drg [qF 116 4 6,qO 117 (.ldn 25 1 false (.t 116)),qO 118 (.bsl 1 [.t 117]),qO 119 (.bsl 1 [.t 118]),qF 120 2 25,⟨none,.stk 25 1 (.t 120) (cI 3),none⟩,qF 121 5 25,qS 1 121 119]))))))) (.cut (sR [qM 146 12,qF 147 5 25,qL 148 147,qN 149 148,qT 150 .add 146 149,qM 12 150] (sR [qM 151 12,qF 152 4 25,qS 1 152 151] (.reg [qF 153 3 11,qL 154 153,qO 155 (.ld 7 true (.t 25)),qO 156 (.bsl 7 [.t 155]),qO 157 (.app 85 7 88 (.t 154) (.t 156)),qF 158 3 11,qS 1 158 157])))))))))) (.reg [qB 159 .add 95 (cI 1),qM 95 159]))))
def qfz:IC:=(sR [qT 89 .lss 88 87] (.seq (.cond (.t 89) .skip (.exit 4)) (.seq (.block 5 (sR [qX 90 2 86 88,qO 91 (.ld 2 true (.t 90)),qO 21 (.alc 119 [.str [],.nl 1]),qS 2 21 91] (sR [qF 92 1 21,qL 93 92,qN 94 93,qO 95 (.mov (cI 0))] (.block 6 (.loop qfy))))) (.reg [qB 160 .add 88 (cI 1),qM 88 160]))))
def qfA:IC:=(sR [qT 64 .lss 63 62] (.seq (.cond (.t 64) .skip (.exit 2)) (.seq (.block 3 (sR [qX 65 7 61 63,qO 66 (.ld 7 true (.t 65)),qO 17 (.alc 85 [.str [],.str [],.int .i64 0,.int .i64 0,.int .i64 0,.nl 1,.int .i64 0]),qS 7 17 66] (sR [qM 67 13,qF 68 0 17,qL 69 68,⟨none,.mpu (.t 67) (.t 69) (.c (.bool true)),none⟩] (sR [qF 70 1 15,qL 71 70,qF 72 0 6,qL 73 72,qT 74 .eql 71 73] (.cond (.t 74) (.reg [qM 75 12,qF 76 4 17,qL 77 76,qO 78 (.mx (.t 75) (.t 77)),qM 12 78]) .skip))))) (.cut (.reg [qB 79 .add 63 (cI 1),qM 63 79])))))
def qfB:IC:=(sR [qT 57 .lss 56 55] (.seq (.cond (.t 57) .skip (.exit 0)) (.seq (.block 1 (sR [qX 58 4 54 56,qO 59 (.ld 4 true (.t 58)),qO 15 (.alc 36 [.int .i64 0,.str [],.int .i64 0,.nl 7]),qS 4 15 59] (sR [qF 60 3 15,qL 61 60,qN 62 61,qO 63 (.mov (cI 0))] (.block 2 (.loop qfA))))) (.reg [qB 80 .add 56 (cI 1),qM 56 80]))))
def qhy:IC:=(sR [qO 6 (.box 45 (.t 2)),qO 8 (.alc 36 [.int .i64 0,.str [],.int .i64 0,.nl 7]),qO 9 (.mov (cI 0))] (.seq (.seq (.drg [qM 28 0,qM 29 1,qO 30 (.pcall 0 20 [.t 28,.t 29]),qO 31 (.ld 6 true (.t 6)),qO 32 (.pcall 1 22 [.t 31]),qM 33 3,qO 34 (.pcall 2 16 [.t 33]),qO 35 (.bsl 1 [.t 30,.t 32,.t 34]),qO 36 (.pcall 3 124 [.t 35]),qM 10 36]) (sR [qM 37 10,qB 38 .neq 37 (cI 0)] (.cond (.t 38) (sR [qO 39 (.bld [.int .i64 0,.str [],.int .i64 0,.nl 7] []),qM 40 10,qS 4 8 39,qM 9 40] .ret) .skip))) (.seq (sR [qM 41 3,qN 42 41,qB 43 .eql 42 (cI 200)] (.cond (.t 43) (sR [qO 44 (.bld [.int .i64 0,.str [],.int .i64 0,.nl 7] []),qS 4 8 44,qO 9 (.mov (cI 12))] .ret) .skip)) (sR [qM 45 3,qN 46 45,qB 47 .add 46 (cI 1),qF 48 0 6,qL 49 48,qF 50 1 6,qL 51 50,qO 52 (.bld [.int .i64 0,.str [],.int .i64 0,.nl 7] [(0,1,.t 47),(1,1,.t 49),(2,1,.t 51)]),qO 11 (.alc 36 [.int .i64 0,.str [],.int .i64 0,.nl 7]),qS 4 11 52,⟨none,.re,none⟩] (sR [qO 12 (.mov (cI 0))] (sR [qO 53 (.mkm 9 4),qM 13 53] (.seq (sR [qM 54 3,qN 55 54,qO 56 (.mov (cI 0))] (.block 0 (.loop qfB))) (sR [qM 81 12,qM 18 81] (sR [qO 19 (.mov (.c (.bool false)))] (.seq (sR [qM 82 0,qM 83 1,qF 84 2 6,qL 85 84,qO 86 (.call 26 [.t 82,.t 83,.t 85]),qN 87 86,qO 88 (.mov (cI 0))] (.block 4 (.loop qfz))) (.seq (.block 9 (sR [qM 162 19,qM 161 162] (.cond (.t 161) (sR [qO 163 (.bld [.int .i64 0,.str [],.int .i64 0,.nl 7] []),qS 4 8 163,qO 9 (.mov (cI 6))] .ret) (sR [qF 165 3 11,qL 166 165,qN 167 166,qB 168 .eql 167 (cI 0),qM 164 168] (.cond (.t 164) (sR [qO 169 (.bld [.int .i64 0,.str [],.int .i64 0,.nl 7] []),qS 4 8 169,qO 9 (.mov (cI 8))] .ret) (sR [qM 171 12,qM 172 18,qT 173 .sub 171 172,qF 174 5 6,qL 175 174,qT 176 .gtr 173 175,qM 170 176] (.cond (.t 170) (sR [qO 177 (.bld [.int .i64 0,.str [],.int .i64 0,.nl 7] []),qS 4 8 177,qO 9 (.mov (cI 2))] .ret) (sR [qM 179 12,qF 180 1 6,qL 181 180,qO 182 (.call 61 [.t 181]),qT 183 .geq 179 182,qM 178 183] (.cond (.t 178) (sR [qO 184 (.bld [.int .i64 0,.str [],.int .i64 0,.nl 7] []),qS 4 8 184,qO 9 (.mov (cI 12))] .ret) .skip))))))))) (sR [⟨none,.re,none⟩,qO 185 (.ld 4 true (.t 11)),qS 4 8 185,qO 9 (.mov (cI 0))] .ret))))))))))))
def qhf:List IRes:=[.c 8 4 true,.t 9]
theorem qls:chkF Tryz.prog Tryz.f39 qhy qhf 186=true:=by kernel_rfl
section
variable {E:Envt}
theorem qqP (l:List Rul) (hl:l.length≤1000000) (s:List UInt8):PCall Tryz.prog E 86 [.sl 3 (rlE l),.str s] (·=.agg (rlV (rlOf l s))):=by
 refine qae mixed Tryz.func86 qgf ?_
 simp only [a0,l0,OS.ao,zk,zr,zi,zo,zl,zm,zu,zd,zh,zj,qdi,qde,ZZ,WW,Zd,reduceCtorEq,zd,ze,zb,zf,za]
 simp only [ZZ,WW,Zd,reduceCtorEq,zd,ze,zb,zf,za,qay]
 refine qad (fun n fr L=>∃ (k:Nat),k≤l.length∧n=l.length - k∧(l.find? (fun r=>decide (r.id=s))=(l.drop k).find? (fun r=>decide (r.id=s)))∧fr=(oo::.p (.str s)::oo::oo::.adr (.l 4) 0::oo::oo::.p (.sl 3 (rlE l))::.p (int (l.length:Nat))::.p (int (k:Nat))::oD (oB (oo::[])))∧L=[(.l 4,.box [.p (.str []),.p (int 0),.p (.nl 2)] 76)]) (l.length) _ _ (by simp only [ZZ,WW,Zd,reduceCtorEq,zd,ze,zb,zf,za,qay];try trivial) (by (simp only [ZZ,WW,Zd,reduceCtorEq,zd,ze,zb,zf,za];try trivial)) ⟨0,by omega,by omega,rfl,rfl,rfl⟩ ?_
 rintro n fr L ⟨k,hk,rfl,hF,rfl,rfl⟩
 simp only [qct,ZZ,WW,Zd,reduceCtorEq,zd,ze,zb,zf,za]
 refine br ?_ ?_
 ·intro h
  have hlt:k < l.length:=by have:=of_decide_eq_true h;omega
  obtain ⟨r,hr⟩:∃ r,l[k]?=some r:=⟨_,zg hlt⟩
  have hg:=qgj hr
  have hd:l.drop k=r :: l.drop (k+1):=by rw [List.drop_eq_getElem_cons hlt,(zt.1 hr).2]
  rw [hd,List.find?_cons] at hF
  simp only [ZZ,WW,Zd,reduceCtorEq,zd,ze,zb,zf,za,hg,qay]
  ((with_reducible and_intros)<;>try exact sc_)
  refine br ?_ ?_
  ·intro h2
   have h3:r.id=s:=by simpa using h2
   rw [decide_eq_true h3] at hF
   refine zS ?_
   unfold rlOf
   rw [hF]
   rfl
  ·intro h2
   have h3:¬ r.id=s:=by simpa using h2
   rw [decide_eq_false h3] at hF
   refine zS ?_
   ((with_reducible and_intros)<;>try exact sc_)
   refine qac (l.length - (k+1)) _ _ (by omega) (by (simp only [ZZ,WW,Zd,reduceCtorEq,zd,ze,zb,zf,za];try trivial)) (by (simp only [ZZ,WW,Zd,reduceCtorEq,zd,ze,zb,zf,za];try trivial)) ⟨k+1,by omega,rfl,hF,rfl,rfl⟩
 intro h
 have hge:l.length≤k:=by have:=of_decide_eq_false h;omega
 rw [List.drop_eq_nil_of_le hge] at hF
 refine zS ?_
 unfold rlOf
 rw [hF]
 rfl
end
theorem quj {il:List Itm} {l:List Rul} (h:rulF il l=0) (s:List UInt8) (h1:(rlOf l s).what=1):(∀ p∈(rlOf l s).spans,0≤p.1∧p.1 < p.2∧p.2≤(qg0 (itOf il s)).length):=by
 unfold rlOf at h1 ⊢
 cases hf:l.find? (fun r=>decide (r.id=s)) with
 |none=>rw [hf] at h1;cases h1
 |some r=>
  have hm:=List.mem_of_find?_eq_some hf
  have hs:r.id=s:=by simpa using List.find?_some hf
  obtain ⟨k,hk⟩:=List.getElem?_of_mem hm
  have hkl:=(zt.1 hk).1
  have h2:qaf ((List.range l.length).map (ruE il l))=0:=by
   unfold rulF at h
   split at h
   ·cases h
   ·exact h
  have h3:=qax h2 _ (List.mem_map.2 ⟨k,List.mem_range.2 hkl,rfl⟩)
  unfold ruE at h3
  have hd:l.getD k rl0=r:=by simp [List.getD,hk]
  rw [hd] at h3
  have h4:=qax h3 (qb9 r.spans (((getI il r.id).getD it0).2.2.2.2.2.2.length:Nat)) (by simp)
  rw [hs] at h4
  exact qqJ h4
theorem qtv {l:List Rul} (hb:∀ r∈l,r.spans.length≤1000000) (s:List UInt8):(rlOf l s).spans.length≤1000000:=by
 unfold rlOf
 cases hf:l.find? (fun r=>decide (r.id=s)) with
 |none=>simp
 |some r=>exact hb r (List.mem_of_find?_eq_some hf)
theorem qtt {s:Stp} (h:setF s=0):(s.ord=1∨s.ord=2∨s.ord=3)∧4≤s.dig∧s.dig≤9:=by
 have z1:=qax h (qfC s.pre s.dig) (by simp)
 have z2:=qax h (ordF s.ord) (by simp)
 refine ⟨?_,qoa z1⟩
 unfold ordF qah at z2
 split at z2
 ·cases z2
 ·rename_i h3
  have h4:inE s.ord 1 3=true:=by simpa using h3
  unfold inE at h4
  simp only [Bool.and_eq_true,Bool.not_eq_true',decide_eq_true_eq,decide_eq_false_iff_not] at h4
  omega
theorem qsg:shE []=[]:=rfl
def twM (past:List Prd) (D:List (List UInt8×List UInt8)):Bool:=D.any fun q=>qjI past q.2
set_option maxHeartbeats 8000000 in
set_option maxRecDepth 100000 in
theorem qrV (il:List Itm) (hP:qaP il) (h12:il.length≤12) (l:List Rul) (hl:l.length≤1000000) (hb:∀ r∈l,r.spans.length≤1000000) (s:Stp) (hs:StB s) (hm:-1000000000≤s.most∧s.most≤1000000000) (past:List Prd) (hpl:past.length≤1000) (hpB:∀ p∈past,PdB p) :
  qoz Tryz.prog E0 39 [.sl 7 (itE il),.sl 3 (rlE l),.agg (stV s)] tPrd 4 (pdE past) [] (fun x es'=>es'=pdE past∧x=.tup [.agg (pdV (pmP il l s past)),int (pmE il l s past)]):=by
 unfold qoz
 refine qsG mixed Tryz.func39 qls ?_
 simp only [a0P,a0,l0,OS.ao,zk,zr,zi,zo,zl,zm,zu,zd,zh,zj,qhy,qhf,stV,ZZ,WW,Zd,reduceCtorEq,zd,ze,zb,zf,za]
 have hsf:=qqx s hs
 simp only [stV] at hsf
 have hend:∀ c:Int,c≠0→pmE il l s past=c→PV.tup [.agg [int 0,.str [],int 0,.sl 7 []],int c]=.tup [.agg (pdV (pmP il l s past)),int (pmE il l s past)]:=by
  intro c hc he
  unfold pmP
  rw [if_neg (by rw [he];exact hc),he]
  rfl
 refine ⟨[int (rulF il l),int (setF s),int (pdsF past),int (pmA il l s past)],?_⟩
 refine zS ?_
 refine ⟨usep (qoy il hP l hl hb) rfl (.inl rfl),usep hsf rfl (.inl rfl),usep (qlu past (by omega) hpB) rfl (.inr rfl),usep (qDM [_,_,_] (by simp)) rfl (.inl rfl),?_⟩
 refine br ?_ ?_
 ·intro h
  have h1:¬ pmA il l s past=0:=by simpa using h
  refine zS ?_
  exact qjK (pdE past) rfl ⟨rfl,hend _ h1 (by rw [pmE,if_neg h1])⟩
 intro h
 have hA:pmA il l s past=0:=by simpa using h
 have hr0:rulF il l=0:=qax hA _ (by simp)
 have hs0:setF s=0:=qax hA _ (by simp)
 have hd0:pdsF past=0:=qax hA _ (by simp)
 have hE:pmE il l s past=if past.length=200 then 12 else pmB il l s past:=by rw [pmE,if_pos hA]
 clear h
 have e200:decide ((past.length:Int)=200)=decide (past.length=200):=decide_eq_decide.2 (by omega)
 simp only [ZZ,WW,Zd,reduceCtorEq,zd,ze,zb,zf,za,qaR,e200]
 refine br ?_ ?_
 ·intro h
  rw [if_pos (by simpa using h)] at hE
  refine zS ?_
  exact qjK (pdE past) rfl ⟨rfl,hend _ (by decide) hE⟩
 intro h
 rw [if_neg (by simpa using h)] at hE
 clear h e200
 obtain ⟨ho,hd4,hd9⟩:=qtt hs0
 simp only [ZZ,WW,Zd,reduceCtorEq,zd,ze,zb,zf,za,qaR]
 ((with_reducible and_intros)<;>try exact sc_)
 rw [qa6]
 refine ⟨_,_,qqV (k:=.l 11) 3 157 qg1 7 7 (by simp) rfl rfl,?_⟩
 simp only [ZZ,WW,Zd,reduceCtorEq,zd,ze,zb,zf,za,qaR]
 refine qad (fun n fr L=>∃ (a:Nat) (kv:List (List UInt8×PV)) (nn:Int),a≤past.length∧n=past.length - a∧(nn=qoG (past.take a) s.pre)∧(qsj kv (idsT (past.take a)))∧fr=(.p (.sl 7 (itE il))::.p (.sl 3 (rlE l))::oo::.row (.b 0)::oo::oo::.adr (.l 6) 0::oo::.adr (.l 8) 0::.p (int 0)::oo::.adr (.l 11) 0::.p (int nn)::.mp (.l 53)::oF (oD (.row (.b 0)::.p (int (past.length:Nat))::.p (int (a:Nat))::oG (oG (oo::[])))))∧L=[(.b 0,.row (pdE past) tPrd 4 true),(.l 6,.box [.p (.str s.pre),.p (int s.dig),.p (int s.ord),.p (.str s.slip),.p (.str s.skip),.p (int s.most)] 45),(.l 8,.box [.p (int 0),.p (.str []),.p (int 0),.p (.nl 7)] tPrd),(.l 11,.box [.p (int ((past.length:Nat)+1)),.p (.str s.pre),.p (int s.dig),.row (.l 157)] tPrd),(.l 157,.row (shE []) qg1 7 true),(.l 53,.map kv 9 4)]) (past.length) _ _ (by simp only [ZZ,WW,Zd,reduceCtorEq,zd,ze,zb,zf,za,qaR];try trivial) (by simp only [qsg,ZZ,WW,Zd,reduceCtorEq,zd,ze,zb,zf,za]) ⟨0,[],0,by omega,by omega,rfl,qqM,rfl,rfl⟩ ?_
 rintro n fr L ⟨a,kv,nn,ha,rfl,hn,hkv,rfl,rfl⟩
 simp only [qfB,ZZ,WW,Zd,reduceCtorEq,zd,ze,zb,zf,za]
 refine br ?_ ?_
 ·intro h
  have hlt:a < past.length:=by have:=of_decide_eq_true h;omega
  obtain ⟨p,hp⟩:∃ p,past[a]?=some p:=⟨_,zg hlt⟩
  have hg:=qla hp
  have hpm:=zx hp
  have hpB1:=hpB p hpm
  have hto:=qo2 hd0 p hpm
  have hsl:=hpB1.shs
  simp only [pdV] at hg
  have htk:past.take (a+1)=past.take a++[p]:=by rw [zy hlt,(zt.1 hp).2]
  have hnb:=qnD (past:=past.take a) (fun q hq x hx=>(qo2 hd0 q (List.mem_of_mem_take hq) x hx).2.2) s.pre
  simp only [ZZ,WW,Zd,reduceCtorEq,zd,ze,zb,zf,za,hg,qaR,qaj]
  ((with_reducible and_intros)<;>try exact sc_)
  refine qad (fun n fr L=>∃ (b:Nat) (kw:List (List UInt8×PV)) (mm:Int),b≤p.shs.length∧n=p.shs.length - b∧(mm=(pagT (past.take a) s.pre++(if p.pre=s.pre then (p.shs.take b).map (·.to_) else [])).foldl max 0)∧(qsj kw (idsT (past.take a)++(p.shs.take b).map (·.id)))∧fr=(.p (.sl 7 (itE il))::.p (.sl 3 (rlE l))::oo::.row (.b 0)::oo::oo::.adr (.l 6) 0::oo::.adr (.l 8) 0::.p (int 0)::oo::.adr (.l 11) 0::.p (int mm)::.mp (.l 53)::oo::.adr (.l 15) 0::oF (oC (oB (.row (.b 0)::.p (int (past.length:Nat))::.p (int (a:Nat))::oo::oo::oo::oo::.p (.sl 7 (shE p.shs))::.p (int (p.shs.length:Nat))::.p (int (b:Nat))::oG (oF (oE (oD (oB []))))))))∧L=[(.b 0,.row (pdE past) tPrd 4 true),(.l 6,.box [.p (.str s.pre),.p (int s.dig),.p (int s.ord),.p (.str s.slip),.p (.str s.skip),.p (int s.most)] 45),(.l 8,.box [.p (int 0),.p (.str []),.p (int 0),.p (.nl 7)] tPrd),(.l 11,.box [.p (int ((past.length:Nat)+1)),.p (.str s.pre),.p (int s.dig),.row (.l 157)] tPrd),(.l 157,.row (shE []) qg1 7 true),(.l 53,.map kw 9 4),(.l 15,.box [.p (int p.no),.p (.str p.pre),.p (int p.dig),.p (.sl 7 (shE p.shs))] tPrd)]) (p.shs.length) _ _ (by simp only [ZZ,WW,Zd,reduceCtorEq,zd,ze,zb,zf,za,qaj];try trivial) (by simp only [qsg,ZZ,WW,Zd,reduceCtorEq,zd,ze,zb,zf,za]) ⟨0,kv,nn,by omega,by omega,(by rw [hn];simp [qoG]),(by simpa using hkv),rfl,rfl⟩ ?_
  rintro n fr L ⟨b,kw,mm,hb,rfl,hm2,hkw,rfl,rfl⟩
  simp only [qfA,ZZ,WW,Zd,reduceCtorEq,zd,ze,zb,zf,za]
  refine br ?_ ?_
  ·intro h2
   have hbl:b < p.shs.length:=by have:=of_decide_eq_true h2;omega
   obtain ⟨x,hx⟩:∃ x,p.shs[b]?=some x:=⟨_,zg hbl⟩
   have hgx:=qeB hx
   simp only [shV] at hgx
   have hbk:p.shs.take (b+1)=p.shs.take b++[x]:=by rw [zy hbl,(zt.1 hx).2]
   have hpu:=qqL hkw x.id
   rw [ym,show (p.shs.take b).map (·.id)++[x.id]=(p.shs.take (b+1)).map (·.id) from by rw [hbk];simp] at hpu
   simp only [ZZ,WW,Zd,reduceCtorEq,zd,ze,zb,zf,za,hgx,qaj]
   ((with_reducible and_intros)<;>try exact sc_)
   refine br ?_ ?_
   ·intro h3
    have h4:p.pre=s.pre:=by simpa using h3
    have hm3:max mm x.to_=(pagT (past.take a) s.pre++(if p.pre=s.pre then (p.shs.take (b+1)).map (·.to_) else [])).foldl max 0:=by
     rw [if_pos h4] at hm2 ⊢
     rw [hbk,zO,← ym,hm2]
     exact (qrv _ _ _).symm
    refine zS ?_
    refine qa1 _ _ ReOk.refl ?_
    refine zS ?_
    ((with_reducible and_intros)<;>try exact sc_)
    refine qac (p.shs.length - (b+1)) _ _ (by omega) (by (simp only [ZZ,WW,Zd,reduceCtorEq,zd,ze,zb,zf,za];try trivial)) (by (simp only [ZZ,WW,Zd,reduceCtorEq,zd,ze,zb,zf,za];try trivial)) ⟨b+1,mpS kw x.id (.bool true),max mm x.to_,by omega,rfl,hm3,hpu,rfl,rfl⟩
   ·intro h3
    have h4:¬ p.pre=s.pre:=by simpa using h3
    refine zS ?_
    refine qa1 _ _ ReOk.refl ?_
    refine zS ?_
    ((with_reducible and_intros)<;>try exact sc_)
    refine qac (p.shs.length - (b+1)) _ _ (by omega) (by (simp only [ZZ,WW,Zd,reduceCtorEq,zd,ze,zb,zf,za];try trivial)) (by (simp only [ZZ,WW,Zd,reduceCtorEq,zd,ze,zb,zf,za];try trivial)) ⟨b+1,mpS kw x.id (.bool true),mm,by omega,rfl,(by rw [if_neg h4] at hm2 ⊢;exact hm2),hpu,rfl,rfl⟩
  intro h2
  have hbl:p.shs.length≤b:=by have:=of_decide_eq_false h2;omega
  rw [zC hbl] at hm2 hkw
  refine zS ?_
  ((with_reducible and_intros)<;>try exact sc_)
  refine qac (past.length - (a+1)) _ _ (by omega) (by (simp only [ZZ,WW,Zd,reduceCtorEq,zd,ze,zb,zf,za];try trivial)) (by (simp only [ZZ,WW,Zd,reduceCtorEq,zd,ze,zb,zf,za];try trivial)) ⟨a+1,kw,mm,by omega,rfl,(by rw [hm2,htk,qoG,pagT,pagT,List.flatMap_append];simp),(by rw [htk,idsT,List.flatMap_append];simpa [idsT] using hkw),rfl,rfl⟩
 intro h
 have hal:past.length≤a:=by have:=of_decide_eq_false h;omega
 rw [zC hal] at hn hkv
 obtain ⟨nb1,nb2⟩:=qnD (fun q hq x hx=>(qo2 hd0 q hq x hx).2.2) s.pre
 rw [← hn] at nb1 nb2
 clear h hal
 refine zS ?_
 refine use1 (qs8 il hP h12 l hl s.ord ho) rfl (.inl rfl) ?_
 obtain ⟨F,hF⟩:∃ F,chS il l s.ord=F:=⟨_,rfl⟩
 have hFl:F.length≤20:=by rw [← hF];exact zT (qqk il l s.ord) hP.1
 have hpr:prsM il l s.ord=F.flatMap (famP il):=by rw [prsM,hF]
 rw [hF]
 clear hF
 simp only [ZZ,WW,Zd,reduceCtorEq,zd,ze,zb,zf,za,zB]
 refine qad (fun n fr L=>∃ (c:Nat) (D:List (List UInt8×List UInt8)),c≤F.length∧n=F.length - c∧(D=(F.take c).flatMap (famP il))∧fr=(.p (.sl 7 (itE il))::.p (.sl 3 (rlE l))::oo::.row (.b 0)::oo::oo::.adr (.l 6) 0::oo::.adr (.l 8) 0::.p (int 0)::oo::.adr (.l 11) 0::.p (int (nn+totM il l s D))::.mp (.l 53)::oo::oo::oo::oo::.p (int nn)::.p (.bool (twM past D))::oG (oB (.p (.sl 2 (F.map (encF il)))::.p (int (F.length:Nat))::.p (int (c:Nat))::oG (oF (oo::[])))))∧L=[(.b 0,.row (pdE past) tPrd 4 true),(.l 6,.box [.p (.str s.pre),.p (int s.dig),.p (int s.ord),.p (.str s.slip),.p (.str s.skip),.p (int s.most)] 45),(.l 8,.box [.p (int 0),.p (.str []),.p (int 0),.p (.nl 7)] tPrd),(.l 11,.box [.p (int ((past.length:Nat)+1)),.p (.str s.pre),.p (int s.dig),.row (.l 157)] tPrd),(.l 157,.row (shE (shsM il l s nn D)) qg1 7 true),(.l 53,.map kv 9 4)]) (F.length) _ _ (by simp only [totM,Int.add_zero,twM,List.any_nil,zB,ZZ,WW,Zd,reduceCtorEq,zd,ze,zb,zf,za];try trivial) (by simp only [shsM,ZZ,WW,Zd,reduceCtorEq,zd,ze,zb,zf,za]) ⟨0,[],by omega,by omega,rfl,rfl,rfl⟩ ?_
 rintro n fr L ⟨c,D,hc,rfl,hD,rfl,rfl⟩
 simp only [qfz,ZZ,WW,Zd,reduceCtorEq,zd,ze,zb,zf,za]
 refine br ?_ ?_
 ·intro h
  have hlt:c < F.length:=by have:=of_decide_eq_true h;omega
  obtain ⟨t,ht⟩:∃ t,F[c]?=some t:=⟨_,zg hlt⟩
  have hg:(F.map (encF il)).getD c []=encF il t:=qas ht
  have htk:F.take (c+1)=F.take c++[t]:=by rw [zy hlt,(zt.1 ht).2]
  have hIl:(t :: kidsF il t).length≤21:=by have:=qbF il t;have:=hP.1;simp;omega
  have hfp:famP il t=(t :: kidsF il t).map fun i=>(t,i):=rfl
  simp only [encF] at hg
  generalize t :: kidsF il t=I at hg hIl hfp
  have hDl:D.length≤c * 21:=by
   rw [hD]
   have h1:=ql6 (famP il) 21 (F.take c) fun x _=>zT (qp9 il x) (by have:=hP.1;omega)
   rw [zP] at h1
   have:min c F.length=c:=by omega
   rw [this] at h1
   exact h1
  have hDl2:D.length≤420:=zT hDl (by omega)
  simp only [ZZ,WW,Zd,reduceCtorEq,zd,ze,zb,zf,za,hg,zB,qag]
  ((with_reducible and_intros)<;>try exact sc_)
  refine qad (fun n fr L=>∃ (d:Nat) (D2:List (List UInt8×List UInt8)),d≤I.length∧n=I.length - d∧(D2=D++(I.take d).map (fun i=>(t,i)))∧fr=(.p (.sl 7 (itE il))::.p (.sl 3 (rlE l))::oo::.row (.b 0)::oo::oo::.adr (.l 6) 0::oo::.adr (.l 8) 0::.p (int 0)::oo::.adr (.l 11) 0::.p (int (nn+totM il l s D2))::.mp (.l 53)::oo::oo::oo::oo::.p (int nn)::.p (.bool (twM past D2))::oo::.adr (.l 21) 0::oG (.p (.sl 2 (F.map (encF il)))::.p (int (F.length:Nat))::.p (int (c:Nat))::oo::oo::oo::oo::.p (.sl 1 (strE I))::.p (int (I.length:Nat))::.p (int (d:Nat))::oG (oE (oD (oB [])))))∧L=[(.b 0,.row (pdE past) tPrd 4 true),(.l 6,.box [.p (.str s.pre),.p (int s.dig),.p (int s.ord),.p (.str s.slip),.p (.str s.skip),.p (int s.most)] 45),(.l 8,.box [.p (int 0),.p (.str []),.p (int 0),.p (.nl 7)] tPrd),(.l 11,.box [.p (int ((past.length:Nat)+1)),.p (.str s.pre),.p (int s.dig),.row (.l 157)] tPrd),(.l 157,.row (shE (shsM il l s nn D2)) qg1 7 true),(.l 53,.map kv 9 4),(.l 21,.box [.p (.str t),.p (.sl 1 (strE I))] 119)]) (I.length) _ _ (by simp only [ZZ,WW,Zd,reduceCtorEq,zd,ze,zb,zf,za,qag];try trivial) (by (simp only [ZZ,WW,Zd,reduceCtorEq,zd,ze,zb,zf,za];try trivial)) ⟨0,D,by omega,by omega,(by simp),rfl,rfl⟩ ?_
  rintro n fr L ⟨d,D2,hd,rfl,hD2,rfl,rfl⟩
  simp only [qfy,ZZ,WW,Zd,reduceCtorEq,zd,ze,zb,zf,za]
  refine br ?_ ?_
  ·intro h2
   have hdl:d < I.length:=by have:=of_decide_eq_true h2;omega
   obtain ⟨id,hid⟩:∃ id,I[d]?=some id:=⟨_,zg hdl⟩
   have hgi:=qfH hid
   have hdk:I.take (d+1)=I.take d++[id]:=by rw [zy hdl,(zt.1 hid).2]
   have hD3:D2++[(t,id)]=D++(I.take (d+1)).map (fun i=>(t,i)):=by rw [hD2,hdk,zO,ym];rfl
   have hD2l:D2.length≤450:=by rw [hD2,zK,zB,zP];omega
   have tb1:=qmv hP l hs D2
   have tb2:=qmu il l s D2
   have hkn:=hkv id
   rw [qtP] at hkn
   have etw:(twM past D2 || qjI past id)=twM past (D2++[(t,id)]):=by simp [twM,List.any_append]
   have hRo:=qqP (E:=E0) l hl id
   simp only [rlV] at hRo
   obtain ⟨g1,g2,g3⟩:=qtB hP l hs id
   have e12:nn+totM il l s D2+((pgR il l s id).length:Nat)=nn+totM il l s (D2++[(t,id)]):=by rw [qnP,Int.add_assoc]
   have esh:shE (shsM il l s nn D2)++[[.str id,.str t,int (kdR l id),int (nn+totM il l s D2+1),int (nn+totM il l s D2+((pgR il l s id).length:Nat)),.sl 1 (tbE (pgR il l s id)),int 1]]=shE (shsM il l s nn (D2++[(t,id)])):=by
    rw [qnU,← qvg]
    rfl
   simp only [ZZ,WW,Zd,reduceCtorEq,zd,ze,zb,zf,za,hgi,qag,hkn]
   ((with_reducible and_intros)<;>try exact sc_)
   refine use1 hRo rfl (.inl rfl) ?_
   simp only [etw]
   by_cases w1:(rlOf l id).what=1
   ·obtain ⟨r1,r2⟩:=qsn hP id (rlOf l id).spans
    obtain ⟨t1,t2,t3⟩:=quV hP id
    have hIo:=qlV (E:=E0) il hP id
    have hRd:=qs4 (qg0 (itOf il id)) (rlOf l id).spans (by omega) (qtv hb id) (by have:=qnA _ _ (zM _) t2;unfold visE at this;exact (Bool.and_eq_true_iff.1 this).2) (quj hr0 id w1)
    have hPg:=qq3 (quM (qbU (qg0 (itOf il id)) (rlOf l id).spans) (by omega) r2)
    have hpg:pgsF (qfJ (qcD (qbU (qg0 (itOf il id)) (rlOf l id).spans)).1)=pgR il l s id:=by rw [pgR,if_pos w1]
    have hkd:kdR l id=1:=by rw [kdR,if_pos w1]
    rw [hpg] at hPg
    rw [hkd] at esh
    clear r1 r2 t1 t2 t3 hpg
    unfold qg0 at hRd hPg
    simp only [itC] at hIo
    generalize itOf il id=y at *
    generalize qbU y.2.2.2.2.2.2 (rlOf l id).spans=u at *
    generalize pgR il l s id=pg at *
    rw [e12] at esh
    simp only [sps] at hRd
    have w1d:decide ((rlOf l id).what=1)=true:=by rw [w1];rfl
    simp only [ZZ,WW,Zd,reduceCtorEq,zd,ze,zb,zf,za,w1d]
    refine ⟨qan (by omega) (by omega),?_⟩
    refine use1 hIo rfl (.inl rfl) ?_
    refine zS ?_
    refine use1 hRd rfl (.inl rfl) ?_
    refine zS ?_
    refine use1 hPg rfl (.inl rfl) ?_
    refine zS ?_
    refine qa1 _ _ ReOk.refl ?_
    simp only [ZZ,WW,Zd,reduceCtorEq,zd,ze,zb,zf,za,qaN,qaj,qhJ,esh,e12]
    ((with_reducible and_intros)<;>try exact sc_)
    refine qac (I.length - (d+1)) _ _ (by omega) (by (simp only [ZZ,WW,Zd,reduceCtorEq,zd,ze,zb,zf,za];try trivial)) (by (simp only [ZZ,WW,Zd,reduceCtorEq,zd,ze,zb,zf,za];try trivial)) ⟨d+1,D2++[(t,id)],by omega,rfl,hD3,rfl,rfl⟩
   ·have w1d:decide ((rlOf l id).what=1)=false:=decide_eq_false w1
    by_cases w2:(rlOf l id).what=2
    ·have w2d:decide ((rlOf l id).what=2)=true:=by rw [w2];rfl
     have hpg:pgR il l s id=[[s.slip]]:=by rw [pgR,if_neg w1,if_pos w2]
     have hkd:kdR l id=2:=by rw [kdR,if_neg w1,if_pos w2]
     rw [hkd,hpg] at esh
     rw [hpg] at e12
     simp only [zi,zo,Nat.zero_add,tbE,strE,zk,zr] at esh e12
     rw [e12] at esh
     simp only [ZZ,WW,Zd,reduceCtorEq,zd,ze,zb,zf,za,w1d,w2d]
     refine ⟨qan (by omega) (by omega),?_⟩
     refine drg0 ?_
     refine zS ?_
     refine qa1 _ _ ReOk.refl ?_
     simp only [ZZ,WW,Zd,reduceCtorEq,zd,ze,zb,zf,za,qaj,qhJ,esh,e12]
     ((with_reducible and_intros)<;>try exact sc_)
     refine qac (I.length - (d+1)) _ _ (by omega) (by (simp only [ZZ,WW,Zd,reduceCtorEq,zd,ze,zb,zf,za];try trivial)) (by (simp only [ZZ,WW,Zd,reduceCtorEq,zd,ze,zb,zf,za];try trivial)) ⟨d+1,D2++[(t,id)],by omega,rfl,hD3,rfl,rfl⟩
    ·have w2d:decide ((rlOf l id).what=2)=false:=decide_eq_false w2
     have hpg:pgR il l s id=[[s.skip]]:=by rw [pgR,if_neg w1,if_neg w2]
     have hkd:kdR l id=3:=by rw [kdR,if_neg w1,if_neg w2]
     rw [hkd,hpg] at esh
     rw [hpg] at e12
     simp only [zi,zo,Nat.zero_add,tbE,strE,zk,zr] at esh e12
     rw [e12] at esh
     simp only [ZZ,WW,Zd,reduceCtorEq,zd,ze,zb,zf,za,w1d,w2d]
     refine ⟨qan (by omega) (by omega),?_⟩
     refine drg0 ?_
     refine zS ?_
     refine qa1 _ _ ReOk.refl ?_
     simp only [ZZ,WW,Zd,reduceCtorEq,zd,ze,zb,zf,za,qaj,qhJ,esh,e12]
     ((with_reducible and_intros)<;>try exact sc_)
     refine qac (I.length - (d+1)) _ _ (by omega) (by (simp only [ZZ,WW,Zd,reduceCtorEq,zd,ze,zb,zf,za];try trivial)) (by (simp only [ZZ,WW,Zd,reduceCtorEq,zd,ze,zb,zf,za];try trivial)) ⟨d+1,D2++[(t,id)],by omega,rfl,hD3,rfl,rfl⟩
  intro h2
  have hdl:I.length≤d:=by have:=of_decide_eq_false h2;omega
  rw [zC hdl,← hfp] at hD2
  refine zS ?_
  ((with_reducible and_intros)<;>try exact sc_)
  refine qac (F.length - (c+1)) _ _ (by omega) (by (simp only [ZZ,WW,Zd,reduceCtorEq,zd,ze,zb,zf,za];try trivial)) (by (simp only [ZZ,WW,Zd,reduceCtorEq,zd,ze,zb,zf,za];try trivial)) ⟨c+1,D2,by omega,rfl,by rw [hD2,htk,List.flatMap_append,hD];simp,rfl,rfl⟩
 intro h
 have hcl:F.length≤c:=by have:=of_decide_eq_false h;omega
 rw [zC hcl,← hpr] at hD
 clear h hcl
 subst hD
 have tb1:=qmv hP l hs (prsM il l s.ord)
 have tb2:=qmu il l s (prsM il l s.ord)
 have tb3:=qny hP.1 l s.ord
 have hE2:pmE il l s past=if twM past (prsM il l s.ord)=true then 6 else if prsM il l s.ord=[] then 8 else if s.most < totM il l s (prsM il l s.ord) then 2 else if powF s.dig≤nn+totM il l s (prsM il l s.ord) then 12 else 0:=by
  rw [hE,hn]
  rfl
 have hfin:pmE il l s past=0→PV.tup [.agg [int ((past.length:Nat)+1),.str s.pre,int s.dig,.sl 7 (shE (shsM il l s nn (prsM il l s.ord)))],int 0]=.tup [.agg (pdV (pmP il l s past)),int (pmE il l s past)]:=by
  intro he
  unfold pmP
  rw [if_pos he,he,hn]
  rfl
 have hpw:=qmz hd9
 generalize prsM il l s.ord=D at *
 refine zS ?_
 refine br ?_ ?_
 ·intro h
  rw [if_pos h] at hE2
  refine zS ?_
  exact qjK (pdE past) rfl ⟨rfl,hend _ (by decide) hE2⟩
 intro h
 rw [if_neg (by rw [h];simp)] at hE2
 clear h
 have e0:decide ((D.length:Int)=0)=decide (D=[]):=by
  rw [decide_eq_decide]
  cases D<;>simp
  omega
 simp only [ZZ,WW,Zd,reduceCtorEq,zd,ze,zb,zf,za,qaj,qhJ,e0]
 refine br ?_ ?_
 ·intro h
  rw [if_pos (by simpa using h)] at hE2
  refine zS ?_
  exact qjK (pdE past) rfl ⟨rfl,hend _ (by decide) hE2⟩
 intro h
 rw [if_neg (by simpa using h)] at hE2
 clear h e0
 have e1:decide (s.most < nn+totM il l s D - nn)=decide (s.most < totM il l s D):=decide_eq_decide.2 (by omega)
 simp only [ZZ,WW,Zd,reduceCtorEq,zd,ze,zb,zf,za,e1]
 refine ⟨qan (by omega) (by omega),?_⟩
 refine br ?_ ?_
 ·intro h
  rw [if_pos (by simpa using h)] at hE2
  refine zS ?_
  exact qjK (pdE past) rfl ⟨rfl,hend _ (by decide) hE2⟩
 intro h
 rw [if_neg (by simpa using h)] at hE2
 clear h e1
 refine zS ?_
 refine use1 (qn1 s.dig (by omega) (by omega)) rfl (.inl rfl) ?_
 refine zS ?_
 refine br ?_ ?_
 ·intro h
  rw [if_pos (by simpa using h)] at hE2
  refine zS ?_
  exact qjK (pdE past) rfl ⟨rfl,hend _ (by decide) hE2⟩
 intro h
 rw [if_neg (by simpa using h)] at hE2
 clear h
 refine zS ?_
 rw [qa6]
 refine ⟨_,_,qbO (k:=.l 157) rfl,?_⟩
 refine zS ?_
 exact qjK (pdE past) rfl ⟨rfl,hfin hE2⟩
end Go.Proofs.YtehfjlpenlffmaaGreatDoor
