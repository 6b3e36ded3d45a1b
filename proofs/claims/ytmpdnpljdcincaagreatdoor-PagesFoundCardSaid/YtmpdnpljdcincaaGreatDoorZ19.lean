import Derived.Test.YtmpdnpljdcincaaGreatDoorZ16
import Derived.Test.YtmpdnpljdcincaaGreatDoorZ4
set_option linter.unusedVariables false
set_option linter.unusedSimpArgs false
set_option linter.defProp false
namespace Go.Proofs.YtmpdnpljdcincaaGreatDoor
open Nat renaming le_refl→zM,reduceAdd→zd,reduceEqDiff→za,reduceLT→zf,reduceLeDiff→zb,reduceMul→ze,reduceSub→zx
open List renaming append_assoc→yt,cons_append→zp,getElem?_eq_getElem→zh,length_append→zC,length_cons→zj,length_drop→z8,length_nil→zr,length_take→zN,map_append→zT,map_congr_left→zX,map_cons→zo,map_map→ye,map_nil→zw,nil_append→zq,replicate_succ→zi,replicate_zero→zm
open Option renaming map_some→zQ
open Go.RowKit
def wr (l:List UInt8):SRow:=wrF l.length l
theorem qtO:∀ (n:Nat) (l:List UInt8),NcP l→l.length≤n→wrF n l=wr l:=by
 have key:∀ (N n m:Nat) (l:List UInt8),NcP l→l.length≤N→l.length≤n→l.length≤m→wrF n l=wrF m l:=by
  intro N
  induction N with
  |zero=>
   intro n m l _ h _ _
   rw [qi5 (by omega),qi5 (by omega)]
  |succ N ih=>
   intro n m l hn h h1 h2
   by_cases h80:80 < l.length
   ·obtain ⟨a,rfl⟩:∃ a,n=a+1:=⟨n - 1,by omega⟩
    obtain ⟨b,rfl⟩:∃ b,m=b+1:=⟨m - 1,by omega⟩
    have g:=qph hn h80
    have e1:=ih a b (l.drop ((liW l).toNat+1)) (qkn hn _) (by rw [z8];omega) (by rw [z8];omega) (by rw [z8];omega)
    have e2:=ih a b (l.drop (qbH l 80)) (qkn hn _) (by rw [z8];omega) (by rw [z8];omega) (by rw [z8];omega)
    rw [wrF,wrF,e1,e2]
   ·rw [qi5 (by omega),qi5 (by omega)]
 intro n l h0 h
 exact key l.length n l.length l h0 (zM _) h (zM _)
theorem qv9 {l:List UInt8} (h:l.length≤80):wr l=[l]:=qi5 h
theorem qAz {l:List UInt8} (hn:NcP l) (h:80 < l.length) (hb:brkB l=true):wr l=l.take (liW l).toNat :: wr (l.drop ((liW l).toNat+1)):=by
 obtain ⟨a,ha⟩:∃ a,l.length=a+1:=⟨l.length - 1,by omega⟩
 have:wr l=wrF (a+1) l:=by rw [wr,ha]
 rw [this,wrF,if_pos h,if_pos hb,qtO a _ (qkn hn _) (by rw [z8];omega)]
theorem qAy {l:List UInt8} (hn:NcP l) (h:80 < l.length) (hb:brkB l=false):wr l=l.take (qbH l 80) :: wr (l.drop (qbH l 80)):=by
 obtain ⟨a,ha⟩:∃ a,l.length=a+1:=⟨l.length - 1,by omega⟩
 have:wr l=wrF (a+1) l:=by rw [wr,ha]
 have g:=qph hn h
 rw [this,wrF,if_pos h,if_neg (by rw [hb];simp),qtO a _ (qkn hn _) (by rw [z8];omega)]
theorem qya (l:List UInt8):liW l=liF (l.take 81) 32:=rfl
theorem qBo {l:List UInt8} (h:80 < l.length):-1≤liW l∧liW l < 81:=by
 rw [qya]
 have hl:(l.take 81).length=81:=by rw [zN];omega
 rcases qBp (l.take 81) 32 with ⟨h1,h2⟩|⟨h1,h2⟩
 ·rw [hl] at h2;exact ⟨h1,h2⟩
 ·rw [h2];omega
theorem qvJ {s:List UInt8} {k:Nat} (hk:qbH s k=qbH s 80) (hl:k < s.length) (h0:0 < k) (h:ctB (s.getD k 0)=false):k=qbH s 80:=by
 obtain ⟨g,rfl⟩:∃ g,k=g+1:=⟨k - 1,by omega⟩
 rw [← hk,qbH,if_neg (by rw [qoV hl,h];simp)]
theorem qAl {s:List UInt8} {k:Nat} (hk:qbH s (k+1)=qbH s 80) (hl:k+1 < s.length) (h:ctB (s.getD (k+1) 0)=true):qbH s k=qbH s 80:=by
 rw [← hk,qbH,if_pos (by rw [qoV hl,h])]
def qe4:IC:=(.seq (sR [qM 39 5,qM 40 6,qO 41 (.idx (.t 39) (.t 40)),qO 42 (.call 168 [.t 41]),qO 43 (.not (.t 42))] (.cond (.t 43) .skip (.exit 4))) (.block 5 (.reg [qM 44 6,qB 45 .sub 44 (cI 1),qM 6 45])))
def qe5:IC:=(.seq (sR [qM 14 5,qO 15 (.sln (.t 14)),qB 16 .gtr 15 (cI 80)] (.cond (.t 16) .skip (.exit 2))) (.block 3 (sR [qM 17 5,qO 18 (.ssl (.t 17) none (some (cI 81))),qO 19 (.call 166 [.t 18,.c (.str [32])]),qM 6 19] (.seq (sR [qM 20 6,qB 21 .gtr 20 (cI 0),qM 22 21,⟨some 23,.mov (.t 5),(some (22,true))⟩,⟨some 24,.mov (.t 6),(some (22,true))⟩,⟨some 25,.ssl (.t 23) none (some (.t 24)),(some (22,true))⟩,⟨some 26,.call 167 [.t 25,.c (.str [32])],(some (22,true))⟩,⟨some 27,.bin .neq (.t 26) (.c (.str [])),(some (22,true))⟩,qO 28 (.pick (.t 22) (.t 27) (.c (.bool false)))] (.cond (.t 28) (.seq (.drg [qM 29 3,qM 30 5,qM 31 6,qO 32 (.ssl (.t 30) none (some (.t 31))),qO 33 (.bsl 1 [.t 32]),qO 34 (.app 9 1 16 (.t 29) (.t 33)),qM 35 5,qM 36 6,qB 37 .add 36 (cI 1),qO 38 (.ssl (.t 35) (some (.t 37)) none),qM 3 34,qM 5 38]) (.exit 3)) .skip)) (sR [qO 6 (.mov (cI 80))] (.seq (.block 4 (.loop qe4)) (.drg [qM 46 3,qM 47 5,qM 48 6,qO 49 (.ssl (.t 47) none (some (.t 48))),qO 50 (.bsl 1 [.t 49]),qO 51 (.app 9 1 16 (.t 46) (.t 50)),qM 52 5,qM 53 6,qO 54 (.ssl (.t 52) (some (.t 53)) none),qM 3 51,qM 5 54])))))))
def qe6:IC:=(sR [qT 11 .lss 10 9] (.seq (.cond (.t 11) .skip (.exit 0)) (.seq (.block 1 (sR [qX 12 1 8 10,qL 13 12,qM 5 13] (.seq (.block 2 (.loop qe5)) (.reg [qM 55 3,qM 56 5,qO 57 (.bsl 1 [.t 56]),qO 58 (.app 9 1 16 (.t 55) (.t 57)),qM 3 58])))) (.reg [qB 59 .add 10 (cI 1),qM 10 59]))))
def qgW:IC:=(sR [qO 2 (.mov (.c (.nl 1)))] (sR [qO 3 (.nilr 9 1)] (.seq (sR [qM 7 0,qO 8 (.call 165 [.t 7]),qN 9 8,qO 10 (.mov (cI 0))] (.block 0 (.loop qe6))) (sR [qM 60 3,qM 2 60] .ret))))
def qgC:List IRes:=[.t 2]
theorem qkz:chkF Tryz.prog Tryz.f121 qgW qgC 61=true:=by kernel_rfl
set_option maxHeartbeats 4000000 in
theorem qvR (t:List UInt8) (hs:t.length≤100000) (ht:qlq t=true):FCall Tryz.prog E0 121 [.str t] tStr 1 (·=strE (qhJ (qgc t).1)):=by
 unfold FCall
 refine qjt mixed Tryz.func121 qkz ?_
 simp only [a0,l0,OS.ao,zo,zw,zj,zr,zp,zq,zx,zd,zi,zm,qgW,qgC,ZZ,WW,Ze,reduceCtorEq,zd,ze,zb,zf,za]
 refine use1 (qtt t (by omega)) rfl (.inl rfl) ?_
 rw [qsG ht]
 obtain ⟨h1,h2,h3⟩:=qkp ht
 generalize (qgc t).1=ls at *
 rw [qq5]
 simp only [ZZ,WW,Ze,reduceCtorEq,zd,ze,zb,zf,za,qai]
 have hR0:([]:List (List PV))=strE []:=rfl
 rw [hR0]
 refine qad (fun n fr L=>∃ (j:Nat) (R:SRow),j≤ls.length∧n=ls.length - j∧(R=qhJ (ls.take j))∧fr=(oo::oo::oo::.row (.l 3)::oo::oo::oo::oo::.p (.sl 1 (strE ls))::.p (int (ls.length:Nat))::.p (int (j:Nat))::oF (oE (oB [])))∧L=[(.l 3,.row (strE R) tStr 1 true)]) (ls.length) _ _ (by simp only [ZZ,WW,Ze,reduceCtorEq,zd,ze,zb,zf,za,qai];try trivial) (by (simp only [ZZ,WW,Ze,reduceCtorEq,zd,ze,zb,zf,za];try trivial)) ⟨0,[],by omega,by omega,rfl,rfl,rfl⟩ ?_
 rintro n fr L ⟨j,R,hj,rfl,hR,rfl,rfl⟩
 simp only [qe6,ZZ,WW,Ze,reduceCtorEq,zd,ze,zb,zf,za]
 refine br ?_ ?_
 ·intro h
  have hlt:j < ls.length:=by have:=of_decide_eq_true h;omega
  obtain ⟨s0,hx⟩:∃ s,ls[j]?=some s:=⟨_,zh hlt⟩
  have hg:(strE ls).getD j []=[.str s0]:=qjQ hx
  obtain ⟨hn,hsl0⟩:=h3 s0 (List.mem_of_getElem? hx)
  have hnx:qhJ (ls.take (j+1))=R++wr s0:=by rw [qs8 hx,hR];rfl
  have hl1:=qmC ls
  have hl2:=qn8 (ls:=ls) (k:=j+1)
  rw [hnx,zC] at hl2
  simp only [ZZ,WW,Ze,reduceCtorEq,zd,ze,zb,zf,za,hg,qai]
  ((with_reducible and_intros)<;>try exact sc_)
  refine qad (fun n fr L=>∃ (Q:SRow) (s:List UInt8),s.length=n∧(Q++wr s=R++wr s0)∧(s.length≤s0.length)∧(NcP s)∧fr=(oo::oo::oo::.row (.l 3)::oo::.p (.str s)::oo::oo::.p (.sl 1 (strE ls))::.p (int (ls.length:Nat))::.p (int (j:Nat))::oF (oE (oB [])))∧L=[(.l 3,.row (strE Q) tStr 1 true)]) (s0.length) (oo::oo::oo::.row (.l 3)::oo::.p (.str s0)::oo::oo::.p (.sl 1 (strE ls))::.p (int (ls.length:Nat))::.p (int (j:Nat))::oF (oE (oB []))) [(.l 3,.row (strE R) tStr 1 true)] (by (simp only [ZZ,WW,Ze,reduceCtorEq,zd,ze,zb,zf,za];try trivial)) (by (simp only [ZZ,WW,Ze,reduceCtorEq,zd,ze,zb,zf,za];try trivial)) ⟨R,s0,rfl,rfl,zM _,hn,rfl,rfl⟩ ?_
  rintro n fr L ⟨Q,s,rfl,hQ,hsl,hns,rfl,rfl⟩
  simp only [qe5,ZZ,WW,Ze,reduceCtorEq,zd,ze,zb,zf,za]
  have hQl:Q.length≤2000000:=by
   have h1:=congrArg List.length hQ
   rw [zC,zC] at h1
   omega
  refine br ?_ ?_
  ·intro h
   have h80:80 < s.length:=by have:=of_decide_eq_true h;omega
   have hlw:=qBo h80
   have e81:(81:Int).toNat=81:=rfl
   simp only [ZZ,WW,Ze,reduceCtorEq,zd,ze,zb,zf,za,e81]
   ((with_reducible and_intros)<;>try exact sc_)
   refine use1 (qqR (s.take 81) 32 (by rw [zN];omega)) rfl (.inl rfl) ?_
   rw [← qya]
   refine zS ?_
   ((with_reducible and_intros)<;>try exact sc_)
   refine useG (fun hg=>qic (s.take (liW s).toNat) [32] (by rw [zN];omega) (by simp) rfl) rfl (.inl rfl) ?_
   refine zS ?_
   ((with_reducible and_intros)<;>try exact sc_)
   refine br ?_ ?_
   ·intro hb
    have hbk:brkB s=true:=hb
    have h0:0 < liW s:=of_decide_eq_true (Bool.and_eq_true_iff.1 hb).1
    rw [qAz hns h80 hbk] at hQ
    refine zS ?_
    refine drg0 ?_
    have e1:(liW s+1).toNat=(liW s).toNat+1:=by omega
    have hdl:(s.drop ((liW s).toNat+1)).length < s.length:=by rw [z8];omega
    have hst:strE Q++[[PV.str (s.take (liW s).toNat)]]=strE (Q++[s.take (liW s).toNat]):=by simp [strE]
    simp only [ZZ,WW,Ze,reduceCtorEq,zd,ze,zb,zf,za,qai,List.take_length,e1]
    ((with_reducible and_intros)<;>try exact sc_)
    rw [hst]
    refine qac ((s.drop ((liW s).toNat+1)).length) (oo::oo::oo::.row (.l 3)::oo::.p (.str (s.drop ((liW s).toNat+1)))::oo::oo::.p (.sl 1 (strE ls))::.p (int (ls.length:Nat))::.p (int (j:Nat))::oF (oE (oB []))) [(.l 3,.row (strE (Q++[s.take (liW s).toNat])) tStr 1 true)] (by omega) (by (simp only [ZZ,WW,Ze,reduceCtorEq,zd,ze,zb,zf,za];try trivial)) (by (simp only [ZZ,WW,Ze,reduceCtorEq,zd,ze,zb,zf,za];try trivial)) ⟨Q++[s.take (liW s).toNat],s.drop ((liW s).toNat+1),rfl,by rw [yt];exact hQ,by omega,qkn hns _,rfl,rfl⟩
   ·intro hb
    have hbk:brkB s=false:=hb
    rw [qAy hns h80 hbk] at hQ
    obtain ⟨g1,g2⟩:=qph hns h80
    refine zS ?_
    refine qad (fun n fr L=>∃ (k:Nat),k=n∧(qbH s k=qbH s 80)∧(qbH s 80≤k)∧(k≤80)∧fr=(oo::oo::oo::.row (.l 3)::oo::.p (.str s)::.p (int (k:Nat))::oo::.p (.sl 1 (strE ls))::.p (int (ls.length:Nat))::.p (int (j:Nat))::oF (oE (oB [])))∧L=[(.l 3,.row (strE Q) tStr 1 true)]) (80) (oo::oo::oo::.row (.l 3)::oo::.p (.str s)::.p (int (80:Nat))::oo::.p (.sl 1 (strE ls))::.p (int (ls.length:Nat))::.p (int (j:Nat))::oF (oE (oB []))) [(.l 3,.row (strE Q) tStr 1 true)] (by (simp only [ZZ,WW,Ze,reduceCtorEq,zd,ze,zb,zf,za];try trivial)) (by (simp only [ZZ,WW,Ze,reduceCtorEq,zd,ze,zb,zf,za];try trivial)) ⟨80,rfl,rfl,qmw s 80,zM _,rfl,rfl⟩ ?_
    rintro n fr L ⟨k,rfl,hk,hk2,hk3,rfl,rfl⟩
    simp only [qe4,ZZ,WW,Ze,reduceCtorEq,zd,ze,zb,zf,za]
    ((with_reducible and_intros)<;>try exact sc_)
    refine use1 (qqP (s.getD k 0)) rfl (.inl rfl) ?_
    simp only [ZZ,WW,Ze,reduceCtorEq,zd,ze,zb,zf,za,Bool.not_not]
    refine br ?_ ?_
    ·intro hc
     have hkb:qbH s 80 < k:=by
      rcases Nat.lt_or_eq_of_le hk2 with h1|h1
      ·exact h1
      ·rw [← h1,g2] at hc;cases hc
     obtain ⟨g,rfl⟩:∃ g,k=g+1:=⟨k - 1,by omega⟩
     have hgg:((g+1:Nat):Int) - 1=(g:Nat):=by omega
     simp only [ZZ,WW,Ze,reduceCtorEq,zd,ze,zb,zf,za,hgg]
     ((with_reducible and_intros)<;>try exact sc_)
     refine qac ((g)) _ _ (by omega) (by (simp only [ZZ,WW,Ze,reduceCtorEq,zd,ze,zb,zf,za];try trivial)) (by (simp only [ZZ,WW,Ze,reduceCtorEq,zd,ze,zb,zf,za];try trivial)) ⟨g,rfl,qAl hk (by omega) hc,by omega,by omega,rfl,rfl⟩
    ·intro hc
     have hkn:=qvJ hk (by omega) (by omega) hc
     subst hkn
     have hdl:(s.drop (qbH s 80)).length < s.length:=by rw [z8];omega
     have hst:strE Q++[[PV.str (s.take (qbH s 80))]]=strE (Q++[s.take (qbH s 80)]):=by simp [strE]
     have e1:((qbH s 80:Nat):Int).toNat=qbH s 80:=by omega
     refine zS ?_
     refine drg0 ?_
     simp only [ZZ,WW,Ze,reduceCtorEq,zd,ze,zb,zf,za,qai,List.take_length,e1]
     ((with_reducible and_intros)<;>try exact sc_)
     rw [hst]
     refine qac ((s.drop (qbH s 80)).length) (oo::oo::oo::.row (.l 3)::oo::.p (.str (s.drop (qbH s 80)))::oo::oo::.p (.sl 1 (strE ls))::.p (int (ls.length:Nat))::.p (int (j:Nat))::oF (oE (oB []))) [(.l 3,.row (strE (Q++[s.take (qbH s 80)])) tStr 1 true)] (by omega) (by (simp only [ZZ,WW,Ze,reduceCtorEq,zd,ze,zb,zf,za];try trivial)) (by (simp only [ZZ,WW,Ze,reduceCtorEq,zd,ze,zb,zf,za];try trivial)) ⟨Q++[s.take (qbH s 80)],s.drop (qbH s 80),rfl,by rw [yt];exact hQ,by omega,qkn hns _,rfl,rfl⟩
  ·intro h
   have h80:s.length≤80:=by have:=of_decide_eq_false h;omega
   rw [qv9 h80] at hQ
   have hst:strE Q++[[PV.str s]]=strE (Q++[s]):=by simp [strE]
   simp only [ZZ,WW,Ze,reduceCtorEq,zd,ze,zb,zf,za,qai]
   ((with_reducible and_intros)<;>try exact sc_)
   rw [hst]
   refine qac (ls.length - (j+1)) _ _ (by omega) (by (simp only [ZZ,WW,Ze,reduceCtorEq,zd,ze,zb,zf,za];try trivial)) (by (simp only [ZZ,WW,Ze,reduceCtorEq,zd,ze,zb,zf,za];try trivial)) ⟨j+1,Q++[s],by omega,rfl,by rw [hQ,hnx],rfl,rfl⟩
 ·intro h
  have hge:j=ls.length:=by have:=of_decide_eq_false h;omega
  rw [hge,List.take_length] at hR
  refine zS ?_
  exact ql7 3 _ rfl rfl (by rw [hR])
def qeB:IC:=(sR [qT 11 .lss 10 9] (.seq (.cond (.t 11) .skip (.exit 0)) (.seq (.block 1 (sR [qX 12 1 8 10,qL 13 12,qM 5 13] (.seq (sR [qM 14 3,qM 15 3,qN 16 15,qB 17 .sub 16 (cI 1),qX 18 1 14 17,qL 19 18,qN 20 19,qB 21 .eql 20 (cI 50)] (.cond (.t 21) (.reg [qM 22 3,qO 23 (.bsr 41 1 [.c (.nl 1)]),qO 24 (.app 41 1 24 (.t 22) (.t 23)),qM 3 24]) .skip)) (.cut (.reg [qM 25 3,qM 26 3,qN 27 26,qB 28 .sub 27 (cI 1),qM 29 3,qM 30 3,qN 31 30,qB 32 .sub 31 (cI 1),qX 33 1 29 32,qL 34 33,qM 35 5,qO 36 (.bsl 1 [.t 35]),qO 37 (.app 9 1 16 (.t 34) (.t 36)),qX 38 1 25 28,qS 1 38 37]))))) (.reg [qB 39 .add 10 (cI 1),qM 10 39]))))
def qgl:IC:=(sR [qO 2 (.mov (.c (.nl 1)))] (sR [qO 6 (.bsr 41 1 [.c (.nl 1)]),qM 3 6] (.seq (sR [qM 7 0,qO 8 (.call 121 [.t 7]),qN 9 8,qO 10 (.mov (cI 0))] (.block 0 (.loop qeB))) (sR [qM 40 3,qM 2 40] .ret))))
def qga:List IRes:=[.t 2]
theorem qka:chkF Tryz.prog Tryz.f59 qgl qga 41=true:=by kernel_rfl
abbrev tPgs:Nat:=41
def tbA (T:Tab):List (List AV):=(tbE T).map (·.map AV.p)
theorem qtY (T:Tab):Zbb (tbA T)=some (tbE T):=by
 unfold tbA
 induction T with
 |nil=>rfl
 |cons r T ih=>
  simp only [tbE,zo] at ih ⊢
  rw [Zbb,ih]
  rfl
theorem qwb (T:Tab) (k:Key):(tbA T).map (fun x=>x.map fun y=>AV.kill k y)=tbA T:=by
 unfold tbA
 rw [ye]
 exact zX fun x _=>qnU k x
theorem qtX (T:Tab):(tbA T++[[AV.row (.l 37)]]).map (fun x=>x.map fun y=>AV.ren (r1 37 1000) y)=tbA T++[[AV.row (.l 1000)]]:=by
 rw [zT]
 congr 1
 unfold tbA
 rw [ye]
 exact zX fun x _=>by rw [Function.comp_apply,ye];exact zX fun _ _=>rfl
theorem qmD (T:Tab):(tbA T).length=T.length:=by simp [tbA,tbE]
theorem qjP (T:Tab) (x:List AV):(tbA T++[x]).length=T.length+1:=by rw [zC,qmD];rfl
theorem qkI (T:Tab) (x:List AV):(tbA T++[x]).getD T.length []=x:=by
 rw [List.getD,List.getElem?_append_right (by rw [qmD];exact zM _),qmD,Nat.sub_self]
 rfl
theorem qoe (T:Tab) (x y:List AV):(tbA T++[x]).set T.length y=tbA T++[y]:=by
 rw [List.set_append_right _ _ (by rw [qmD];exact zM _),qmD,Nat.sub_self]
 rfl
theorem qsb (T:Tab) (k:Key) (c:AV):(tbA T++[[c]]).map (fun x=>x.map fun y=>AV.kill k y)=tbA T++[[c.kill k]]:=by
 rw [zT,qwb];rfl
def PgJ (L:Objs) (p:SRow) (k:Nat):Prop:=
 (k=0∧Zas L (.l 6)=some (.rowv (tbA []++[[.p (.nl 1)]]) tPgs 1))∨(0 < k∧Zas L (.l 6)=some (.rowv (tbA (pgIn p k)++[[.row (.l 1000)]]) tPgs 1)∧Zas L (.l 1000)=some (.row (strE (pgCu p k)) tStr 1 true))
theorem qsz {E:Envt} {fr:List AV} {L:Objs} {I:Tab} {cur:SRow} {x:List (List AV)} (hfr:∀ y,fr.map (·.thaw (.l 1000) y)=fr) (hx:∀ y,x.map (fun c=>c.map (AV.thaw (.l 1000) y))=x) (h1:Zas L (.l 6)=some (.rowv (tbA I++[[.row (.l 1000)]]++x) tPgs 1)) (h2:Zas L (.l 1000)=some (.row (strE cur) tStr 1 true)) :
  ∃ L',ReOk E fr L fr L'∧Zas L' (.l 6)=some (.rowv (tbA (I++[cur])++x) tPgs 1):=by
 have hr:=qbA (E:=E) (fr:=fr) h2
 rw [hfr] at hr
 refine ⟨_,hr,?_⟩
 rw [qfe,if_neg (by simp),h1,zQ,AO.thaw]
 congr 2
 rw [zT,zT,hx]
 simp [tbA,tbE,AV.thaw]
set_option maxHeartbeats 4000000 in
theorem qtK (t:List UInt8) (hs:t.length≤100000) (ht:qlq t=true):FCall Tryz.prog E0 59 [.str t] tPgs 1 (·=tbE (pgsF (qhJ (qgc t).1))):=by
 unfold FCall
 refine qjt mixed Tryz.func59 qka ?_
 simp only [a0,l0,OS.ao,zo,zw,zj,zr,zp,zq,zx,zd,zi,zm,qgl,qga,ZZ,WW,Ze,reduceCtorEq,zd,ze,zb,zf,za]
 refine use1 (qsw (qvR t hs ht)) rfl (.inl rfl) ?_
 have hpl:(qhJ (qgc t).1).length≤1000000:=by
  have h1:=qmC (qgc t).1
  have h2:=(qkp ht).1
  omega
 generalize qhJ (qgc t).1=p at *
 simp only [ZZ,WW,Ze,reduceCtorEq,zd,ze,zb,zf,za,qai]
 obtain ⟨J,hJ⟩:∃ J:Nat→Objs→Prop,J=fun k L=>(k < p.length∧PgJ L p k)∨(k=p.length∧Zas L (.l 6)=some (.row (tbE (pgsF p)) tPgs 1 true)):=⟨_,rfl⟩
 have hnx:∀ k L,k≤p.length→PgJ L p k→∃ L',ReOk E0 (.p (.str t)::oo::oo::.row (.l 6)::oo::oo::oo::oo::.p (.sl 1 (strE p))::.p (int (p.length:Nat))::.p (int (k:Nat))::oE (oD (oC (oB [])))) L (.p (.str t)::oo::oo::.row (.l 6)::oo::oo::oo::oo::.p (.sl 1 (strE p))::.p (int (p.length:Nat))::.p (int (k:Nat))::oE (oD (oC (oB [])))) L'∧J k L':=by
  intro k L hk h
  by_cases hkl:k < p.length
  ·exact ⟨L,ReOk.refl,by rw [hJ];exact .inl ⟨hkl,h⟩⟩
  ·rcases h with ⟨h0,h1⟩|⟨h0,h1,h2⟩
   ·have hp:p=[]:=List.eq_nil_of_length_eq_zero (by omega)
    refine ⟨_,qhh h1 (es':=[[.sl 1 []]]) rfl,?_⟩
    rw [hJ]
    refine .inr ⟨by omega,?_⟩
    rw [qab,if_pos rfl,pgsF,if_pos hp]
    rfl
   ·have hp:p≠[]:=by intro e;rw [e] at hk;simp at hk;omega
    have hkp:k=p.length:=by omega
    obtain ⟨L1,r1,h3⟩:=qsz (E:=E0) (fr:=(.p (.str t)::oo::oo::.row (.l 6)::oo::oo::oo::oo::.p (.sl 1 (strE p))::.p (int (p.length:Nat))::.p (int (k:Nat))::oE (oD (oC (oB []))))) (x:=[]) (by
     intro y
     have e1:(Key.l 6=.l 1000)=False:=by simp
     simp only [zo,zw,AV.thaw,e1,if_false]) (fun _=>rfl) (by rw [List.append_nil];exact h1) h2
    rw [List.append_nil,hkp,qA7 hp] at h3
    refine ⟨_,ReOk.trans r1 (qhh h3 (qtY _)),?_⟩
    rw [hJ]
    refine .inr ⟨hkp,?_⟩
    rw [qab,if_pos rfl]
 obtain ⟨L1,q1,q2⟩:=hnx 0 [(.l 6,.rowv [[.p (.nl 1)]] tPgs 1)] (by omega) (.inl ⟨rfl,rfl⟩)
 refine qoP (fun m fr L=>∃ k,k≤p.length∧m=p.length - k∧fr=(.p (.str t)::oo::oo::.row (.l 6)::oo::oo::oo::oo::.p (.sl 1 (strE p))::.p (int (p.length:Nat))::.p (int (k:Nat))::oE (oD (oC (oB []))))∧J k L) p.length _ L1 (ReOk.trans (qmV (by simp only [ZZ,WW,Ze,reduceCtorEq,zd,ze,zb,zf,za,qai];try trivial)) q1) ⟨0,by omega,by omega,rfl,q2⟩ ?_
 clear q1 q2 L1
 rintro m fr L ⟨k,hk,rfl,rfl,hj⟩
 simp only [qeB,ZZ,WW,Ze,reduceCtorEq,zd,ze,zb,zf,za]
 rw [hJ] at hj
 refine br ?_ ?_
 ·intro h
  have hlt:k < p.length:=by have:=of_decide_eq_true h;omega
  rcases hj with ⟨_,hj⟩|⟨e,_⟩
  rotate_left
  ·omega
  obtain ⟨s,hsx⟩:∃ s,p[k]?=some s:=⟨_,zh hlt⟩
  have hg:(strE p).getD k []=[.str s]:=qjQ hsx
  have hnx1:=fun L=>hnx (k+1) L (by omega)
  have hIl:(pgIn p k).length≤1000000:=by rw [qwG];omega
  have hCl:=qzr (p:=p) (k:=k) hk
  rcases hj with ⟨h0,hl1⟩|⟨h0,hl1,hl2⟩
  ·subst h0
   obtain ⟨w1,w2⟩:=qA6 hsx
   obtain ⟨I,hI⟩:∃ I:Tab,I=[]:=⟨_,rfl⟩
   have w1:pgIn p (0+1)=I:=by rw [hI];exact w1
   have w2:pgCu p (0+1)=[s]:=w2
   rw [← hI] at hl1
   have hix:((I.length+1:Nat):Int) - 1=(I.length:Nat):=by omega
   have hIl:I.length≤1000000:=by rw [hI];simp
   clear hI
   simp only [ZZ,WW,Ze,reduceCtorEq,zd,ze,zb,zf,za,hg,qai,hl1,qjP,hix,qkI]
   ((with_reducible and_intros)<;>try exact sc_)
   refine br (fun h=>by simp at h) ?_
   intro _
   refine zS ?_
   refine qbh _ _ ReOk.refl ?_
   simp only [ZZ,WW,Ze,reduceCtorEq,zd,ze,zb,zf,za,qas,qab,qav,hl1,qjP,hix,qkI,qoe,qsb]
   ((with_reducible and_intros)<;>try exact sc_)
   generalize hLL:Zat (Zat _ (Key.l 37) _) (Key.l 6) _=LL
   obtain ⟨L2,r2,h2⟩:=hnx1 (mapO (r1 37 1000) LL) (by
    refine .inr ⟨by omega,?_,?_⟩
    ·rw [w1,← hLL,qcQ,if_neg (by simp),if_neg (by simp),qab,if_pos rfl]
     simp only [zQ,AO.ren]
     exact congrArg (fun c=>some (AO.rowv c tPgs 1)) (qtX _)
    ·rw [w2,← hLL,qcQ,if_pos rfl,qab,if_neg (by simp),qab,if_pos rfl]
     rfl)
   refine qkh (p.length - (0+1)) _ L2 (by omega) (ReOk.trans (qss 37 1000) (ReOk.trans (qmV (by simp only [AV.ren,r1,ZZ,WW,Ze,reduceCtorEq,zd,ze,zb,zf,za];try trivial)) r2)) ⟨0+1,by omega,rfl,rfl,h2⟩
  ·obtain ⟨I,hI⟩:∃ I:Tab,I=pgIn p k:=⟨_,rfl⟩
   obtain ⟨cur,hcu⟩:∃ cur:SRow,cur=pgCu p k:=⟨_,rfl⟩
   have hix:((I.length+1:Nat):Int) - 1=(I.length:Nat):=by omega
   rw [← hI] at hl1 hIl
   rw [← hcu] at hl2 hCl
   simp only [ZZ,WW,Ze,reduceCtorEq,zd,ze,zb,zf,za,hg,qai,hl1,hl2,qjP,hix,qkI]
   ((with_reducible and_intros)<;>try exact sc_)
   refine br ?_ ?_
   ·intro h50
    have h50:(pgCu p k).length=50:=by rw [← hcu];have:=of_decide_eq_true h50;omega
    obtain ⟨w1,w2⟩:=qzq h0 h50 hsx
    rw [← hI,← hcu] at w1
    simp only [ZZ,WW,Ze,reduceCtorEq,zd,ze,zb,zf,za,qas,qab,qav,hl1,hl2,qjP,qsb]
    ((with_reducible and_intros)<;>try exact sc_)
    generalize hLL:Zat (Zau _ (Zat _ (Key.l 23) _)) (Key.l 6) _=LL
    have q1:Zas LL (.l 6)=some (.rowv (tbA I++[[.row (.l 1000)]]++[[.p (.nl 1)]]) tPgs 1):=by rw [← hLL,qab,if_pos rfl]
    have q2:Zas LL (.l 1000)=some (.row (strE cur) tStr 1 true):=by
     rw [← hLL]
     simp only [qab,qav,hl2,ZZ,WW,Ze,reduceCtorEq,zd,ze,zb,zf,za]
    clear hLL hl1 hl2
    obtain ⟨L3,r3,hl1⟩:=qsz (E:=E0) (fr:=(.p (.str t)::oo::oo::.row (.l 6)::oo::.p (.str s)::oo::oo::.p (.sl 1 (strE p))::.p (int (p.length:Nat))::.p (int (k:Nat))::oE (oD (oC (oB []))))) (x:=[[.p (.nl 1)]]) (by
     intro y
     have e1:(Key.l 6=.l 1000)=False:=by simp
     simp only [zo,zw,AV.thaw,e1,if_false]) (fun _=>rfl) q1 q2
    refine qbh (.p (.str t)::oo::oo::.row (.l 6)::oo::.p (.str s)::oo::oo::.p (.sl 1 (strE p))::.p (int (p.length:Nat))::.p (int (k:Nat))::oE (oD (oC (oB [])))) L3 (ReOk.trans (qmV zF_) r3) ?_
    clear r3 q1 q2
    obtain ⟨I2,hI2⟩:∃ I2:Tab,I2=I++[cur]:=⟨_,rfl⟩
    rw [← hI2] at hl1 w1
    have hix:((I2.length+1:Nat):Int) - 1=(I2.length:Nat):=by omega
    have hIl:I2.length≤2000000:=by rw [hI2,zC];simp;omega
    clear hI2
    simp only [ZZ,WW,Ze,reduceCtorEq,zd,ze,zb,zf,za,qas,qab,qav,hl1,qjP,hix,qkI,qoe,qsb]
    ((with_reducible and_intros)<;>try exact sc_)
    generalize hLL:Zat (Zat _ (Key.l 37) _) (Key.l 6) _=LL
    obtain ⟨L2,r2,h2⟩:=hnx1 (mapO (r1 37 1000) LL) (by
     refine .inr ⟨by omega,?_,?_⟩
     ·rw [w1,← hLL,qcQ,if_neg (by simp),if_neg (by simp),qab,if_pos rfl]
      simp only [zQ,AO.ren]
      exact congrArg (fun c=>some (AO.rowv c tPgs 1)) (qtX _)
     ·rw [w2,← hLL,qcQ,if_pos rfl,qab,if_neg (by simp),qab,if_pos rfl]
      rfl)
    refine qkh (p.length - (k+1)) _ L2 (by omega) (ReOk.trans (qss 37 1000) (ReOk.trans (qmV (by simp only [AV.ren,r1,ZZ,WW,Ze,reduceCtorEq,zd,ze,zb,zf,za];try trivial)) r2)) ⟨k+1,by omega,rfl,rfl,h2⟩
   ·intro h50
    have h50:¬ (pgCu p k).length=50:=by rw [← hcu];have:=of_decide_eq_false h50;omega
    obtain ⟨w1,w2⟩:=qzp h0 h50 hsx
    rw [← hI] at w1
    rw [← hcu] at w2
    refine zS ?_
    refine qbh _ _ ReOk.refl ?_
    simp only [ZZ,WW,Ze,reduceCtorEq,zd,ze,zb,zf,za,qas,qab,qav,hl1,hl2,qjP,hix,qkI,qoe,qsb,qai]
    ((with_reducible and_intros)<;>try exact sc_)
    generalize hLL:Zat (Zat _ (Key.l 1000) _) (Key.l 6) _=LL
    obtain ⟨L2,r2,h2⟩:=hnx1 LL (.inr ⟨by omega,by rw [w1,← hLL,qab,if_pos rfl],by rw [w2,← hLL,qab,if_neg (by simp),qab,if_pos rfl,qjR];rfl⟩)
    refine qkh (p.length - (k+1)) _ L2 (by omega) (ReOk.trans (qmV zF_) r2) ⟨k+1,by omega,rfl,rfl,h2⟩
 ·intro h
  have hge:k=p.length:=by have:=of_decide_eq_false h;omega
  rcases hj with ⟨e,_⟩|⟨_,hO⟩
  ·omega
  subst hge
  refine zS ?_
  exact ql7 6 _ rfl hO rfl
end Go.Proofs.YtmpdnpljdcincaaGreatDoor
