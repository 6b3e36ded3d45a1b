import Derived.Test.YtmpdnpljdcincaaGreatDoorZ15
set_option linter.unusedVariables false
set_option linter.unusedSimpArgs false
set_option linter.defProp false
namespace Go.Proofs.YtmpdnpljdcincaaGreatDoor
open Nat renaming le_refl→zD,reduceAdd→zd,reduceEqDiff→za,reduceLT→zf,reduceLeDiff→zb,reduceMul→ze
open List renaming append_assoc→yh,append_nil→z6,getElem?_eq_getElem→zg,length_append→zp,length_drop→zY,length_take→zJ,map_append→zF,map_congr_left→zP,map_cons→zx,map_map→ya
open Option renaming map_some→zN
open Go.RowKit
def wr (l:List UInt8):SRow:=wrF l.length l
theorem qsX:∀ (n:Nat) (l:List UInt8),NcP l→l.length≤n→wrF n l=wr l:=by
 have key:∀ (N n m:Nat) (l:List UInt8),NcP l→l.length≤N→l.length≤n→l.length≤m→wrF n l=wrF m l:=by
  intro N
  induction N with
  |zero=>
   intro n m l _ h _ _
   rw [qgN (by omega),qgN (by omega)]
  |succ N ih=>
   intro n m l hn h h1 h2
   by_cases h80:80 < l.length
   ·obtain ⟨a,rfl⟩:∃ a,n=a+1:=⟨n - 1,by omega⟩
    obtain ⟨b,rfl⟩:∃ b,m=b+1:=⟨m - 1,by omega⟩
    have g:=qnX hn h80
    have e1:=ih a b (l.drop ((liW l).toNat+1)) (qic hn _) (by rw [zY];omega) (by rw [zY];omega) (by rw [zY];omega)
    have e2:=ih a b (l.drop (qbk l 80)) (qic hn _) (by rw [zY];omega) (by rw [zY];omega) (by rw [zY];omega)
    rw [wrF,wrF,e1,e2]
   ·rw [qgN (by omega),qgN (by omega)]
 intro n l h0 h
 exact key l.length n l.length l h0 (zD _) h (zD _)
theorem qvD {l:List UInt8} (h:l.length≤80):wr l=[l]:=qgN h
theorem qAg {l:List UInt8} (hn:NcP l) (h:80 < l.length) (hb:brkB l=true):wr l=l.take (liW l).toNat :: wr (l.drop ((liW l).toNat+1)):=by
 obtain ⟨a,ha⟩:∃ a,l.length=a+1:=⟨l.length - 1,by omega⟩
 have:wr l=wrF (a+1) l:=by rw [wr,ha]
 rw [this,wrF,if_pos h,if_pos hb,qsX a _ (qic hn _) (by rw [zY];omega)]
theorem qAf {l:List UInt8} (hn:NcP l) (h:80 < l.length) (hb:brkB l=false):wr l=l.take (qbk l 80) :: wr (l.drop (qbk l 80)):=by
 obtain ⟨a,ha⟩:∃ a,l.length=a+1:=⟨l.length - 1,by omega⟩
 have:wr l=wrF (a+1) l:=by rw [wr,ha]
 have g:=qnX hn h
 rw [this,wrF,if_pos h,if_neg (by rw [hb];simp),qsX a _ (qic hn _) (by rw [zY];omega)]
theorem qxP (l:List UInt8):liW l=liF (l.take 81) 32:=rfl
theorem qA6 {l:List UInt8} (h:80 < l.length):-1≤liW l∧liW l < 81:=by
 rw [qxP]
 have hl:(l.take 81).length=81:=by rw [zJ];omega
 rcases qA7 (l.take 81) 32 with ⟨h1,h2⟩|⟨h1,h2⟩
 ·rw [hl] at h2;exact ⟨h1,h2⟩
 ·rw [h2];omega
theorem qu8 {s:List UInt8} {k:Nat} (hk:qbk s k=qbk s 80) (hl:k < s.length) (h0:0 < k) (h:ctB (s.getD k 0)=false):k=qbk s 80:=by
 obtain ⟨g,rfl⟩:∃ g,k=g+1:=⟨k - 1,by omega⟩
 rw [← hk,qbk,if_neg (by rw [qny hl,h];simp)]
theorem qzW {s:List UInt8} {k:Nat} (hk:qbk s (k+1)=qbk s 80) (hl:k+1 < s.length) (h:ctB (s.getD (k+1) 0)=true):qbk s k=qbk s 80:=by
 rw [← hk,qbk,if_pos (by rw [qny hl,h])]
def qds:IC:=(.seq (sR [qM 39 5,qM 40 6,qO 41 (.idx (.t 39) (.t 40)),jC 42 168 [.t 41],qO 43 (.not (.t 42))] (.cond (.t 43) .skip (.exit 4))) (.block 5 (.reg [qM 44 6,qB 45 .sub 44 (cI 1),qM 6 45])))
def qdt:IC:=(.seq (sR [qM 14 5,qO 15 (.sln (.t 14)),qB 16 .gtr 15 (cI 80)] (.cond (.t 16) .skip (.exit 2))) (.block 3 (sR [qM 17 5,qO 18 (.ssl (.t 17) none (some (cI 81))),jC 19 166 [.t 18,.c (.str [32])],qM 6 19] (.seq (sR [qM 20 6,qB 21 .gtr 20 (cI 0),qM 22 21,⟨some 23,.mov (.t 5),(some (22,true))⟩,⟨some 24,.mov (.t 6),(some (22,true))⟩,⟨some 25,.ssl (.t 23) none (some (.t 24)),(some (22,true))⟩,⟨some 26,.call 167 [.t 25,.c (.str [32])],(some (22,true))⟩,⟨some 27,.bin .neq (.t 26) (.c (.str [])),(some (22,true))⟩,qO 28 (.pick (.t 22) (.t 27) (.c (.bool false)))] (jW 28 (.seq (.drg [qM 29 3,qM 30 5,qM 31 6,qO 32 (.ssl (.t 30) none (some (.t 31))),qO 33 (.bsl 1 [.t 32]),qO 34 (.app 9 1 16 (.t 29) (.t 33)),qM 35 5,qM 36 6,qB 37 .add 36 (cI 1),qO 38 (.ssl (.t 35) (some (.t 37)) none),qM 3 34,qM 5 38]) (.exit 3)))) (sR [jI 6 80] (.seq (.block 4 (.loop qds)) (.drg [qM 46 3,qM 47 5,qM 48 6,qO 49 (.ssl (.t 47) none (some (.t 48))),qO 50 (.bsl 1 [.t 49]),qO 51 (.app 9 1 16 (.t 46) (.t 50)),qM 52 5,qM 53 6,qO 54 (.ssl (.t 52) (some (.t 53)) none),qM 3 51,qM 5 54])))))))
def qdu:IC:=(sR [qT 11 .lss 10 9] (.seq (jE 11) (.seq (.block 1 (sR [qX 12 1 8 10,qL 13 12,qM 5 13] (.seq (.block 2 (.loop qdt)) (.reg [qM 55 3,qM 56 5,qO 57 (.bsl 1 [.t 56]),qO 58 (.app 9 1 16 (.t 55) (.t 57)),qM 3 58])))) (.reg [qB 59 .add 10 (cI 1),qM 10 59]))))
abbrev qin:IC:=(sR [qO 2 (.mov (.c (.nl 1)))] (sR [qO 3 (.nilr 9 1)] (.seq (sR [qM 7 0,jC 8 165 [.t 7],qN 9 8,jI 10 0] (.block 0 (.loop qdu))) (sR [qM 60 3,qM 2 60] .ret))))
theorem qiz:chkF Tryz.prog Tryz.f121 qin [.t 2] 61=true:=by kernel_rfl
set_option maxHeartbeats 4000000 in
theorem qvh (t:List UInt8) (hs:t.length≤100000) (ht:qjy t=true):FCall Tryz.prog E0 121 [.str t] tStr 1 (·=strE (qfo (qel t).1)):=by
 unfold FCall
 refine qfF mixed Tryz.func121 qiz ?_
 refine zV ?_
 refine use1 (qsx t (by omega)) rfl (.inl rfl) ?_
 rw [qrF ht]
 obtain ⟨h1,h2,h3⟩:=qid ht
 generalize (qel t).1=ls at *
 rw [qeD]
 simp only [ZZ,WW,Zd,reduceCtorEq,zd,ze,zb,zf,za,qaf]
 have hR0:([]:List (List PV))=strE []:=rfl
 rw [hR0]
 refine qac (fun n fr L=>∃ (j:Nat) (R:SRow),j≤ls.length∧n=ls.length - j∧(R=qfo (ls.take j))∧fr=(oo::oo::oo::.row (.l 3)::oo::oo::oo::oo::.p (.sl 1 (strE ls))::.p (int (ls.length:Nat))::.p (int (j:Nat))::oF (oE (oB [])))∧L=[(.l 3,.row (strE R) tStr 1 true)]) (ls.length) _ _ (by simp only [ZZ,WW,Zd,reduceCtorEq,zd,ze,zb,zf,za,qaf];try trivial) zF_ ⟨0,[],by omega,by omega,rfl,rfl,rfl⟩ ?_
 rintro n fr L ⟨j,R,hj,rfl,hR,rfl,rfl⟩
 simp only [qdu,ZZ,WW,Zd,reduceCtorEq,zd,ze,zb,zf,za]
 refine br ?_ ?_
 ·intro h
  have hlt:j < ls.length:=by have:=of_decide_eq_true h;omega
  obtain ⟨s0,hx⟩:∃ s,ls[j]?=some s:=⟨_,zg hlt⟩
  have hg:(strE ls).getD j []=[.str s0]:=qc3 hx
  obtain ⟨hn,hsl0⟩:=h3 s0 (List.mem_of_getElem? hx)
  have hnx:qfo (ls.take (j+1))=R++wr s0:=by rw [qsb hx,hR];rfl
  have hl1:=qkV ls
  have hl2:=qmz (ls:=ls) (k:=j+1)
  rw [hnx,zp] at hl2
  simp only [ZZ,WW,Zd,reduceCtorEq,zd,ze,zb,zf,za,hg,qaf]
  ((with_reducible and_intros)<;>try exact sc_)
  refine qac (fun n fr L=>∃ (Q:SRow) (s:List UInt8),s.length=n∧(Q++wr s=R++wr s0)∧(s.length≤s0.length)∧(NcP s)∧fr=(oo::oo::oo::.row (.l 3)::oo::.p (.str s)::oo::oo::.p (.sl 1 (strE ls))::.p (int (ls.length:Nat))::.p (int (j:Nat))::oF (oE (oB [])))∧L=[(.l 3,.row (strE Q) tStr 1 true)]) (s0.length) (oo::oo::oo::.row (.l 3)::oo::.p (.str s0)::oo::oo::.p (.sl 1 (strE ls))::.p (int (ls.length:Nat))::.p (int (j:Nat))::oF (oE (oB []))) [(.l 3,.row (strE R) tStr 1 true)] zF_ zF_ ⟨R,s0,rfl,rfl,zD _,hn,rfl,rfl⟩ ?_
  rintro n fr L ⟨Q,s,rfl,hQ,hsl,hns,rfl,rfl⟩
  simp only [qdt,ZZ,WW,Zd,reduceCtorEq,zd,ze,zb,zf,za]
  have hQl:Q.length≤2000000:=by
   have h1:=congrArg List.length hQ
   rw [zp,zp] at h1
   omega
  refine br ?_ ?_
  ·intro h
   have h80:80 < s.length:=by have:=of_decide_eq_true h;omega
   have hlw:=qA6 h80
   have e81:(81:Int).toNat=81:=rfl
   simp only [ZZ,WW,Zd,reduceCtorEq,zd,ze,zb,zf,za,e81]
   ((with_reducible and_intros)<;>try exact sc_)
   refine use1 (qpN (s.take 81) 32 (by rw [zJ];omega)) rfl (.inl rfl) ?_
   rw [← qxP]
   refine zS ?_
   ((with_reducible and_intros)<;>try exact sc_)
   refine useG (fun hg=>qfL (s.take (liW s).toNat) [32] (by rw [zJ];omega) (by simp) rfl) rfl (.inl rfl) ?_
   refine zS ?_
   ((with_reducible and_intros)<;>try exact sc_)
   refine br ?_ ?_
   ·intro hb
    have hbk:brkB s=true:=hb
    have h0:0 < liW s:=of_decide_eq_true (Bool.and_eq_true_iff.1 hb).1
    rw [qAg hns h80 hbk] at hQ
    refine zS ?_
    refine drg0 ?_
    have e1:(liW s+1).toNat=(liW s).toNat+1:=by omega
    have hdl:(s.drop ((liW s).toNat+1)).length < s.length:=by rw [zY];omega
    have hst:strE Q++[[PV.str (s.take (liW s).toNat)]]=strE (Q++[s.take (liW s).toNat]):=by simp [strE]
    simp only [ZZ,WW,Zd,reduceCtorEq,zd,ze,zb,zf,za,qaf,List.take_length,e1]
    ((with_reducible and_intros)<;>try exact sc_)
    rw [hst]
    refine qab ((s.drop ((liW s).toNat+1)).length) (oo::oo::oo::.row (.l 3)::oo::.p (.str (s.drop ((liW s).toNat+1)))::oo::oo::.p (.sl 1 (strE ls))::.p (int (ls.length:Nat))::.p (int (j:Nat))::oF (oE (oB []))) [(.l 3,.row (strE (Q++[s.take (liW s).toNat])) tStr 1 true)] (by omega) zF_ zF_ ⟨Q++[s.take (liW s).toNat],s.drop ((liW s).toNat+1),rfl,by rw [yh];exact hQ,by omega,qic hns _,rfl,rfl⟩
   ·intro hb
    have hbk:brkB s=false:=hb
    rw [qAf hns h80 hbk] at hQ
    obtain ⟨g1,g2⟩:=qnX hns h80
    refine zS ?_
    refine qac (fun n fr L=>∃ (k:Nat),k=n∧(qbk s k=qbk s 80)∧(qbk s 80≤k)∧(k≤80)∧fr=(oo::oo::oo::.row (.l 3)::oo::.p (.str s)::.p (int (k:Nat))::oo::.p (.sl 1 (strE ls))::.p (int (ls.length:Nat))::.p (int (j:Nat))::oF (oE (oB [])))∧L=[(.l 3,.row (strE Q) tStr 1 true)]) (80) (oo::oo::oo::.row (.l 3)::oo::.p (.str s)::.p (int (80:Nat))::oo::.p (.sl 1 (strE ls))::.p (int (ls.length:Nat))::.p (int (j:Nat))::oF (oE (oB []))) [(.l 3,.row (strE Q) tStr 1 true)] zF_ zF_ ⟨80,rfl,rfl,qkQ s 80,zD _,rfl,rfl⟩ ?_
    rintro n fr L ⟨k,rfl,hk,hk2,hk3,rfl,rfl⟩
    simp only [qds,ZZ,WW,Zd,reduceCtorEq,zd,ze,zb,zf,za]
    ((with_reducible and_intros)<;>try exact sc_)
    refine use1 (qpL (s.getD k 0)) rfl (.inl rfl) ?_
    simp only [ZZ,WW,Zd,reduceCtorEq,zd,ze,zb,zf,za,Bool.not_not]
    refine br ?_ ?_
    ·intro hc
     have hkb:qbk s 80 < k:=by
      rcases Nat.lt_or_eq_of_le hk2 with h1|h1
      ·exact h1
      ·rw [← h1,g2] at hc;cases hc
     obtain ⟨g,rfl⟩:∃ g,k=g+1:=⟨k - 1,by omega⟩
     have hgg:((g+1:Nat):Int) - 1=(g:Nat):=by omega
     simp only [ZZ,WW,Zd,reduceCtorEq,zd,ze,zb,zf,za,hgg]
     ((with_reducible and_intros)<;>try exact sc_)
     refine qab ((g)) _ _ (by omega) zF_ zF_ ⟨g,rfl,qzW hk (by omega) hc,by omega,by omega,rfl,rfl⟩
    ·intro hc
     have hkn:=qu8 hk (by omega) (by omega) hc
     subst hkn
     have hdl:(s.drop (qbk s 80)).length < s.length:=by rw [zY];omega
     have hst:strE Q++[[PV.str (s.take (qbk s 80))]]=strE (Q++[s.take (qbk s 80)]):=by simp [strE]
     have e1:((qbk s 80:Nat):Int).toNat=qbk s 80:=by omega
     refine zS ?_
     refine drg0 ?_
     simp only [ZZ,WW,Zd,reduceCtorEq,zd,ze,zb,zf,za,qaf,List.take_length,e1]
     ((with_reducible and_intros)<;>try exact sc_)
     rw [hst]
     refine qab ((s.drop (qbk s 80)).length) (oo::oo::oo::.row (.l 3)::oo::.p (.str (s.drop (qbk s 80)))::oo::oo::.p (.sl 1 (strE ls))::.p (int (ls.length:Nat))::.p (int (j:Nat))::oF (oE (oB []))) [(.l 3,.row (strE (Q++[s.take (qbk s 80)])) tStr 1 true)] (by omega) zF_ zF_ ⟨Q++[s.take (qbk s 80)],s.drop (qbk s 80),rfl,by rw [yh];exact hQ,by omega,qic hns _,rfl,rfl⟩
  ·intro h
   have h80:s.length≤80:=by have:=of_decide_eq_false h;omega
   rw [qvD h80] at hQ
   have hst:strE Q++[[PV.str s]]=strE (Q++[s]):=by simp [strE]
   simp only [ZZ,WW,Zd,reduceCtorEq,zd,ze,zb,zf,za,qaf]
   ((with_reducible and_intros)<;>try exact sc_)
   rw [hst]
   refine qab (ls.length - (j+1)) _ _ (by omega) zF_ zF_ ⟨j+1,Q++[s],by omega,rfl,by rw [hQ,hnx],rfl,rfl⟩
 ·intro h
  have hge:j=ls.length:=by have:=of_decide_eq_false h;omega
  rw [hge,List.take_length] at hR
  refine zS ?_
  exact qjd 3 _ rfl rfl (by rw [hR])
def qdb:IC:=(sR [qT 11 .lss 10 9] (.seq (jE 11) (.seq (.block 1 (sR [qX 12 1 8 10,qL 13 12,qM 5 13] (.seq (sR [qM 14 3,qM 15 3,qN 16 15,qB 17 .sub 16 (cI 1),qX 18 1 14 17,qL 19 18,qN 20 19,qB 21 .eql 20 (cI 50)] (jW 21 (.reg [qM 22 3,qO 23 (.bsr 41 1 [.c (.nl 1)]),qO 24 (.app 41 1 24 (.t 22) (.t 23)),qM 3 24]))) (.cut (.reg [qM 25 3,qM 26 3,qN 27 26,qB 28 .sub 27 (cI 1),qM 29 3,qM 30 3,qN 31 30,qB 32 .sub 31 (cI 1),qX 33 1 29 32,qL 34 33,qM 35 5,qO 36 (.bsl 1 [.t 35]),qO 37 (.app 9 1 16 (.t 34) (.t 36)),qX 38 1 25 28,qS 1 38 37]))))) (.reg [qB 39 .add 10 (cI 1),qM 10 39]))))
abbrev qhO:IC:=(sR [qO 2 (.mov (.c (.nl 1)))] (sR [qO 6 (.bsr 41 1 [.c (.nl 1)]),qM 3 6] (.seq (sR [qM 7 0,jC 8 121 [.t 7],qN 9 8,jI 10 0] (.block 0 (.loop qdb))) (sR [qM 40 3,qM 2 40] .ret))))
theorem qhW:chkF Tryz.prog Tryz.f59 qhO [.t 2] 41=true:=by kernel_rfl
abbrev tPgs:Nat:=41
def tbA (T:Tab):List (List AV):=(tbE T).map (·.map AV.p)
theorem qtb (T:Tab):Zba (tbA T)=some (tbE T):=by
 unfold tbA
 induction T with
 |nil=>rfl
 |cons r T ih=>
  simp only [tbE,zx] at ih ⊢
  rw [Zba,ih]
  rfl
theorem qvI (T:Tab) (k:Key):(tbA T).map (fun x=>x.map fun y=>AV.kill k y)=tbA T:=by
 unfold tbA
 rw [ya]
 exact zP fun x _=>qmj k x
theorem qta (T:Tab):(tbA T++[[AV.row (.l 37)]]).map (fun x=>x.map fun y=>AV.ren (r1 37 1000) y)=tbA T++[[AV.row (.l 1000)]]:=by
 rw [zF]
 congr 1
 unfold tbA
 rw [ya]
 exact zP fun x _=>by rw [Function.comp_apply,ya];exact zP fun _ _=>rfl
theorem qkY (T:Tab):(tbA T).length=T.length:=by simp [tbA,tbE]
theorem qhy (T:Tab) (x:List AV):(tbA T++[x]).length=T.length+1:=by rw [zp,qkY];rfl
theorem qiK (T:Tab) (x:List AV):(tbA T++[x]).getD T.length []=x:=by
 rw [List.getD,List.getElem?_append_right (by rw [qkY];exact zD _),qkY,Nat.sub_self]
 rfl
theorem qmO (T:Tab) (x y:List AV):(tbA T++[x]).set T.length y=tbA T++[y]:=by
 rw [List.set_append_right _ _ (by rw [qkY];exact zD _),qkY,Nat.sub_self]
 rfl
theorem qq9 (T:Tab) (k:Key) (c:AV):(tbA T++[[c]]).map (fun x=>x.map fun y=>AV.kill k y)=tbA T++[[c.kill k]]:=by
 rw [zF,qvI];rfl
def PgJ (L:Objs) (p:SRow) (k:Nat):Prop:=
 (k=0∧Zar L (.l 6)=some (.rowv (tbA []++[[.p (.nl 1)]]) tPgs 1))∨(0 < k∧Zar L (.l 6)=some (.rowv (tbA (pgIn p k)++[[.row (.l 1000)]]) tPgs 1)∧Zar L (.l 1000)=some (.row (strE (pgCu p k)) tStr 1 true))
theorem qrv {E:Envt} {fr:List AV} {L:Objs} {I:Tab} {cur:SRow} {x:List (List AV)} (hfr:∀ y,fr.map (·.thaw (.l 1000) y)=fr) (hx:∀ y,x.map (fun c=>c.map (AV.thaw (.l 1000) y))=x) (h1:Zar L (.l 6)=some (.rowv (tbA I++[[.row (.l 1000)]]++x) tPgs 1)) (h2:Zar L (.l 1000)=some (.row (strE cur) tStr 1 true)) :
  ∃ L',ReOk E fr L fr L'∧Zar L' (.l 6)=some (.rowv (tbA (I++[cur])++x) tPgs 1):=by
 have hr:=qaN (E:=E) (fr:=fr) h2
 rw [hfr] at hr
 refine ⟨_,hr,?_⟩
 rw [qdD,if_neg (by simp),h1,zN,AO.thaw]
 congr 2
 rw [zF,zF,hx]
 simp [tbA,tbE,AV.thaw]
set_option maxHeartbeats 4000000 in
theorem qsQ (t:List UInt8) (hs:t.length≤100000) (ht:qjy t=true):FCall Tryz.prog E0 59 [.str t] tPgs 1 (·=tbE (pgsF (qfo (qel t).1))):=by
 unfold FCall
 refine qfF mixed Tryz.func59 qhW ?_
 refine zV ?_
 refine use1 (qoF (qvh t hs ht)) rfl (.inl rfl) ?_
 have hpl:(qfo (qel t).1).length≤1000000:=by
  have h1:=qkV (qel t).1
  have h2:=(qid ht).1
  omega
 generalize qfo (qel t).1=p at *
 simp only [ZZ,WW,Zd,reduceCtorEq,zd,ze,zb,zf,za,qaf]
 obtain ⟨J,hJ⟩:∃ J:Nat→Objs→Prop,J=fun k L=>(k < p.length∧PgJ L p k)∨(k=p.length∧Zar L (.l 6)=some (.row (tbE (pgsF p)) tPgs 1 true)):=⟨_,rfl⟩
 have hnx:∀ k L,k≤p.length→PgJ L p k→∃ L',ReOk E0 (.p (.str t)::oo::oo::.row (.l 6)::oo::oo::oo::oo::.p (.sl 1 (strE p))::.p (int (p.length:Nat))::.p (int (k:Nat))::oE (oD (oC (oB [])))) L (.p (.str t)::oo::oo::.row (.l 6)::oo::oo::oo::oo::.p (.sl 1 (strE p))::.p (int (p.length:Nat))::.p (int (k:Nat))::oE (oD (oC (oB [])))) L'∧J k L':=by
  intro k L hk h
  by_cases hkl:k < p.length
  ·exact ⟨L,ReOk.refl,by rw [hJ];exact .inl ⟨hkl,h⟩⟩
  ·rcases h with ⟨h0,h1⟩|⟨h0,h1,h2⟩
   ·have hp:p=[]:=List.eq_nil_of_length_eq_zero (by omega)
    refine ⟨_,qdN h1 (es':=[[.sl 1 []]]) rfl,?_⟩
    rw [hJ]
    refine .inr ⟨by omega,?_⟩
    rw [qad,if_pos rfl,pgsF,if_pos hp]
    rfl
   ·have hp:p≠[]:=by intro e;rw [e] at hk;simp at hk;omega
    have hkp:k=p.length:=by omega
    obtain ⟨L1,r1,h3⟩:=qrv (E:=E0) (fr:=(.p (.str t)::oo::oo::.row (.l 6)::oo::oo::oo::oo::.p (.sl 1 (strE p))::.p (int (p.length:Nat))::.p (int (k:Nat))::oE (oD (oC (oB []))))) (x:=[]) (by
     intro y
     have e1:(Key.l 6=.l 1000)=False:=by simp
     simp only [zx,List.map_nil,AV.thaw,e1,if_false]) (fun _=>rfl) (by rw [z6];exact h1) h2
    rw [z6,hkp,qAO hp] at h3
    refine ⟨_,ReOk.trans r1 (qdN h3 (qtb _)),?_⟩
    rw [hJ]
    refine .inr ⟨hkp,?_⟩
    rw [qad,if_pos rfl]
 obtain ⟨L1,q1,q2⟩:=hnx 0 [(.l 6,.rowv [[.p (.nl 1)]] tPgs 1)] (by omega) (.inl ⟨rfl,rfl⟩)
 refine qfR (fun m fr L=>∃ k,k≤p.length∧m=p.length - k∧fr=(.p (.str t)::oo::oo::.row (.l 6)::oo::oo::oo::oo::.p (.sl 1 (strE p))::.p (int (p.length:Nat))::.p (int (k:Nat))::oE (oD (oC (oB []))))∧J k L) p.length _ L1 (ReOk.trans (qlb (by simp only [ZZ,WW,Zd,reduceCtorEq,zd,ze,zb,zf,za,qaf];try trivial)) q1) ⟨0,by omega,by omega,rfl,q2⟩ ?_
 clear q1 q2 L1
 rintro m fr L ⟨k,hk,rfl,rfl,hj⟩
 simp only [qdb,ZZ,WW,Zd,reduceCtorEq,zd,ze,zb,zf,za]
 rw [hJ] at hj
 refine br ?_ ?_
 ·intro h
  have hlt:k < p.length:=by have:=of_decide_eq_true h;omega
  rcases hj with ⟨_,hj⟩|⟨e,_⟩
  rotate_left
  ·omega
  obtain ⟨s,hsx⟩:∃ s,p[k]?=some s:=⟨_,zg hlt⟩
  have hg:(strE p).getD k []=[.str s]:=qc3 hsx
  have hnx1:=fun L=>hnx (k+1) L (by omega)
  have hIl:(pgIn p k).length≤1000000:=by rw [qwe];omega
  have hCl:=qy7 (p:=p) (k:=k) hk
  rcases hj with ⟨h0,hl1⟩|⟨h0,hl1,hl2⟩
  ·subst h0
   obtain ⟨w1,w2⟩:=qAN hsx
   obtain ⟨I,hI⟩:∃ I:Tab,I=[]:=⟨_,rfl⟩
   have w1:pgIn p (0+1)=I:=by rw [hI];exact w1
   have w2:pgCu p (0+1)=[s]:=w2
   rw [← hI] at hl1
   have hix:((I.length+1:Nat):Int) - 1=(I.length:Nat):=by omega
   have hIl:I.length≤1000000:=by rw [hI];simp
   clear hI
   simp only [ZZ,WW,Zd,reduceCtorEq,zd,ze,zb,zf,za,hg,qaf,hl1,qhy,hix,qiK]
   ((with_reducible and_intros)<;>try exact sc_)
   refine br (fun h=>by simp at h) ?_
   intro _
   refine zS ?_
   refine qaF _ _ ReOk.refl ?_
   simp only [ZZ,WW,Zd,reduceCtorEq,zd,ze,zb,zf,za,qap,qad,qar,hl1,qhy,hix,qiK,qmO,qq9]
   ((with_reducible and_intros)<;>try exact sc_)
   generalize hLL:Zas (Zas _ (Key.l 37) _) (Key.l 6) _=LL
   obtain ⟨L2,r2,h2⟩:=hnx1 (mapO (r1 37 1000) LL) (by
    refine .inr ⟨by omega,?_,?_⟩
    ·rw [w1,← hLL,qbW,if_neg (by simp),if_neg (by simp),qad,if_pos rfl]
     simp only [zN,AO.ren]
     exact congrArg (fun c=>some (AO.rowv c tPgs 1)) (qta _)
    ·rw [w2,← hLL,qbW,if_pos rfl,qad,if_neg (by simp),qad,if_pos rfl]
     rfl)
   refine qe4 (p.length - (0+1)) _ L2 (by omega) (ReOk.trans (qrq 37 1000) (ReOk.trans (qlb (by simp only [AV.ren,r1,ZZ,WW,Zd,reduceCtorEq,zd,ze,zb,zf,za];try trivial)) r2)) ⟨0+1,by omega,rfl,rfl,h2⟩
  ·obtain ⟨I,hI⟩:∃ I:Tab,I=pgIn p k:=⟨_,rfl⟩
   obtain ⟨cur,hcu⟩:∃ cur:SRow,cur=pgCu p k:=⟨_,rfl⟩
   have hix:((I.length+1:Nat):Int) - 1=(I.length:Nat):=by omega
   rw [← hI] at hl1 hIl
   rw [← hcu] at hl2 hCl
   simp only [ZZ,WW,Zd,reduceCtorEq,zd,ze,zb,zf,za,hg,qaf,hl1,hl2,qhy,hix,qiK]
   ((with_reducible and_intros)<;>try exact sc_)
   refine br ?_ ?_
   ·intro h50
    have h50:(pgCu p k).length=50:=by rw [← hcu];have:=of_decide_eq_true h50;omega
    obtain ⟨w1,w2⟩:=qy6 h0 h50 hsx
    rw [← hI,← hcu] at w1
    simp only [ZZ,WW,Zd,reduceCtorEq,zd,ze,zb,zf,za,qap,qad,qar,hl1,hl2,qhy,qq9]
    ((with_reducible and_intros)<;>try exact sc_)
    generalize hLL:Zas (Zat _ (Zas _ (Key.l 23) _)) (Key.l 6) _=LL
    have q1:Zar LL (.l 6)=some (.rowv (tbA I++[[.row (.l 1000)]]++[[.p (.nl 1)]]) tPgs 1):=by rw [← hLL,qad,if_pos rfl]
    have q2:Zar LL (.l 1000)=some (.row (strE cur) tStr 1 true):=by
     rw [← hLL]
     simp only [qad,qar,hl2,ZZ,WW,Zd,reduceCtorEq,zd,ze,zb,zf,za]
    clear hLL hl1 hl2
    obtain ⟨L3,r3,hl1⟩:=qrv (E:=E0) (fr:=(.p (.str t)::oo::oo::.row (.l 6)::oo::.p (.str s)::oo::oo::.p (.sl 1 (strE p))::.p (int (p.length:Nat))::.p (int (k:Nat))::oE (oD (oC (oB []))))) (x:=[[.p (.nl 1)]]) (by
     intro y
     have e1:(Key.l 6=.l 1000)=False:=by simp
     simp only [zx,List.map_nil,AV.thaw,e1,if_false]) (fun _=>rfl) q1 q2
    refine qaF (.p (.str t)::oo::oo::.row (.l 6)::oo::.p (.str s)::oo::oo::.p (.sl 1 (strE p))::.p (int (p.length:Nat))::.p (int (k:Nat))::oE (oD (oC (oB [])))) L3 (ReOk.trans (qlb zF_) r3) ?_
    clear r3 q1 q2
    obtain ⟨I2,hI2⟩:∃ I2:Tab,I2=I++[cur]:=⟨_,rfl⟩
    rw [← hI2] at hl1 w1
    have hix:((I2.length+1:Nat):Int) - 1=(I2.length:Nat):=by omega
    have hIl:I2.length≤2000000:=by rw [hI2,zp];simp;omega
    clear hI2
    simp only [ZZ,WW,Zd,reduceCtorEq,zd,ze,zb,zf,za,qap,qad,qar,hl1,qhy,hix,qiK,qmO,qq9]
    ((with_reducible and_intros)<;>try exact sc_)
    generalize hLL:Zas (Zas _ (Key.l 37) _) (Key.l 6) _=LL
    obtain ⟨L2,r2,h2⟩:=hnx1 (mapO (r1 37 1000) LL) (by
     refine .inr ⟨by omega,?_,?_⟩
     ·rw [w1,← hLL,qbW,if_neg (by simp),if_neg (by simp),qad,if_pos rfl]
      simp only [zN,AO.ren]
      exact congrArg (fun c=>some (AO.rowv c tPgs 1)) (qta _)
     ·rw [w2,← hLL,qbW,if_pos rfl,qad,if_neg (by simp),qad,if_pos rfl]
      rfl)
    refine qe4 (p.length - (k+1)) _ L2 (by omega) (ReOk.trans (qrq 37 1000) (ReOk.trans (qlb (by simp only [AV.ren,r1,ZZ,WW,Zd,reduceCtorEq,zd,ze,zb,zf,za];try trivial)) r2)) ⟨k+1,by omega,rfl,rfl,h2⟩
   ·intro h50
    have h50:¬ (pgCu p k).length=50:=by rw [← hcu];have:=of_decide_eq_false h50;omega
    obtain ⟨w1,w2⟩:=qy5 h0 h50 hsx
    rw [← hI] at w1
    rw [← hcu] at w2
    refine zS ?_
    refine qaF _ _ ReOk.refl ?_
    simp only [ZZ,WW,Zd,reduceCtorEq,zd,ze,zb,zf,za,qap,qad,qar,hl1,hl2,qhy,hix,qiK,qmO,qq9,qaf]
    ((with_reducible and_intros)<;>try exact sc_)
    generalize hLL:Zas (Zas _ (Key.l 1000) _) (Key.l 6) _=LL
    obtain ⟨L2,r2,h2⟩:=hnx1 LL (.inr ⟨by omega,by rw [w1,← hLL,qad,if_pos rfl],by rw [w2,← hLL,qad,if_neg (by simp),qad,if_pos rfl,qeq];rfl⟩)
    refine qe4 (p.length - (k+1)) _ L2 (by omega) (ReOk.trans (qlb zF_) r2) ⟨k+1,by omega,rfl,rfl,h2⟩
 ·intro h
  have hge:k=p.length:=by have:=of_decide_eq_false h;omega
  rcases hj with ⟨e,_⟩|⟨_,hO⟩
  ·omega
  subst hge
  refine zS ?_
  exact qjd 6 _ rfl hO rfl
end Go.Proofs.YtmpdnpljdcincaaGreatDoor
