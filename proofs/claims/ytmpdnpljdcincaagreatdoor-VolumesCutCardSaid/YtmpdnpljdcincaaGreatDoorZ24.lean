import Derived.Test.YtmpdnpljdcincaaGreatDoorZ23
set_option linter.unusedVariables false
set_option linter.unusedSimpArgs false
set_option linter.defProp false
namespace Go.Proofs.YtmpdnpljdcincaaGreatDoor
open Nat renaming le_refl→zD,reduceAdd→zd,reduceEqDiff→za,reduceLT→zf,reduceLeDiff→zb,reduceMul→ze
open List renaming append_nil→z6,getD→zu,getElem?_append_right→z8,getElem?_eq_getElem→zg,length_append→zp,length_map→zw,length_take→zJ,map_append→zF,mem_of_getElem?→zm,take_of_length_le→zq,take_succ_eq_append_getElem→zo
open Int renaming toNat_natCast→zZ
open Go.RowKit
def qbZ:IC:=(sR [qT 64 .lss 63 62] (.seq (.cond (.t 64) .skip (.exit 2)) (.seq (.block 3 (sR [qX 65 7 61 63,qO 66 (.ld 7 true (.t 65)),qO 13 (.alc 83 [.str [],.str [],.int .i64 0,.int .i64 0,.int .i64 0,.nl 1,.int .i64 0]),qS 7 13 66] (.drp [4,5,6,7,8,9,10,11,12,13,0,1,2,3,14,15] [qM 71 7,qM 72 7,qN 73 72,qB 74 .sub 73 (cI 1),qX 75 1 71 74,qL 76 75,qF 77 0 13,qL 78 77,qO 79 (.bsl 1 [.t 78]),qO 80 (.app 9 1 16 (.t 76) (.t 79)),qM 67 7,qM 68 7,qN 69 68,qB 70 .sub 69 (cI 1),qX 81 1 67 70,qS 1 81 80]))) (.reg [qB 82 .add 63 (cI 1),qM 63 82]))))
def qdU:IC:=(sR [qT 29 .lss 28 27] (.seq (jE 29) (.seq (.block 1 (sR [qX 30 1 26 28,qL 31 30,qM 10 31] (.seq (.drg [qM 32 10,qM 33 10,qN 34 33,qB 35 .sub 34 (cI 1),qX 36 7 32 35,qF 37 4 36,qL 38 37,qM 39 10,qO 40 (.ixa 7 (.t 39) (cI 0)),qF 41 3 40,qL 42 41,qT 43 .sub 38 42,qB 44 .add 43 (cI 1),qM 11 44]) (.seq (sR [qM 45 7,qN 46 45,qB 47 .eql 46 (cI 0),qM 48 47,⟨some 49,.mov (.t 8),(some (48,false))⟩,⟨some 50,.mov (.t 11),(some (48,false))⟩,⟨some 51,.bin .add (.t 49) (.t 50),(some (48,false))⟩,⟨some 52,.mov (.t 1),(some (48,false))⟩,⟨some 53,.bin .gtr (.t 51) (.t 52),(some (48,false))⟩,qO 54 (.pick (.t 48) (.c (.bool true)) (.t 53))] (jW 54 (.reg [qM 55 7,qO 56 (.bsr 41 1 [.c (.nl 1)]),qO 57 (.app 41 1 24 (.t 55) (.t 56)),qM 7 57,jI 8 0]))) (.cut (sR [qM 58 8,qM 59 11,qT 60 .add 58 59,qM 8 60] (sR [qM 61 10,qN 62 61,jI 63 0] (.block 2 (.loop qbZ))))))))) (.reg [qB 83 .add 28 (cI 1),qM 28 83]))))
abbrev qiY:IC:=(sR [qO 2 (.box 34 (.t 0)),qO 4 (.mov (.c (.nl 1))),jI 5 0] (.seq (sR [qO 14 (.ld 4 true (.t 2)),jC 15 50 [.t 14],qM 16 1,jC 17 71 [.t 16,.c (.int .i64 1),.c (.int .i64 100000)],qO 18 (.not (.t 17)),jC 19 51 [.t 18,.c (.int .i64 1)],qO 20 (.bsl 1 [.t 15,.t 19]),jC 21 49 [.t 20],qM 6 21] (sR [qM 22 6,qB 23 .neq 22 (cI 0)] (jW 23 (sR [qM 24 6,qO 4 (.mov (.c (.nl 1))),qM 5 24] .ret)))) (sR [qO 7 (.nilr 41 1)] (sR [jI 8 0] (.seq (sR [qO 25 (.ld 4 true (.t 2)),jC 26 72 [.t 25],qN 27 26,jI 28 0] (.block 0 (.loop qdU))) (sR [qM 84 7,qM 4 84,jI 5 0] .ret))))))
theorem qjg:chkF Tryz.prog Tryz.f21 qiY [.t 4,.t 5] 85=true:=by kernel_rfl
def qcA:IC:=(sR [qT 14 .lss 13 12] (.seq (jE 14) (.seq (.block 1 (sR [qX 15 1 11 13,qL 16 15,qM 8 16] (.seq (.drg [qM 17 8,qM 18 8,qN 19 18,qB 20 .sub 19 (cI 1),qX 21 7 17 20,qF 22 4 21,qL 23 22,qM 24 8,qO 25 (.ixa 7 (.t 24) (cI 0)),qF 26 3 25,qL 27 26,qT 28 .sub 23 27,qB 29 .add 28 (cI 1),qM 9 29]) (.seq (sR [qM 30 5,qN 31 30,qB 32 .eql 31 (cI 0),qM 33 32,⟨some 34,.mov (.t 9),(some (33,false))⟩,⟨some 35,.mov (.t 6),(some (33,false))⟩,⟨some 36,.bin .gtr (.t 34) (.t 35),(some (33,false))⟩,qO 37 (.pick (.t 33) (.c (.bool true)) (.t 36))] (jW 37 (.reg [qM 38 5,qO 39 (.bsr 41 1 [.c (.nl 1)]),qO 40 (.app 41 1 24 (.t 38) (.t 39)),qM 41 1,qM 5 40,qM 6 41]))) (.cut (.seq (.drp [4,5,6,7,8,9,10,11,12,0,1,2,3,13,14] [qM 46 5,qM 47 5,qN 48 47,qB 49 .sub 48 (cI 1),qX 50 1 46 49,qL 51 50,qM 52 8,qO 53 (.pcall 0 57 [.t 52]),qO 54 (.app 9 1 16 (.t 51) (.t 53)),qM 42 5,qM 43 5,qN 44 43,qB 45 .sub 44 (cI 1),qX 55 1 42 45,qS 1 55 54]) (.reg [qM 56 6,qM 57 9,qT 58 .sub 56 57,qM 6 58]))))))) (.reg [qB 59 .add 13 (cI 1),qM 13 59]))))
abbrev qgD:IC:=(sR [qO 2 (.box 34 (.t 0)),qO 4 (.mov (.c (.nl 1)))] (sR [qO 5 (.nilr 41 1)] (sR [jI 6 0] (.seq (sR [qO 10 (.ld 4 true (.t 2)),jC 11 80 [.t 10],qN 12 11,jI 13 0] (.block 0 (.loop qcA))) (sR [qM 60 5,qM 4 60] .ret)))))
theorem qgK:chkF Tryz.prog Tryz.f24 qgD [.t 4] 61=true:=by kernel_rfl
theorem qs1 (most:Int) (st:List (List (List UInt8))×Int) (g:List Sht):(volS most st g).1.flatten=st.1.flatten++g.map (·.id):=by
 unfold volS
 split
 ·simp
 ·rename_i hc
  have hne:st.1≠[]:=by
   intro h0
   rw [h0] at hc
   simp at hc
  have:=congrArg List.flatten (qml hne)
  rw [this]
  simp
theorem qoe (most:Int) (G:List (List Sht)):∀ k,k≤G.length→(volK most G k).1.flatten=(G.take k).flatten.map (·.id)
 |0,_=>by simp [volK]
 |k+1,h=>by
  have ih:=qoe most G k (by omega)
  have hk:k < G.length:=by omega
  rw [volK,qs1,ih,zo hk,List.flatten_append,zF,show G.getD k []=G[k] from by simp [zu,zg hk]]
  congr 1
  rw [List.flatten_cons,List.flatten_nil,z6]
theorem qmH {most:Int} {G:List (List Sht)} {k n:Nat} (hk:k≤G.length) (hn:G.flatten.length≤n):∀ c∈(volK most G k).1,c.length≤n:=by
 intro c hc
 have h1:=qhC _ c hc
 rw [qoe most G k hk,zw] at h1
 have h2:(G.take k).flatten.length≤G.flatten.length:=by
  have:=congrArg List.length (congrArg List.flatten (List.take_append_drop k G))
  rw [List.flatten_append,zp] at this
  omega
 omega
theorem qkB {most:Int} {st:List (List (List UInt8))×Int} {g:List Sht} (h:(decide (st.1.length=0) || decide (most < st.2+nOf g))=true):volS most st g=(st.1++[g.map (·.id)],nOf g):=by rw [volS,if_pos h]
theorem qq5 {most s:Int} {I:List (List (List UInt8))} {cur:List (List UInt8)} {g:List Sht} (h:decide (most < s+nOf g)=false):volS most (I++[cur],s) g=(I++[cur++g.map (·.id)],s+nOf g):=by
 rw [volS,if_neg (by simp only [h];simp)]
 simp
theorem qpY {most:Int} {G:List (List Sht)} (hn:∀ g∈G,-1000000000000≤nOf g∧nOf g≤1000000000000):∀ k,k≤G.length→-1000000000000 * (k:Int)≤(volK most G k).2∧(volK most G k).2≤1000000000000 * (k:Int)
 |0,_=>by simp [volK]
 |k+1,h=>by
  have ih:=qpY (most:=most) hn k (by omega)
  have hk:k < G.length:=by omega
  have hg:=hn G[k] (List.getElem_mem hk)
  rw [volK,show G.getD k []=G[k] from by simp [zu,zg hk],volS]
  split
  ·simp only;omega
  ·simp only;omega
theorem qdM (T:Tab):((tbE T).map (·.map AV.p)).length=T.length:=by simp [tbE]
theorem qok (T:Tab) (x:List AV):((tbE T).map (·.map AV.p)++[x]).getD T.length []=x:=by
 rw [zu,z8 (by rw [qdM];exact zD _),qdM,Nat.sub_self]
 rfl
abbrev volA (I:Tab):List (List AV):=(tbE I).map (·.map AV.p)++[[.row (.l 1000)]]
theorem qeX (I:Tab):(volA I).length=I.length+1:=by rw [zp,qdM];rfl
theorem qmE (I:Tab) (cur:SRow):(volA I).map (fun x=>x.map fun y=>AV.thaw (.l 1000) (.sl 1 (strE cur)) y)=(tbE (I++[cur])).map (·.map AV.p):=by
 rw [zF,qvH]
 simp [tbE,AV.thaw]
theorem qeW (k:Nat) (I:Tab) (hk:k≠1000):(volA I).map (fun x=>x.map fun y=>AV.kill (.l k) y)=volA I:=by
 rw [zF,qoX]
 simp [AV.kill,Ne.symm hk]
theorem qiG (I:Tab):(volA I).map (fun x=>x.map fun y=>AV.kill (.l 1000) y)=(tbE I).map (·.map AV.p)++[[oo]]:=by
 rw [zF,qoX]
 simp [AV.kill]
theorem qxO {g:List Sht} (h:∀ x∈g,ShB x) (hg:g≠[]):-1000000000000≤nOf g∧nOf g≤1000000000000:=by
 have hl:0 < g.length:=List.length_pos_iff.2 hg
 have h1:=(h _ (List.getElem_mem (show g.length - 1 < g.length by omega))).to_
 have h2:=(h _ (List.getElem_mem hl)).fr_
 unfold nOf
 rw [show g.getD (g.length - 1) sh0=g[g.length - 1] from by simp [zu,zg (show g.length - 1 < g.length by omega)],show g.getD 0 sh0=g[0] from by simp [zu,zg hl]]
 omega
theorem qkD (I:Tab):(volA I).getD I.length []=[AV.row (.l 1000)]:=qok I _
theorem qiI (I:Tab):((tbE I).map (·.map AV.p)++[[AV.any]]).length=I.length+1:=by rw [zp,qdM];rfl
theorem qiJ (I:Tab):((tbE I).map (·.map AV.p)++[[AV.any]]).getD I.length []=[AV.any]:=qok I _
theorem qiH (I:Tab):((tbE I).map (·.map AV.p)++[[AV.any]]).set I.length [AV.row (.l 1000)]=volA I:=by
 rw [List.set_append_right _ _ (by rw [qdM];exact zD _),qdM,Nat.sub_self]
 rfl
theorem qoc (I:Tab) (cur:SRow):(volA I++[[AV.p (.nl 1)]]).map (fun x=>x.map fun y=>AV.thaw (.l 1000) (.sl 1 (strE cur)) y)=(tbE (I++[cur])).map (·.map AV.p)++[[AV.p (.nl 1)]]:=by
 rw [zF,qmE]
 rfl
theorem qxF (I:Tab) (cur:SRow):((tbE (I++[cur])).map (·.map AV.p)++[[AV.p (.nl 1)]])[I.length+1]?=some [AV.p (.nl 1)]:=by
 rw [z8 (by rw [qdM,zp];exact zD _),qdM,zp]
 simp
theorem qs0 (I:Tab) (cur:SRow):(((tbE (I++[cur])).map (·.map AV.p)++[[AV.p (.nl 1)]]).map (fun x=>x.map fun y=>AV.kill (.l 1000) y)).set (I.length+1) [AV.row (.l 1000)]=volA (I++[cur]):=by
 rw [zF,qoX,List.set_append_right _ _ (by rw [qdM,zp];exact zD _),qdM,zp,show I.length+1 - (I.length+[cur].length)=0 from by simp]
 rfl
theorem qod (T:Tab):Zba ((tbE T).map (·.map AV.p))=some (tbE T):=by
 rw [qiS,qxH]
abbrev qmF (I:Tab) (cur:SRow):Objs:=[(.l 7,.rowv (volA I) tRw 1),(.l 1000,.row (strE cur) tStr 1 true)]
abbrev qmG (I:Tab) (cur:SRow):Objs:=[(.l 5,.rowv (volA I) tRw 1),(.l 1000,.row (strE cur) tStr 1 true)]
theorem quu:idsL []=[]:=rfl
theorem qrJ {g:List Sht} {j:Nat} {x:Sht} (h:g[j]?=some x) (cur:SRow):strE (cur++idsL (g.take j))++[[PV.str x.id]]=strE (cur++idsL (g.take (j+1))):=by
 obtain ⟨hk,he⟩:=List.getElem?_eq_some_iff.1 h
 rw [zo hk,he]
 simp [strE,idsL]
def volE (F most:Int):Int:=qai [F,qak (!inE most 1 100000) 1]
theorem qof {F most:Int} (h:volE F most=0):F=0:=qaz h _ (by simp)
section
variable {E:Envt}
set_option maxHeartbeats 8000000 in
theorem qqN (no:Int) (pre:List UInt8) (dig:Int) (l:List Sht) (F most:Int) (hl:l.length≤1000) (hB:∀ x∈l,ShB x) (hG:F=0→qqW l) (hm:-1000000≤most∧most≤1000000) (hC:PCall Tryz.prog E 50 [.agg [int no,.str pre,int dig,.sl 7 (shE l)]] (·=int F)) :
  PCall Tryz.prog E 21 [.agg [int no,.str pre,int dig,.sl 7 (shE l)],int most] (·=.tup [.sl 1 (tbE (if volE F most=0 then volF most l else [])),int (volE F most)]):=by
 refine qag mixed Tryz.func21 qjg ?_
 refine zV ?_
 refine use1 hC rfl (.inl rfl) ?_
 refine zS ?_
 refine use1 (qqV most 1 100000) rfl (.inl rfl) ?_
 refine zS ?_
 refine use1 (qcL _ 1) rfl (.inl rfl) ?_
 refine zS ?_
 refine use1 (qeA [F,qak (!inE most 1 100000) 1] (by simp)) rfl (.inl rfl) ?_
 rw [show qai [F,qak (!inE most 1 100000) 1]=volE F most from rfl]
 refine zS ?_
 refine br ?_ ?_
 ·intro h
  have h:¬ volE F most=0:=by simpa using h
  rw [if_neg h]
  refine zS ?_
  try first|trivial|rfl
 intro h
 have h:volE F most=0:=by simpa using h
 rw [if_pos h,h]
 have hG:=hG (qof h)
 clear h
 have hgl:(grpF l).length≤l.length:=qhE l l.length
 have hflat:(grpF l).flatten=l:=by rw [grpF,qfA hG l.length (zD _),List.take_length]
 have hcb:∀ g∈grpF l,g.length≤l.length:=fun g hm=>by
  have:=qhC _ g hm
  rw [hflat] at this
  exact this
 have hgn:∀ g∈grpF l,g≠[]:=qnA l l.length
 have hgB:∀ g∈grpF l,∀ x∈g,ShB x:=fun g hg x hx=>hB x (by rw [← hflat];exact List.mem_flatten.2 ⟨g,hg,hx⟩)
 have hnB:∀ g∈grpF l,-1000000000000≤nOf g∧nOf g≤1000000000000:=fun g hg=>qxO (hgB g hg) (hgn g hg)
 refine zS ?_
 refine use1 (qoF (qqA no pre dig l (by omega) hG)) rfl (.inl rfl) ?_
 unfold volF
 generalize hGF:grpF l=G at *
 have hcur:=fun {k:Nat} (hk:k≤G.length)=>qmH (most:=most) (n:=l.length) hk (by rw [hflat];exact zD _)
 have hlen:=fun k=>(qkC most G k).1
 have hbd:=fun k=>qpY (most:=most) hnB k
 simp only [ZZ,WW,Zd,reduceCtorEq,zd,ze,zb,zf,za,qjA]
 obtain ⟨L1,q1,q2⟩:∃ L1,ReOk E (oo::.p (int most)::oC (oo::(.row (.l 7)::.p (int (0))::oE (oo::(.p (.sl 1 (rvS G))::.p (int (G.length:Nat))::.p (int (0:Nat))::oF (oE (oD []))))))) [(.l 7,.row [] tRw 1 true)] (oo::.p (int most)::oC (oo::(.row (.l 7)::.p (int (0))::oE (oo::(.p (.sl 1 (rvS G))::.p (int (G.length:Nat))::.p (int (0:Nat))::oF (oE (oD []))))))) L1∧((0 < G.length∧(((volK most G 0).1=[]∧L1=[(.l 7,.rowv [] tRw 1)])∨∃ I cur,(volK most G 0).1=I++[cur]∧L1=qmF I cur))∨(0=G.length∧L1=[(.l 7,.row (tbE (volK most G 0).1) tRw 1 true)])):=by
  by_cases h0:0 < G.length
  ·exact ⟨_,qh8 (k:=.l 7) rfl,.inl ⟨h0,.inl ⟨rfl,rfl⟩⟩⟩
  ·exact ⟨_,ReOk.refl,.inr ⟨by omega,rfl⟩⟩
 refine qfR (fun m fr L=>∃ (k:Nat) (s:Int),k≤G.length∧m=G.length - k∧(s=(volK most G k).2)∧fr=(oo::.p (int most)::oC (oo::(.row (.l 7)::.p (int (s))::oE (oo::(.p (.sl 1 (rvS G))::.p (int (G.length:Nat))::.p (int (k:Nat))::oF (oE (oD [])))))))∧((k < G.length∧(((volK most G k).1=[]∧L=[(.l 7,.rowv [] tRw 1)])∨∃ I cur,(volK most G k).1=I++[cur]∧L=qmF I cur))∨(k=G.length∧L=[(.l 7,.row (tbE (volK most G k).1) tRw 1 true)]))) G.length _ L1 (ReOk.trans (qax zF_ zE_) q1) ⟨0,0,by omega,by omega,rfl,rfl,q2⟩ ?_
 clear q1 q2 L1
 rintro m fr L ⟨k,s,hk,rfl,hs,rfl,hj⟩
 simp only [qdU,ZZ,WW,Zd,reduceCtorEq,zd,ze,zb,zf,za]
 refine br ?_ ?_
 rotate_left
 ·intro h
  have hge:k=G.length:=by have:=of_decide_eq_false h;omega
  rcases hj with ⟨e,_⟩|⟨_,rfl⟩
  ·omega
  subst hge
  refine zS ?_
  try first|trivial|rfl
 intro h
 have hlt:k < G.length:=by have:=of_decide_eq_true h;omega
 rcases hj with ⟨_,hj⟩|⟨e,_⟩
 rotate_left
 ·omega
 obtain ⟨g,hg⟩:∃ g,G[k]?=some g:=⟨_,zg hlt⟩
 have hgm:=zm hg
 have hgg:=qtx hg
 have hgD:G.getD k []=g:=by simp [zu,hg]
 have hgl2:=hcb g hgm
 have hst:volK most G (k+1)=volS most (volK most G k) g:=by rw [volK,hgD]
 obtain ⟨n1,hn1⟩:∃ n1,g.length=n1+1:=⟨g.length - 1,by have:=List.length_pos_iff.2 (hgn g hgm);omega⟩
 obtain ⟨xl,hxl⟩:∃ x,g[n1]?=some x:=⟨_,zg (by omega)⟩
 obtain ⟨xf,hxf⟩:∃ x,g[0]?=some x:=⟨_,zg (by omega)⟩
 have hel:=qa0 hxl
 have hef:=qa0 hxf
 simp only [shV] at hel hef
 have hbl:=(hgB g hgm xl (zm hxl)).to_
 have hbf:=(hgB g hgm xf (zm hxf)).fr_
 have hnO:xl.to_ - xf.fr_+1=nOf g:=by
  unfold nOf
  rw [hn1,Nat.add_sub_cancel,show g.getD n1 sh0=xl from by simp [zu,hxl],show g.getD 0 sh0=xf from by simp [zu,hxf]]
 have hnb:=hnB g hgm
 have hlk:=hlen k
 have hsk:=hbd k (by omega)
 have hck:=hcur (k:=k) (by omega)
 have hcn:=hcur (k:=k+1) (by omega)
 have e0:Int.toNat 0=0:=rfl
 generalize hV:volK most G k=V at *
 obtain ⟨T,sp⟩:=V
 simp only at hs hj hlk hsk hck
 have hend:∀ (I:Tab) (cur:SRow) (s':Int),(volK most G (k+1)).1=I++[cur]→(s'=(volK most G (k+1)).2)→∀ fr L,ReOk E fr L (oo::.p (int most)::oC (oo::(.row (.l 7)::.p (int (s'))::oE (oo::(.p (.sl 1 (rvS G))::.p (int (G.length:Nat))::.p (int (k+1:Nat))::oF (oE (oD []))))))) (qmF I cur)→EndR E (fun m fr L=>∃ (k:Nat) (s:Int),k≤G.length∧m=G.length - k∧(s=(volK most G k).2)∧fr=(oo::.p (int most)::oC (oo::(.row (.l 7)::.p (int (s))::oE (oo::(.p (.sl 1 (rvS G))::.p (int (G.length:Nat))::.p (int (k:Nat))::oF (oE (oD [])))))))∧((k < G.length∧(((volK most G k).1=[]∧L=[(.l 7,.rowv [] tRw 1)])∨∃ I cur,(volK most G k).1=I++[cur]∧L=qmF I cur))∨(k=G.length∧L=[(.l 7,.row (tbE (volK most G k).1) tRw 1 true)]))) (G.length - k) fr L:=by
  intro I cur s' he hi fr L hr
  by_cases hkl:k+1 < G.length
  ·exact qe4 (G.length - (k+1)) _ (qmF I cur) (by omega) hr ⟨k+1,s',by omega,rfl,hi,rfl,.inl ⟨hkl,.inr ⟨I,cur,he,rfl⟩⟩⟩
  ·refine qe4 (G.length - (k+1)) _ _ (by omega) (ReOk.trans hr ?_) ⟨k+1,s',by omega,rfl,hi,rfl,.inr ⟨by omega,by rw [he]⟩⟩
   refine ReOk.trans (qaN (k:=.l 1000) rfl) ?_
   simp only [ZZ,WW,Zd,reduceCtorEq,zd,ze,zb,zf,za,qmE]
   refine ReOk.trans (qdN (k:=.l 7) rfl (qod _)) ?_
   refine zS ?_
   exact qax zF_ zE_
 rcases hj with ⟨rfl,rfl⟩|⟨I,cur,rfl,rfl⟩
 ·obtain ⟨I,hI⟩:∃ I:Tab,I=[]:=⟨[],rfl⟩
  obtain ⟨cur,hcu⟩:∃ cur:SRow,cur=[]:=⟨[],rfl⟩
  obtain ⟨s0,hs00⟩:∃ s0:Int,s0=0:=⟨0,rfl⟩
  have hIl:I.length≤k+1:=by rw [hI];simp
  have hcl:cur.length≤l.length:=by rw [hcu];simp
  simp only [ZZ,WW,Zd,reduceCtorEq,zd,ze,zb,zf,za,hgg,qjA]
  ((with_reducible and_intros)<;>try exact sc_)
  refine drg0 ?_
  simp only [ZZ,WW,Zd,reduceCtorEq,zd,ze,zb,zf,za,qae,hn1,sub1,zZ,hel,hef,e0]
  ((with_reducible and_intros)<;>try exact sc_)
  rw [hnO,show decide (((0:Nat):Int)=0)=true from rfl,Bool.true_or]
  refine zS ?_
  ((with_reducible and_intros)<;>try exact sc_)
  refine qaF (oo::.p (int most)::oC (oo::(.row (.l 7)::.p (int (s0))::oo::.p (.sl 7 (shE g))::.p (int (nOf g))::oD (oC (oB (.p (.sl 1 (rvS G))::.p (int (G.length:Nat))::.p (int (k:Nat))::oF (oE (oD [])))))))) (qmF I cur) ?_ ?_
  ·refine ReOk.trans (qcN (k:=.l 7) 0 1000 tStr 1 1 (by simp) rfl rfl) ?_
   refine zS ?_
   subst hI hcu hs00
   exact qax zF_ (by simp only [ZZ,WW,Zd,reduceCtorEq,zd,ze,zb,zf,za];exact ⟨rfl,rfl⟩)
  have hs0:-1000000000000 * (k:Int)≤s0∧s0≤1000000000000 * (k:Int):=⟨by omega,by omega⟩
  have he:volS most ([],sp) g=(I++[cur++idsL g],s0+nOf g):=by rw [qkB (by simp),hI,hcu,hs00,Int.zero_add];rfl
  rw [he] at hst
  refine zS ?_
  ((with_reducible and_intros)<;>try exact sc_)
  simp only [ZZ,WW,Zd,reduceCtorEq,zd,ze,zb,zf,za,qae]
  refine qac (fun n fr L=>∃ (j:Nat),j≤g.length∧n=g.length - j∧fr=(oo::.p (int most)::oC (oo::(.row (.l 7)::.p (int (s0+nOf g))::oE (oo::(.p (.sl 1 (rvS G))::.p (int (G.length:Nat))::.p (int (k:Nat))::oF (.p (.sl 7 (shE g))::.p (int (g.length:Nat))::.p (int (j:Nat))::oE (oC (oo::[]))))))))∧L=[(.l 7,.rowv (volA I) tRw 1),(.l 1000,.row (strE (cur++idsL (g.take j))) tStr 1 true)]) (g.length) _ _ (by simp only [ZZ,WW,Zd,reduceCtorEq,zd,ze,zb,zf,za,qae];try trivial) (by simp only [ZZ,WW,Zd,reduceCtorEq,zd,ze,zb,zf,za,quu,z6]) ⟨0,by omega,by omega,rfl,rfl⟩ ?_
  rintro n fr L ⟨j,hj,rfl,rfl,rfl⟩
  simp only [qbZ,ZZ,WW,Zd,reduceCtorEq,zd,ze,zb,zf,za]
  refine br ?_ ?_
  ·intro h4
   have hjl:j < g.length:=by have:=of_decide_eq_true h4;omega
   obtain ⟨x,hx⟩:∃ x,g[j]?=some x:=⟨_,zg hjl⟩
   have hgx:=qa0 hx
   have hit:=qrJ hx cur
   have hlj:(cur++idsL (g.take j)).length=cur.length+j:=by rw [zp,idsL,zw,zJ];omega
   simp only [shV] at hgx
   simp only [ZZ,WW,Zd,reduceCtorEq,zd,ze,zb,zf,za,hgx,qae,qeW 13 I (by decide)]
   ((with_reducible and_intros)<;>try exact sc_)
   refine drg0 ?_
   simp only [ZZ,WW,Zd,reduceCtorEq,zd,ze,zb,zf,za,qeX,sub1,zZ,qkD,qiG,qiI,qiJ,qiH,qaf,hlj]
   ((with_reducible and_intros)<;>try exact sc_)
   rw [hit]
   refine qab (g.length - (j+1)) _ _ (by omega) zF_ zF_ ⟨j+1,by omega,rfl,rfl,rfl⟩
  intro h4
  have hjl:g.length≤j:=by have:=of_decide_eq_false h4;omega
  rw [zq hjl]
  refine zS ?_
  ((with_reducible and_intros)<;>try exact sc_)
  exact hend I (cur++idsL g) (s0+nOf g) (by rw [hst]) (by rw [hst]) _ _ (qax zF_ zE_)
 ·have hIl:I.length≤k:=by rw [zp] at hlk;simp at hlk;omega
  have hcl:cur.length≤l.length:=hck cur (by simp)
  have eI:decide (((I.length+1:Nat):Int)=0)=false:=by rw [decide_eq_false_iff_not];omega
  simp only [ZZ,WW,Zd,reduceCtorEq,zd,ze,zb,zf,za,hgg,qjA]
  ((with_reducible and_intros)<;>try exact sc_)
  refine drg0 ?_
  simp only [ZZ,WW,Zd,reduceCtorEq,zd,ze,zb,zf,za,qae,hn1,sub1,zZ,hel,hef,e0]
  ((with_reducible and_intros)<;>try exact sc_)
  rw [hnO]
  simp only [ZZ,WW,Zd,reduceCtorEq,zd,ze,zb,zf,za,qeX,eI]
  rw [Bool.false_or]
  refine qgj (fun fr L=>∃ (I2:Tab) (cur2:SRow) (s0:Int),I2.length≤k+1∧cur2.length≤l.length∧(-1000000000000 * (k:Int)≤s0∧s0≤1000000000000 * (k:Int))∧volS most (I++[cur],sp) g=(I2++[cur2++idsL g],s0+nOf g)∧fr=(oo::.p (int most)::oC (oo::(.row (.l 7)::.p (int (s0))::oo::.p (.sl 7 (shE g))::.p (int (nOf g))::oD (oC (oB (.p (.sl 1 (rvS G))::.p (int (G.length:Nat))::.p (int (k:Nat))::oF (oE (oD []))))))))∧L=qmF I2 cur2) ?_ ?_ ?_
  ·intro hb
   simp only [ZZ,WW,Zd,reduceCtorEq,zd,ze,zb,zf,za,qeX,qeW 56 I (by decide),qeW 7 I (by decide)]
   ((with_reducible and_intros)<;>try exact sc_)
   refine ⟨(oo::.p (int most)::oC (oo::(.row (.l 7)::.p (int (0))::oo::.p (.sl 7 (shE g))::.p (int (nOf g))::oD (oC (oB (.p (.sl 1 (rvS G))::.p (int (G.length:Nat))::.p (int (k:Nat))::oF (oE (oD [])))))))),qmF (I++[cur]) [],?_,I++[cur],[],0,by rw [zp];simp;omega,by simp,⟨by omega,by omega⟩,?_,rfl,rfl⟩
   ·refine ReOk.trans (qaN (k:=.l 1000) rfl) ?_
    simp only [ZZ,WW,Zd,reduceCtorEq,zd,ze,zb,zf,za,qeW 7 I (by decide),qoc]
    refine ReOk.trans (qcN (k:=.l 7) (I.length+1) 1000 tStr 1 1 (by simp) rfl (qxF I cur)) ?_
    simp only [ZZ,WW,Zd,reduceCtorEq,zd,ze,zb,zf,za,qs0]
    exact qax zF_ (by simp only [ZZ,WW,Zd,reduceCtorEq,zd,ze,zb,zf,za];rfl)
   ·rw [qkB (by simp only;rw [← hs,hb,Bool.or_true]),Int.zero_add]
    rfl
  ·intro hb
   refine zS ?_
   exact qdP _ (qmF I cur) zF_ zE_ ⟨I,cur,s,by omega,hcl,by rw [hs];exact hsk,by rw [qq5 (by rw [← hs];exact hb),hs];rfl,rfl,rfl⟩
  clear hIl hcl eI
  rintro fr L ⟨I,cur,s0,hIl,hcl,hs0,he,rfl,rfl⟩
  rw [he] at hst
  refine zS ?_
  ((with_reducible and_intros)<;>try exact sc_)
  simp only [ZZ,WW,Zd,reduceCtorEq,zd,ze,zb,zf,za,qae]
  refine qac (fun n fr L=>∃ (j:Nat),j≤g.length∧n=g.length - j∧fr=(oo::.p (int most)::oC (oo::(.row (.l 7)::.p (int (s0+nOf g))::oE (oo::(.p (.sl 1 (rvS G))::.p (int (G.length:Nat))::.p (int (k:Nat))::oF (.p (.sl 7 (shE g))::.p (int (g.length:Nat))::.p (int (j:Nat))::oE (oC (oo::[]))))))))∧L=[(.l 7,.rowv (volA I) tRw 1),(.l 1000,.row (strE (cur++idsL (g.take j))) tStr 1 true)]) (g.length) _ _ (by simp only [ZZ,WW,Zd,reduceCtorEq,zd,ze,zb,zf,za,qae];try trivial) (by simp only [ZZ,WW,Zd,reduceCtorEq,zd,ze,zb,zf,za,quu,z6]) ⟨0,by omega,by omega,rfl,rfl⟩ ?_
  rintro n fr L ⟨j,hj,rfl,rfl,rfl⟩
  simp only [qbZ,ZZ,WW,Zd,reduceCtorEq,zd,ze,zb,zf,za]
  refine br ?_ ?_
  ·intro h4
   have hjl:j < g.length:=by have:=of_decide_eq_true h4;omega
   obtain ⟨x,hx⟩:∃ x,g[j]?=some x:=⟨_,zg hjl⟩
   have hgx:=qa0 hx
   have hit:=qrJ hx cur
   have hlj:(cur++idsL (g.take j)).length=cur.length+j:=by rw [zp,idsL,zw,zJ];omega
   simp only [shV] at hgx
   simp only [ZZ,WW,Zd,reduceCtorEq,zd,ze,zb,zf,za,hgx,qae,qeW 13 I (by decide)]
   ((with_reducible and_intros)<;>try exact sc_)
   refine drg0 ?_
   simp only [ZZ,WW,Zd,reduceCtorEq,zd,ze,zb,zf,za,qeX,sub1,zZ,qkD,qiG,qiI,qiJ,qiH,qaf,hlj]
   ((with_reducible and_intros)<;>try exact sc_)
   rw [hit]
   refine qab (g.length - (j+1)) _ _ (by omega) zF_ zF_ ⟨j+1,by omega,rfl,rfl,rfl⟩
  intro h4
  have hjl:g.length≤j:=by have:=of_decide_eq_false h4;omega
  rw [zq hjl]
  refine zS ?_
  ((with_reducible and_intros)<;>try exact sc_)
  exact hend I (cur++idsL g) (s0+nOf g) (by rw [hst]) (by rw [hst]) _ _ (qax zF_ zE_)
set_option maxHeartbeats 8000000 in
theorem qpH (no:Int) (pre:List UInt8) (dig:Int) (l:List Sht) (most:Int) (hl:l.length≤1000) (hB:∀ x∈l,ShB x) (hG:qqW l) (hm:-1000000≤most∧most≤1000000) :
  PCall Tryz.prog E 24 [.agg [int no,.str pre,int dig,.sl 7 (shE l)],int most] (·=.sl 1 (tbE (volF most l))):=by
 refine qag mixed Tryz.func24 qgK ?_
 refine zV ?_
 have hgl:(grpF l).length≤l.length:=qhE l l.length
 have hflat:(grpF l).flatten=l:=by rw [grpF,qfA hG l.length (zD _),List.take_length]
 have hcb:∀ g∈grpF l,g.length≤l.length:=fun g hm=>by
  have:=qhC _ g hm
  rw [hflat] at this
  exact this
 have hgn:∀ g∈grpF l,g≠[]:=qnA l l.length
 have hgB:∀ g∈grpF l,∀ x∈g,ShB x:=fun g hg x hx=>hB x (by rw [← hflat];exact List.mem_flatten.2 ⟨g,hg,hx⟩)
 have hnB:∀ g∈grpF l,-1000000000000≤nOf g∧nOf g≤1000000000000:=fun g hg=>qxO (hgB g hg) (hgn g hg)
 refine use1 (qoF (qqu no pre dig l (by omega) hG)) rfl (.inl rfl) ?_
 unfold volF
 generalize hGF:grpF l=G at *
 have hcur:=fun {k:Nat} (hk:k≤G.length)=>qmH (most:=most) (n:=l.length) hk (by rw [hflat];exact zD _)
 have hlen:=fun k=>(qkC most G k).1
 have hbd:=fun k=>qpY (most:=most) hnB k
 simp only [ZZ,WW,Zd,reduceCtorEq,zd,ze,zb,zf,za,qjA]
 obtain ⟨L1,q1,q2⟩:∃ L1,ReOk E (oo::.p (int most)::oo::oo::oo::.row (.l 5)::.p (int (0))::oo::oo::oo::oo::.p (.sl 1 (rvS G))::.p (int (G.length:Nat))::.p (int (0:Nat))::oF (oD (oC (oB (oo::[]))))) [(.l 5,.row [] tRw 1 true)] (oo::.p (int most)::oo::oo::oo::.row (.l 5)::.p (int (0))::oo::oo::oo::oo::.p (.sl 1 (rvS G))::.p (int (G.length:Nat))::.p (int (0:Nat))::oF (oD (oC (oB (oo::[]))))) L1∧((0 < G.length∧(((volK most G 0).1=[]∧L1=[(.l 5,.rowv [] tRw 1)])∨∃ I cur,(volK most G 0).1=I++[cur]∧L1=qmG I cur))∨(0=G.length∧L1=[(.l 5,.row (tbE (volK most G 0).1) tRw 1 true)])):=by
  by_cases h0:0 < G.length
  ·exact ⟨_,qh8 (k:=.l 5) rfl,.inl ⟨h0,.inl ⟨rfl,rfl⟩⟩⟩
  ·exact ⟨_,ReOk.refl,.inr ⟨by omega,rfl⟩⟩
 refine qfR (fun m fr L=>∃ (k:Nat) (s:Int),k≤G.length∧m=G.length - k∧((volK most G k).1≠[]→s=most - (volK most G k).2)∧fr=(oo::.p (int most)::oo::oo::oo::.row (.l 5)::.p (int (s))::oo::oo::oo::oo::.p (.sl 1 (rvS G))::.p (int (G.length:Nat))::.p (int (k:Nat))::oF (oD (oC (oB (oo::[])))))∧((k < G.length∧(((volK most G k).1=[]∧L=[(.l 5,.rowv [] tRw 1)])∨∃ I cur,(volK most G k).1=I++[cur]∧L=qmG I cur))∨(k=G.length∧L=[(.l 5,.row (tbE (volK most G k).1) tRw 1 true)]))) G.length _ L1 (ReOk.trans (qax zF_ zE_) q1) ⟨0,0,by omega,by omega,fun h=>absurd rfl h,rfl,q2⟩ ?_
 clear q1 q2 L1
 rintro m fr L ⟨k,s,hk,rfl,hs,rfl,hj⟩
 simp only [qcA,ZZ,WW,Zd,reduceCtorEq,zd,ze,zb,zf,za]
 refine br ?_ ?_
 rotate_left
 ·intro h
  have hge:k=G.length:=by have:=of_decide_eq_false h;omega
  rcases hj with ⟨e,_⟩|⟨_,rfl⟩
  ·omega
  subst hge
  refine zS ?_
  try first|trivial|rfl
 intro h
 have hlt:k < G.length:=by have:=of_decide_eq_true h;omega
 rcases hj with ⟨_,hj⟩|⟨e,_⟩
 rotate_left
 ·omega
 obtain ⟨g,hg⟩:∃ g,G[k]?=some g:=⟨_,zg hlt⟩
 have hgm:=zm hg
 have hgg:=qtx hg
 have hgD:G.getD k []=g:=by simp [zu,hg]
 have hgl2:=hcb g hgm
 have hst:volK most G (k+1)=volS most (volK most G k) g:=by rw [volK,hgD]
 obtain ⟨n1,hn1⟩:∃ n1,g.length=n1+1:=⟨g.length - 1,by have:=List.length_pos_iff.2 (hgn g hgm);omega⟩
 obtain ⟨xl,hxl⟩:∃ x,g[n1]?=some x:=⟨_,zg (by omega)⟩
 obtain ⟨xf,hxf⟩:∃ x,g[0]?=some x:=⟨_,zg (by omega)⟩
 have hel:=qa0 hxl
 have hef:=qa0 hxf
 simp only [shV] at hel hef
 have hbl:=(hgB g hgm xl (zm hxl)).to_
 have hbf:=(hgB g hgm xf (zm hxf)).fr_
 have hnO:xl.to_ - xf.fr_+1=nOf g:=by
  unfold nOf
  rw [hn1,Nat.add_sub_cancel,show g.getD n1 sh0=xl from by simp [zu,hxl],show g.getD 0 sh0=xf from by simp [zu,hxf]]
 have hnb:=hnB g hgm
 have hlk:=hlen k
 have hsk:=hbd k (by omega)
 have hck:=hcur (k:=k) (by omega)
 have hcn:=hcur (k:=k+1) (by omega)
 have e0:Int.toNat 0=0:=rfl
 generalize hV:volK most G k=V at *
 obtain ⟨T,sp⟩:=V
 simp only at hs hj hlk hsk hck
 have hend:∀ (I:Tab) (cur:SRow) (s':Int),(volK most G (k+1)).1=I++[cur]→((volK most G (k+1)).1≠[]→s'=most - (volK most G (k+1)).2)→∀ fr L,ReOk E fr L (oo::.p (int most)::oo::oo::oo::.row (.l 5)::.p (int (s'))::oo::oo::oo::oo::.p (.sl 1 (rvS G))::.p (int (G.length:Nat))::.p (int (k+1:Nat))::oF (oD (oC (oB (oo::[]))))) (qmG I cur)→EndR E (fun m fr L=>∃ (k:Nat) (s:Int),k≤G.length∧m=G.length - k∧((volK most G k).1≠[]→s=most - (volK most G k).2)∧fr=(oo::.p (int most)::oo::oo::oo::.row (.l 5)::.p (int (s))::oo::oo::oo::oo::.p (.sl 1 (rvS G))::.p (int (G.length:Nat))::.p (int (k:Nat))::oF (oD (oC (oB (oo::[])))))∧((k < G.length∧(((volK most G k).1=[]∧L=[(.l 5,.rowv [] tRw 1)])∨∃ I cur,(volK most G k).1=I++[cur]∧L=qmG I cur))∨(k=G.length∧L=[(.l 5,.row (tbE (volK most G k).1) tRw 1 true)]))) (G.length - k) fr L:=by
  intro I cur s' he hi fr L hr
  by_cases hkl:k+1 < G.length
  ·exact qe4 (G.length - (k+1)) _ (qmG I cur) (by omega) hr ⟨k+1,s',by omega,rfl,hi,rfl,.inl ⟨hkl,.inr ⟨I,cur,he,rfl⟩⟩⟩
  ·refine qe4 (G.length - (k+1)) _ _ (by omega) (ReOk.trans hr ?_) ⟨k+1,s',by omega,rfl,hi,rfl,.inr ⟨by omega,by rw [he]⟩⟩
   refine ReOk.trans (qaN (k:=.l 1000) rfl) ?_
   simp only [ZZ,WW,Zd,reduceCtorEq,zd,ze,zb,zf,za,qmE]
   refine ReOk.trans (qdN (k:=.l 5) rfl (qod _)) ?_
   refine zS ?_
   exact qax zF_ zE_
 rcases hj with ⟨rfl,rfl⟩|⟨I,cur,rfl,rfl⟩
 ·obtain ⟨I,hI⟩:∃ I:Tab,I=[]:=⟨[],rfl⟩
  obtain ⟨cur,hcu⟩:∃ cur:SRow,cur=[]:=⟨[],rfl⟩
  obtain ⟨s0,hs00⟩:∃ s0:Int,s0=most:=⟨most,rfl⟩
  have hIl:I.length≤k+1:=by rw [hI];simp
  have hcl:cur.length≤l.length:=by rw [hcu];simp
  simp only [ZZ,WW,Zd,reduceCtorEq,zd,ze,zb,zf,za,hgg,qjA]
  ((with_reducible and_intros)<;>try exact sc_)
  refine drg0 ?_
  simp only [ZZ,WW,Zd,reduceCtorEq,zd,ze,zb,zf,za,qae,hn1,sub1,zZ,hel,hef,e0]
  ((with_reducible and_intros)<;>try exact sc_)
  rw [hnO,show decide (((0:Nat):Int)=0)=true from rfl,Bool.true_or]
  refine zS ?_
  ((with_reducible and_intros)<;>try exact sc_)
  refine qaF (oo::.p (int most)::oo::oo::oo::.row (.l 5)::.p (int (s0))::oo::.p (.sl 7 (shE g))::.p (int (nOf g))::oo::.p (.sl 1 (rvS G))::.p (int (G.length:Nat))::.p (int (k:Nat))::oF (oD (oC (oB (oo::[]))))) (qmG I cur) ?_ ?_
  ·refine ReOk.trans (qcN (k:=.l 5) 0 1000 tStr 1 1 (by simp) rfl rfl) ?_
   refine zS ?_
   subst hI hcu hs00
   exact qax zF_ (by simp only [ZZ,WW,Zd,reduceCtorEq,zd,ze,zb,zf,za];exact ⟨rfl,rfl⟩)
  have hs0:-1000000000000 * (k:Int) - 1000000≤s0∧s0≤1000000000000 * (k:Int)+1000000:=⟨by omega,by omega⟩
  have he:volS most ([],sp) g=(I++[cur++idsL g],most - s0+nOf g):=by rw [qkB (by simp),hI,hcu,hs00,Int.sub_self,Int.zero_add];rfl
  rw [he] at hst
  refine zS ?_
  refine drg1 (x1:=.sl 1 (strE (idsL g))) ?_
  have hgi:(idsL g).length=g.length:=by rw [idsL,zw]
  simp only [ZZ,WW,Zd,reduceCtorEq,zd,ze,zb,zf,za,qeX,sub1,zZ,qkD,qiG,qiI,qiJ,qiH,qaf,hgi]
  ((with_reducible and_intros)<;>try exact sc_)
  ·exact usep (qrK g (by omega)) rfl (.inl rfl)
  exact hend I (cur++idsL g) (s0 - nOf g) (by rw [hst]) (fun _=>by rw [hst];simp only;omega) _ _ (qax zF_ (by simp only [ZZ,WW,Zd,reduceCtorEq,zd,ze,zb,zf,za];rw [qeq]))
 ·have hIl:I.length≤k:=by rw [zp] at hlk;simp at hlk;omega
  have hcl:cur.length≤l.length:=hck cur (by simp)
  have eI:decide (((I.length+1:Nat):Int)=0)=false:=by rw [decide_eq_false_iff_not];omega
  have hs:=hs (by simp)
  have hcd:decide (s < nOf g)=decide (most < sp+nOf g):=decide_eq_decide.2 (by omega)
  simp only [ZZ,WW,Zd,reduceCtorEq,zd,ze,zb,zf,za,hgg,qjA]
  ((with_reducible and_intros)<;>try exact sc_)
  refine drg0 ?_
  simp only [ZZ,WW,Zd,reduceCtorEq,zd,ze,zb,zf,za,qae,hn1,sub1,zZ,hel,hef,e0]
  ((with_reducible and_intros)<;>try exact sc_)
  rw [hnO]
  simp only [ZZ,WW,Zd,reduceCtorEq,zd,ze,zb,zf,za,qeX,eI]
  rw [Bool.false_or,hcd]
  refine qgj (fun fr L=>∃ (I2:Tab) (cur2:SRow) (s0:Int),I2.length≤k+1∧cur2.length≤l.length∧(-1000000000000 * (k:Int) - 1000000≤s0∧s0≤1000000000000 * (k:Int)+1000000)∧volS most (I++[cur],sp) g=(I2++[cur2++idsL g],most - s0+nOf g)∧fr=(oo::.p (int most)::oo::oo::oo::.row (.l 5)::.p (int (s0))::oo::.p (.sl 7 (shE g))::.p (int (nOf g))::oo::.p (.sl 1 (rvS G))::.p (int (G.length:Nat))::.p (int (k:Nat))::oF (oD (oC (oB (oo::[])))))∧L=qmG I2 cur2) ?_ ?_ ?_
  ·intro hb
   simp only [ZZ,WW,Zd,reduceCtorEq,zd,ze,zb,zf,za,qeX,qeW 39 I (by decide),qeW 5 I (by decide)]
   ((with_reducible and_intros)<;>try exact sc_)
   refine ⟨(oo::.p (int most)::oo::oo::oo::.row (.l 5)::.p (int (most))::oo::.p (.sl 7 (shE g))::.p (int (nOf g))::oo::.p (.sl 1 (rvS G))::.p (int (G.length:Nat))::.p (int (k:Nat))::oF (oD (oC (oB (oo::[]))))),qmG (I++[cur]) [],?_,I++[cur],[],most,by rw [zp];simp;omega,by simp,⟨by omega,by omega⟩,?_,rfl,rfl⟩
   ·refine ReOk.trans (qaN (k:=.l 1000) rfl) ?_
    simp only [ZZ,WW,Zd,reduceCtorEq,zd,ze,zb,zf,za,qeW 5 I (by decide),qoc]
    refine ReOk.trans (qcN (k:=.l 5) (I.length+1) 1000 tStr 1 1 (by simp) rfl (qxF I cur)) ?_
    simp only [ZZ,WW,Zd,reduceCtorEq,zd,ze,zb,zf,za,qs0]
    exact qax zF_ (by simp only [ZZ,WW,Zd,reduceCtorEq,zd,ze,zb,zf,za];rfl)
   ·rw [qkB (by simp only;rw [hb,Bool.or_true]),Int.sub_self,Int.zero_add]
    rfl
  ·intro hb
   refine zS ?_
   exact qdP _ (qmG I cur) zF_ zE_ ⟨I,cur,s,by omega,hcl,⟨by omega,by omega⟩,by rw [qq5 hb,show most - s=sp from by omega];rfl,rfl,rfl⟩
  clear hIl hcl eI hcd
  rintro fr L ⟨I,cur,s0,hIl,hcl,hs0,he,rfl,rfl⟩
  rw [he] at hst
  refine zS ?_
  refine drg1 (x1:=.sl 1 (strE (idsL g))) ?_
  have hgi:(idsL g).length=g.length:=by rw [idsL,zw]
  simp only [ZZ,WW,Zd,reduceCtorEq,zd,ze,zb,zf,za,qeX,sub1,zZ,qkD,qiG,qiI,qiJ,qiH,qaf,hgi]
  ((with_reducible and_intros)<;>try exact sc_)
  ·exact usep (qrK g (by omega)) rfl (.inl rfl)
  exact hend I (cur++idsL g) (s0 - nOf g) (by rw [hst]) (fun _=>by rw [hst];simp only;omega) _ _ (qax zF_ (by simp only [ZZ,WW,Zd,reduceCtorEq,zd,ze,zb,zf,za];rw [qeq]))
end
abbrev qcZ:IC:=(sR [qO 4 (.mov (.c (.nl 4))),qO 5 (.mov (.c (.nl 3)))] (sR [qM 10 0,qM 11 1,jC 12 42 [.t 10,.t 11],qM 9 12,qO 13 (.ext 0 (.t 9)),qO 14 (.ext 1 (.t 9)),qM 6 13,qM 7 14] (.seq (sR [qM 15 0,jC 16 43 [.t 15,.c (.int .i64 8)],qM 17 16,⟨some 18,.mov (.t 6),(some (17,true))⟩,⟨some 19,.len (.t 18),(some (17,true))⟩,⟨some 20,.bin .gtr (.t 19) (cI 0),(some (17,true))⟩,qO 21 (.pick (.t 17) (.t 20) (.c (.bool false)))] (jW 21 (sR [qM 22 0,qM 23 6,qN 24 23,jC 25 29 [.t 22,.t 24],qM 8 25] (.reg [qM 26 6,qM 27 8,qM 28 0,qM 29 6,qM 30 8,qX 31 4 29 30,qO 32 (.ld 4 true (.t 31)),jC 33 44 [.t 28,.t 32],qX 34 4 26 27,qS 4 34 33])))) (.cut (sR [qM 35 6,qM 36 7,qM 4 35,qM 5 36] .ret)))))
theorem qc1:chkF Tryz.prog Tryz.f6 qcZ [.t 4,.t 5] 37=true:=by kernel_rfl
theorem qwg (l:List Prd) (q:Nat) (x:Prd):(pdE l).set q [int x.no,.str x.pre,int x.dig,.sl 7 (shE x.shs)]=pdE (l.set q x):=by simp [pdE,pdV]
set_option maxHeartbeats 4000000 in
theorem qj0 (l:List Int) (k:Nat) (il:List Itm) (hP:qbl il) (h12:il.length≤12) (hk:k≤400000) (hl:l.length≤9223372036854775807) :
  STup Tryz.prog E0 6 T (stm l k) [.sl 7 (itE il)] tPrd 4 (fun es ps cs'=>∃ (o:List Prd) (u:List Rul) (k':Nat),es=pdE o∧ps=[.sl 3 (rlE u)]∧o.length≤3∧(∀ p∈o,PdB p)∧u.length≤il.length∧(∀ r∈u,RlM 5 r)∧cs'=stm l k'∧k'≤k+2020):=by
 unfold STup
 refine qxX (i:=4) (i2:=5) (is:=[]) mixed Tryz.func6 qc1 ?_
 refine zV ?_
 refine qAk (ql0 l k il hP h12 (by omega) hl) rfl rfl rfl zE_ ?_
 rintro es ps cs' ⟨o,u,k1,rfl,rfl,ho,hoB,hu,hub,rfl,hk1⟩
 refine zS ?_
 refine useS (qgo l k1 8 (by omega) hl (by omega)) rfl rfl rfl zE_ ?_
 rintro x cs' ⟨f,rfl,rfl⟩
 simp only [ZZ,WW,Zd,reduceCtorEq,zd,ze,zb,zf,za,qaE]
 refine br ?_ ?_
 ·intro h
  obtain ⟨_,h1⟩:=Bool.and_eq_true_iff.1 h
  have h0:0 < o.length:=by have:=of_decide_eq_true h1;omega
  simp only [ZZ,WW,Zd,reduceCtorEq,zd,ze,zb,zf,za,qaE]
  refine useS (qco l (k1+1) o.length (by omega) hl (by omega)) rfl rfl rfl zE_ ?_
  rintro x cs' ⟨y,rfl,rfl⟩
  have y1:=qdd y o.length
  have y2:=qde y o.length (by omega)
  obtain ⟨q,hq⟩:∃ q:Nat,qc2 y o.length=(q:Nat):=⟨(qc2 y o.length).toNat,by omega⟩
  rw [hq] at y1 y2 ⊢
  clear hq
  obtain ⟨p,hp⟩:∃ p,o[q]?=some p:=⟨_,zg (by omega)⟩
  have hg:=qgW hp
  obtain ⟨hpB,hpP⟩:=hoB p (zm hp)
  have hsp:=qhX (E:=E0) l (k1+1+1) p hpB hpP (by omega) hl
  simp only [pdV] at hg hsp
  simp only [ZZ,WW,Zd,reduceCtorEq,zd,ze,zb,zf,za,qaE,hg]
  refine ⟨⟨by omega,by omega⟩,by omega,?_⟩
  refine useS hsp rfl rfl rfl zE_ ?_
  rintro x cs' ⟨p2,k3,rfl,hp2,rfl,hk3⟩
  simp only [ZZ,WW,Zd,reduceCtorEq,zd,ze,zb,zf,za,qaE,hg]
  refine ⟨⟨by omega,by omega⟩,by omega,?_⟩
  refine qaF _ _ ReOk.refl ?_
  refine zS ?_
  rw [qwg]
  exact quM 12 (pdE (o.set q p2)) [.sl 3 (rlE u)] (stm l k3) rfl rfl rfl rfl ⟨o.set q p2,u,k3,rfl,rfl,by rw [List.length_set];omega,(fun p hp=>(List.mem_or_eq_of_mem_set hp).elim (fun h=>(hoB p h).1) (fun h=>by subst h;exact hp2)),hu,hub,rfl,by omega⟩
 ·intro _
  refine zS ?_
  refine qaF _ _ ReOk.refl ?_
  refine zS ?_
  exact quM 12 (pdE o) [.sl 3 (rlE u)] (stm l (k1+1)) rfl rfl rfl rfl ⟨o,u,k1+1,rfl,rfl,ho,fun p hp=>(hoB p hp).1,hu,hub,rfl,by omega⟩
def qav:IC:=(sR [qT 18 .lss 17 16] (.seq (jE 18) (.seq (.block 1 (sR [qM 19 17,qX 20 1 15 17,qL 21 20,qM 7 19,qM 8 21] (sR [qM 22 1,qM 23 7,qX 24 1 22 23,qL 25 24,qM 9 25] (sR [qM 26 2,qM 27 8,qM 28 9,qO 29 (.callv (.t 26) [.t 27,.t 28]),qO 30 (.not (.t 29))] (jW 30 (sR [qO 6 (.mov (.c (.bool false)))] .ret)))))) (.reg [qB 31 .add 17 (cI 1),qM 17 31]))))
abbrev qbb:IC:=(sR [qO 6 (.mov (.c (.bool false)))] (.seq (sR [qM 10 0,qN 11 10,qM 12 1,qN 13 12,qT 14 .neq 11 13] (jW 14 (sR [qO 6 (.mov (.c (.bool false)))] .ret))) (.seq (sR [qM 15 0,qN 16 15,jI 17 0] (.block 0 (.loop qav))) (sR [qO 6 (.mov (.c (.bool true)))] .ret))))
theorem qbc:chkF Tryz.prog Tryz.f62 qbb [.t 6] 32=true:=by kernel_rfl
abbrev qgE:IC:=(sR [qO 4 (.mov (.c (.bool false)))] (sR [qM 5 0,qM 6 1,jC 7 62 [.t 5,.t 6,.f 18],qM 4 7] .ret))
theorem qgL:chkF Tryz.prog Tryz.f23 qgE [.t 4] 8=true:=by kernel_rfl
set_option maxRecDepth 100000 in
theorem qn9 {E:Envt} (t:Tab) (f:FuncId) (hl:t.length≤1000000000) (hfn:fnB Tryz.prog f=true) (hf:∀ r∈t,PCall Tryz.prog E f [.sl 1 (strE r),.sl 1 (strE r)] (·=.bool true)):PCall Tryz.prog E 62 [.sl 1 (tbE t),.sl 1 (tbE t),.clo f []] (·=.bool true):=by
 refine qag mixed Tryz.func62 qbc ?_
 refine zV ?_
 simp only [ZZ,WW,Zd,reduceCtorEq,zd,ze,zb,zf,za,qaC,decide_true,Bool.not_true]
 refine qac (fun n fr L=>∃ (k:Nat),k≤t.length∧n=t.length - k∧fr=(.p (.sl 1 (tbE t))::.p (.sl 1 (tbE t))::.p (.clo f [])::oD (oC (.p (.sl 1 (tbE t))::.p (int (t.length:Nat))::.p (int (k:Nat))::oD (oC (oB [])))))∧L=[]) (t.length) _ [] (by simp only [ZZ,WW,Zd,reduceCtorEq,zd,ze,zb,zf,za,qaC];try trivial) zF_ ⟨0,by omega,by omega,rfl,rfl⟩ ?_
 rintro n fr L ⟨k,hk,rfl,rfl,rfl⟩
 simp only [qav,ZZ,WW,Zd,reduceCtorEq,zd,ze,zb,zf,za]
 refine br ?_ ?_
 ·intro h
  have hlt:k < t.length:=by have:=of_decide_eq_true h;omega
  obtain ⟨r,hr⟩:∃ r,t[k]?=some r:=⟨_,zg hlt⟩
  have hg:=qh4 hr
  simp only [ZZ,WW,Zd,reduceCtorEq,zd,ze,zb,zf,za,hg,qaC,hfn]
  ((with_reducible and_intros)<;>try exact sc_)
  refine use1 (hf r (zm hr)) rfl (.inl rfl) ?_
  refine zS ?_
  ((with_reducible and_intros)<;>try exact sc_)
  refine qab (t.length - (k+1)) _ [] (by omega) zF_ zF_ ⟨k+1,by omega,rfl,rfl,rfl⟩
 ·intro h
  have hge:t.length≤k:=by have:=of_decide_eq_false h;omega
  simp only [ZZ,WW,Zd,reduceCtorEq,zd,ze,zb,zf,za]
theorem qpJ {E:Envt} (t:Tab) (hl:t.length≤1000000000) (hb:∀ r∈t,r.length≤1000000000):PCall Tryz.prog E 23 [.sl 1 (tbE t),.sl 1 (tbE t)] (·=.bool true):=by
 refine qag mixed Tryz.func23 qgL ?_
 refine zV ?_
 refine use1 (qn9 t _ hl (by kernel_rfl) (fun r hr=>by have h:=qlJ (E:=E) r r (hb r hr);rwa [decide_eq_true rfl] at h)) rfl (.inl rfl) ?_
 simp only [ZZ,WW,Zd,reduceCtorEq,zd,ze,zb,zf,za]
def E4:Envt where
 ok w:=E0.ok w∧Lib.TabIs Tryz.prog w "internal/strconv.uint64pow10" .u64 Lib.pow10Tab
 bl b:=E0.bl b∨b=3
 mono w w' hb h:=⟨E0.mono w w' (fun b hbb=>hb b (.inl hbb)) h.1,(qs2 (by kernel_rfl) (hb _ (.inr rfl))).trans h.2⟩
theorem up4 {f:FuncId} {args:List PV} {φ:PV→Prop} (h:PCall Tryz.prog E0 f args φ):PCall Tryz.prog E4 f args φ:=fun w U vs hU hE hEb hA=>h w U vs hU hE.1 (fun c hc=>hEb c (.inl hc)) hA
theorem qxt (n:Int) (h0:-9223372036854775808≤n) (h1:n≤9223372036854775807):PCall Tryz.prog E4 100 [int n] (·=.str (Lib.itoa n)):=
 qbm rfl rfl fun w hE=>(Any.strconv_Itoa Tryz.layItoa n h0 h1 w hE.2).mono fun e w' h=>⟨h.1,by obtain ⟨k,os,rfl⟩:=h.2;exact qwI w k os⟩
section
variable {E:Envt}
theorem qpS (p:List UInt8) (d n:Int) (hp:p.length≤8) (hd0:4≤d) (hd:d≤9) (h0:0≤n) (h1:n≤1000000000):PCall Tryz.prog E4 66 [.str p,int d,int n] (·=.str (qvC Lib.itoa p d n)):=by
 refine qag mixed Tryz.func66 qje ?_
 refine zV ?_
 refine use1 (qxt n (by omega) (by omega)) rfl (.inl rfl) ?_
 have hil:=qwy h0 (by omega)
 unfold qvC
 generalize Lib.itoa n=it at *
 obtain ⟨m,hm⟩:=Int.eq_ofNat_of_zero_le (show 0≤max 0 (d - (it.length:Int)) by omega)
 have hm9:m≤9:=by omega
 rw [hm,zZ]
 simp only [ZZ,WW,Zd,reduceCtorEq,zd,ze,zb,zf,za,hm]
 ((with_reducible and_intros)<;>try exact sc_)
 refine use1 (qvk [48] m (by omega) (by simp)) rfl (.inl rfl) ?_
 have hrl:(Lib.repeatL [48] m).length≤9:=by rw [Lib.repeatL_length];simp;omega
 refine zS ?_
 ((with_reducible and_intros)<;>try exact sc_)
theorem qsR (p:List UInt8) (d n:Int) (hp:p.length≤1000):PCall Tryz.prog E4 69 [.str p,int d,int n] (·=.tup [.str (numG Lib.itoa p d n).1,int (numG Lib.itoa p d n).2]):=by
 refine qag mixed Tryz.func69 qjT ?_
 refine zV ?_
 refine use1 (qka p d (by omega)) rfl (.inl rfl) ?_
 refine zS ?_
 unfold numG
 refine br ?_ ?_
 ·intro h
  have h:¬ qd3 p d=0:=by simpa using h
  refine zS ?_
  rw [if_neg h]
 ·intro h
  have h:qd3 p d=0:=by simpa using h
  obtain ⟨g1,g2,g3⟩:=qsA h
  have hb:=qle g2
  rw [if_pos h]
  refine zS ?_
  refine use1 (qrs d (by omega) g2) rfl (.inl rfl) ?_
  refine zS ?_
  ((with_reducible and_intros)<;>try exact sc_)
  refine use1 (qqV n 1 (powF d - 1)) rfl (.inl rfl) ?_
  refine zS ?_
  refine br ?_ ?_
  ·intro h2
   have h2:inE n 1 (powF d - 1)=false:=by simpa using h2
   refine zS ?_
   rw [if_neg (by rw [h2];simp)]
  ·intro h2
   have h2:inE n 1 (powF d - 1)=true:=by simpa using h2
   have h3:=h2
   simp only [inE,Bool.and_eq_true,decide_eq_true_eq] at h3
   refine zS ?_
   refine use1 (qpS p d n g3 g1 g2 (by omega) (by omega)) rfl (.inl rfl) ?_
   refine zS ?_
   rw [if_pos h2]
theorem qj6:PCall Tryz.prog E4 16 [] (·=.bool true):=by
 refine qag mixed Tryz.func16 qhp ?_
 refine zV ?_
 refine use1 (qsR [65,66] 4 7 (by simp)) rfl (.inl rfl) ?_
 rw [qzg (by omega) (by omega),show numG itD [65,66] 4 7=([65,66,48,48,48,55],0) from by decide +kernel]
 refine zS ?_
 rfl
end
end Go.Proofs.YtmpdnpljdcincaaGreatDoor
