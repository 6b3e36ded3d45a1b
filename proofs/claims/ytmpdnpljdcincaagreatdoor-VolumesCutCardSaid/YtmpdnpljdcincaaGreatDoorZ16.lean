import Derived.Test.YtmpdnpljdcincaaGreatDoorZ15
set_option linter.unusedVariables false
set_option linter.unusedSimpArgs false
set_option linter.defProp false
namespace Go.Proofs.YtmpdnpljdcincaaGreatDoor
open Nat renaming reduceAdd→zd,reduceEqDiff→za,reduceLT→zf,reduceLeDiff→zb,reduceMul→ze
open List renaming drop_eq_nil_of_le→zL,getD→zu,getElem?_eq_getElem→zg,getElem?_eq_some_iff→zk,length_take→zJ,mem_of_getElem?→zm,mem_of_mem_take→yz,range→zA,take_of_length_le→zq,take_succ_eq_append_getElem→zo
open Bool renaming false_and→yn,true_and→yc
open Go.RowKit
abbrev qi6:IC:=(sR [qO 2 (.mov (.c (.bool false)))] (sR [qM 3 0,qO 4 (.sln (.t 3)),qB 5 .geq 4 (cI 1),qM 6 5,⟨some 7,.mov (.t 0),(some (6,true))⟩,⟨some 8,.sln (.t 7),(some (6,true))⟩,⟨some 9,.bin .leq (.t 8) (cI 40),(some (6,true))⟩,qO 10 (.pick (.t 6) (.t 9) (.c (.bool false))),qM 11 10,⟨some 12,.mov (.t 0),(some (11,true))⟩,⟨some 13,.call 127 [.t 12,.c (.str [97,98,99,100,101,102,103,104,105,106,107,108,109,110,111,112,113,114,115,116,117,118,119,120,121,122,48,49,50,51,52,53,54,55,56,57,45,95])],(some (11,true))⟩,qO 14 (.pick (.t 11) (.t 13) (.c (.bool false))),qM 15 14,⟨some 16,.mov (.t 0),(some (15,true))⟩,⟨some 17,.ssl (.t 16) none (some (cI 1)),(some (15,true))⟩,⟨some 18,.call 127 [.t 17,.c (.str [97,98,99,100,101,102,103,104,105,106,107,108,109,110,111,112,113,114,115,116,117,118,119,120,121,122])],(some (15,true))⟩,qO 19 (.pick (.t 15) (.t 18) (.c (.bool false))),qM 2 19] .ret))
theorem qjo:chkF Tryz.prog Tryz.f67 qi6 [.t 2] 20=true:=by kernel_rfl
section
variable {E:Envt}
theorem qr8 (s:List UInt8) (hs:s.length≤1000000000):PCall Tryz.prog E 67 [.str s] (·=.bool (keyB s)):=by
 have hset:kcSet=[97,98,99,100,101,102,103,104,105,106,107,108,109,110,111,112,113,114,115,116,117,118,119,120,121,122,48,49,50,51,52,53,54,55,56,57,45,95]:=rfl
 refine qag mixed Tryz.func67 qjo ?_
 refine zV ?_
 refine useG (fun _=>qqk s kcSet hs (by decide) (by decide)) rfl (.inl rfl) ?_
 refine zS ?_
 ((with_reducible and_intros)<;>try exact sc_)
 refine useG (fun _=>qqk (s.take 1) smSet (by simp;omega) (by decide) (by decide)) rfl (.inl rfl) ?_
 refine zS ?_
 have e1:(fun c=>kcSet.contains c)=kcB:=funext quk
 have e2:(fun c=>smSet.contains c)=smB:=funext qto
 rw [qg1,qg1,e1,e2,keyB]
 cases s with
 |nil=>rfl
 |cons c r=>
  simp only [List.take_succ_cons,List.take_zero,List.all_cons,List.all_nil,Bool.and_true,List.headD_cons,inE]
  generalize decide ((1:Int)≤((c :: r).length:Nat))=b1
  generalize decide (((c :: r).length:Nat)≤(40:Int))=b2
  generalize r.all kcB=b3
  generalize smB c=b4
  generalize kcB c=b5
  cases b1<;>cases b2<;>cases b3<;>cases b4<;>cases b5<;>rfl
end
def qbB:IC:=(sR [qT 36 .lss 35 34] (.seq (jE 36) (.seq (.block 1 (sR [qM 37 35,qX 38 7 33 35,qO 39 (.ld 7 true (.t 38)),qO 5 (.alc 83 [.str [],.str [],.int .i64 0,.int .i64 0,.int .i64 0,.nl 1,.int .i64 0]),qM 4 37,qS 7 5 39,⟨none,.re,none⟩] (sR [qF 40 3 1,qL 41 40,qM 42 4,qO 43 (.vsl 7 (.t 41) none (some (.t 42))),qM 6 43] (.seq (.drg [qM 44 4,qB 45 .gtr 44 (cI 0),qM 46 45,⟨some 47,.mov (.t 6),(some (46,true))⟩,⟨some 48,.mov (.t 4),(some (46,true))⟩,⟨some 49,.bin .sub (.t 48) (cI 1),(some (46,true))⟩,⟨some 50,.ixa 7 (.t 47) (.t 49),(some (46,true))⟩,⟨some 51,.fla 1 (.t 50),(some (46,true))⟩,⟨some 52,.ld 1 false (.t 51),(some (46,true))⟩,⟨some 53,.fla 1 (.t 5),(some (46,true))⟩,⟨some 54,.ld 1 false (.t 53),(some (46,true))⟩,⟨some 55,.bin .eql (.t 52) (.t 54),(some (46,true))⟩,qO 56 (.pick (.t 46) (.t 55) (.c (.bool false))),qM 7 56]) (.cut (.block 2 (sR [qF 58 0 5,qL 59 58,jC 60 67 [.t 59],qO 61 (.not (.t 60)),qM 62 61,⟨some 63,.fla 1 (.t 5),(some (62,false))⟩,⟨some 64,.ld 1 false (.t 63),(some (62,false))⟩,⟨some 65,.call 67 [.t 64],(some (62,false))⟩,⟨some 66,.not (.t 65),(some (62,false))⟩,qO 67 (.pick (.t 62) (.c (.bool true)) (.t 66)),qM 57 67] (.cond (.t 57) (sR [jI 2 5] .ret) (sR [qM 69 6,qO 70 (.mkf 75 [.t 5]),jC 71 74 [.t 69,.t 70],qM 68 71] (.cond (.t 68) (sR [jI 2 6] .ret) (sR [qM 73 7,qO 74 (.not (.t 73)),qM 75 74,⟨some 76,.fla 1 (.t 5),(some (75,true))⟩,⟨some 77,.ld 1 false (.t 76),(some (75,true))⟩,⟨some 78,.fla 0 (.t 5),(some (75,true))⟩,⟨some 79,.ld 1 false (.t 78),(some (75,true))⟩,⟨some 80,.bin .neq (.t 77) (.t 79),(some (75,true))⟩,qO 81 (.pick (.t 75) (.t 80) (.c (.bool false))),qM 72 81] (.cond (.t 72) (sR [jI 2 7] .ret) (sR [qM 83 7,qO 84 (.not (.t 83)),qM 85 84,⟨some 86,.mov (.t 6),(some (85,true))⟩,⟨some 87,.mkf 76 [.t 5],(some (85,true))⟩,⟨some 88,.call 74 [.t 86,.t 87],(some (85,true))⟩,qO 89 (.pick (.t 85) (.t 88) (.c (.bool false))),qM 82 89] (.cond (.t 82) (sR [jI 2 6] .ret) (sR [qF 91 2 5,qL 92 91,qB 93 .lss 92 (cI 1),qM 94 93,⟨some 95,.fla 2 (.t 5),(some (94,false))⟩,⟨some 96,.ld 1 false (.t 95),(some (94,false))⟩,⟨some 97,.bin .gtr (.t 96) (cI 4),(some (94,false))⟩,qO 98 (.pick (.t 94) (.c (.bool true)) (.t 97)),qM 90 98] (.cond (.t 90) (sR [jI 2 4] .ret) (sR [qF 100 6 5,qL 101 100,qB 102 .lss 101 (cI 1),qM 103 102,⟨some 104,.fla 6 (.t 5),(some (103,false))⟩,⟨some 105,.ld 1 false (.t 104),(some (103,false))⟩,⟨some 106,.bin .gtr (.t 105) (cI 1000),(some (103,false))⟩,qO 107 (.pick (.t 103) (.c (.bool true)) (.t 106)),qM 99 107] (.cond (.t 99) (sR [jI 2 1] .ret) (.seq (.drg [qF 109 3 5,qL 110 109,qB 111 .lss 110 (cI 1),qM 112 111,⟨some 113,.fla 3 (.t 5),(some (112,false))⟩,⟨some 114,.ld 1 false (.t 113),(some (112,false))⟩,⟨some 115,.fla 4 (.t 5),(some (112,false))⟩,⟨some 116,.ld 1 false (.t 115),(some (112,false))⟩,⟨some 117,.bin .gtr (.t 114) (.t 116),(some (112,false))⟩,qO 118 (.pick (.t 112) (.c (.bool true)) (.t 117)),qM 119 118,⟨some 120,.fla 4 (.t 5),(some (119,false))⟩,⟨some 121,.ld 1 false (.t 120),(some (119,false))⟩,⟨some 122,.fla 2 (.t 1),(some (119,false))⟩,⟨some 123,.ld 1 false (.t 122),(some (119,false))⟩,⟨some 124,.pcall 0 77 [.t 123],(some (119,false))⟩,⟨some 125,.bin .geq (.t 121) (.t 124),(some (119,false))⟩,qO 126 (.pick (.t 119) (.c (.bool true)) (.t 125)),qM 127 126,⟨some 128,.mov (.t 4),(some (127,false))⟩,⟨some 129,.bin .gtr (.t 128) (cI 0),(some (127,false))⟩,⟨some 130,.mov (.t 129),(some (127,false))⟩,⟨some 131,.fla 3 (.t 5),(some (130,true))⟩,⟨some 132,.ld 1 false (.t 131),(some (130,true))⟩,⟨some 133,.mov (.t 6),(some (130,true))⟩,⟨some 134,.mov (.t 4),(some (130,true))⟩,⟨some 135,.bin .sub (.t 134) (cI 1),(some (130,true))⟩,⟨some 136,.ixa 7 (.t 133) (.t 135),(some (130,true))⟩,⟨some 137,.fla 4 (.t 136),(some (130,true))⟩,⟨some 138,.ld 1 false (.t 137),(some (130,true))⟩,⟨some 139,.bin .add (.t 138) (cI 1),(some (130,true))⟩,⟨some 140,.bin .neq (.t 132) (.t 139),(some (130,true))⟩,⟨some 141,.pick (.t 130) (.t 140) (.c (.bool false)),(some (127,false))⟩,qO 142 (.pick (.t 127) (.c (.bool true)) (.t 141)),qM 108 142]) (.cut (.cond (.t 108) (sR [jI 2 1] .ret) (sR [qF 144 5 5,qL 145 144,qN 146 145,qF 147 4 5,qL 148 147,qF 149 3 5,qL 150 149,qT 151 .sub 148 150,qB 152 .add 151 (cI 1),qT 153 .neq 146 152,qM 154 153,⟨some 155,.fla 5 (.t 5),(some (154,false))⟩,⟨some 156,.ld 1 false (.t 155),(some (154,false))⟩,⟨some 157,.call 78 [.t 156,.f 79],(some (154,false))⟩,qO 158 (.pick (.t 154) (.c (.bool true)) (.t 157)),qM 143 158] (.cond (.t 143) (sR [jI 2 3] .ret) (sR [qF 160 2 5,qL 161 160,qB 162 .eql 161 (cI 2),qM 163 162,⟨some 164,.fla 2 (.t 5),(some (163,false))⟩,⟨some 165,.ld 1 false (.t 164),(some (163,false))⟩,⟨some 166,.bin .eql (.t 165) (cI 3),(some (163,false))⟩,qO 167 (.pick (.t 163) (.c (.bool true)) (.t 166)),qM 168 167,⟨some 169,.fla 5 (.t 5),(some (168,true))⟩,⟨some 170,.ld 1 false (.t 169),(some (168,true))⟩,⟨some 171,.len (.t 170),(some (168,true))⟩,⟨some 172,.bin .neq (.t 171) (cI 1),(some (168,true))⟩,⟨some 173,.mov (.t 172),(some (168,true))⟩,⟨some 174,.fla 5 (.t 5),(some (173,false))⟩,⟨some 175,.ld 1 false (.t 174),(some (173,false))⟩,⟨some 176,.ixa 1 (.t 175) (cI 0),(some (173,false))⟩,⟨some 177,.ld 1 false (.t 176),(some (173,false))⟩,⟨some 178,.len (.t 177),(some (173,false))⟩,⟨some 179,.bin .neq (.t 178) (cI 1),(some (173,false))⟩,⟨some 180,.pick (.t 173) (.c (.bool true)) (.t 179),(some (168,true))⟩,qO 181 (.pick (.t 168) (.t 180) (.c (.bool false))),qM 159 181] (jW 159 (sR [jI 2 3] .ret)))))))))))))))))))))))))) (.reg [qB 182 .add 35 (cI 1),qM 35 182]))))
abbrev qet:IC:=(sR [qO 1 (.box 34 (.t 0)),jI 2 0] (.seq (sR [qF 8 0 1,qL 9 8,qB 10 .lss 9 (cI 1),qM 11 10,⟨some 12,.fla 0 (.t 1),(some (11,false))⟩,⟨some 13,.ld 1 false (.t 12),(some (11,false))⟩,⟨some 14,.bin .gtr (.t 13) (cI 200),(some (11,false))⟩,qO 15 (.pick (.t 11) (.c (.bool true)) (.t 14))] (jW 15 (sR [jI 2 1] .ret))) (.seq (sR [qF 16 1 1,qL 17 16,qF 18 2 1,qL 19 18,jC 20 73 [.t 17,.t 19],qM 3 20] (sR [qM 21 3,qB 22 .neq 21 (cI 0)] (jW 22 (sR [qM 23 3,qM 2 23] .ret)))) (.seq (sR [qF 24 3 1,qL 25 24,qN 26 25,qB 27 .eql 26 (cI 0)] (jW 27 (sR [jI 2 8] .ret))) (.seq (sR [qF 28 3 1,qL 29 28,qN 30 29,qB 31 .gtr 30 (cI 2000)] (jW 31 (sR [jI 2 2] .ret))) (.seq (sR [qF 32 3 1,qL 33 32,qN 34 33,jI 35 0] (.block 0 (.loop qbB))) (sR [jI 2 0] .ret)))))))
theorem qey:chkF Tryz.prog Tryz.f22 qet [.t 2] 183=true:=by kernel_rfl
abbrev qd1:IC:=(sR [qO 2 (.box 83 (.t 0)),qO 3 (.mov (.c (.bool false)))] (sR [qF 4 0 2,qL 5 4,qF 6 0 1,qL 7 6,qT 8 .eql 5 7,qM 3 8] .ret))
theorem qd7:chkF Tryz.prog Tryz.f75 qd1 [.t 3] 9=true:=by kernel_rfl
abbrev qd0:IC:=(sR [qO 2 (.box 83 (.t 0)),qO 3 (.mov (.c (.bool false)))] (sR [qF 4 1 2,qL 5 4,qF 6 1 1,qL 7 6,qT 8 .eql 5 7,qM 3 8] .ret))
theorem qd6:chkF Tryz.prog Tryz.f76 qd0 [.t 3] 9=true:=by kernel_rfl
abbrev qgB:IC:=(sR [qO 2 (.mov (.c (.bool false)))] (sR [qM 3 0,qN 4 3,qB 5 .gtr 4 (cI 50),qM 6 5,⟨some 7,.mov (.t 0),(some (6,false))⟩,⟨some 8,.call 92 [.t 7,.f 130],(some (6,false))⟩,qO 9 (.pick (.t 6) (.c (.bool true)) (.t 8)),qM 2 9] .ret))
theorem qgI:chkF Tryz.prog Tryz.f79 qgB [.t 2] 10=true:=by kernel_rfl
abbrev qfv:IC:=(sR [qO 2 (.mov (.c (.bool false)))] (sR [qM 3 0,qO 4 (.sln (.t 3)),qB 5 .gtr 4 (cI 80),qM 6 5,⟨some 7,.mov (.t 0),(some (6,false))⟩,⟨some 8,.call 131 [.t 7,.c (.bool false)],(some (6,false))⟩,⟨some 9,.not (.t 8),(some (6,false))⟩,qO 10 (.pick (.t 6) (.c (.bool true)) (.t 9)),qM 2 10] .ret))
theorem qfI:chkF Tryz.prog Tryz.f130 qfv [.t 2] 11=true:=by kernel_rfl
theorem qqe (s:List UInt8) (hs:s.length≤1000000000):PCall Tryz.prog E0 130 [.str s] (·=.bool (qpr s)):=by
 refine qag mixed Tryz.func130 qfI ?_
 refine zV ?_
 refine useG (fun _=>qiF s false hs) rfl (.inl rfl) ?_
 refine zS ?_
 exact ⟨fun h=>by rw [h];rfl,rfl⟩
theorem qoI (p:SRow) (hp:p.length≤1000000∧∀ z∈p,z.length≤1000000):PCall Tryz.prog E0 79 [.sl 1 (strE p)] (·=.bool (qlX p)):=by
 refine qag mixed Tryz.func79 qgI ?_
 refine zV ?_
 simp only [ZZ,WW,Zd,reduceCtorEq,zd,ze,zb,zf,za,qaf]
 refine useG (fun _=>qbM p 130 [] qpr (by omega) (fun _=>by kernel_rfl) rfl (fun z hz=>qqe z (by have:=hp.2 z hz;omega)) (fun _=>rfl) (fun _=>rfl)) rfl (.inr rfl) ?_
 refine zS ?_
 exact ⟨fun h=>by rw [h];rfl,rfl⟩
section
variable {E:Envt}
theorem qy0 (y x:Sht):PCall Tryz.prog E 75 [.agg (shV y),.ptr (shV x)] (·=.bool (decide (y.id=x.id))):=by
 refine qag mixed Tryz.func75 qd7 ?_
 refine zV ?_
 simp only [shV,ZZ,WW,Zd,reduceCtorEq,zd,ze,zb,zf,za]
theorem qyZ (y x:Sht):PCall Tryz.prog E 76 [.agg (shV y),.ptr (shV x)] (·=.bool (decide (y.top=x.top))):=by
 refine qag mixed Tryz.func76 qd6 ?_
 refine zV ?_
 simp only [shV,ZZ,WW,Zd,reduceCtorEq,zd,ze,zb,zf,za]
end
theorem qvZ (l:List Sht) (k:Nat):(shE l).take k=shE (l.take k):=by rw [shE,shE,List.map_take]
def rngR (dig:Int) (k:Nat) (x b:Sht):Bool:=decide (x.fr_ < 1) || decide (x.to_ < x.fr_) || decide (powF dig≤x.to_) || (decide (0 < k) && !decide (x.fr_=b.to_+1))
set_option maxHeartbeats 8000000 in
set_option maxRecDepth 100000 in
theorem qe5 (p:Prd) (hp:PdB p):PCall Tryz.prog E0 22 [.agg (pdV p)] (·=int (prdF p)):=by
 obtain ⟨no,pre,dig,shs⟩:=p
 obtain ⟨b1,b2,b3,b4,b5⟩:=hp
 simp only at b1 b2 b3 b4 b5
 have hs:prdF ⟨no,pre,dig,shs⟩=qai [qak (!inE no 1 200) 1,qd3 pre dig,qak (decide (shs.length=0)) 8,qak (decide (2000 < shs.length)) 2,qai ((zA shs.length).map (shP dig shs))]:=rfl
 have e8:decide ((shs.length:Int)=0)=decide (shs.length=0):=decide_eq_decide.2 (by omega)
 have e2:decide ((2000:Int) < (shs.length:Int))=decide (2000 < shs.length):=decide_eq_decide.2 (by omega)
 have e1:(decide (no < 1) || decide (200 < no))=!inE no 1 200:=qnk _ _
 rw [hs]
 clear hs
 refine qag mixed Tryz.func22 qey ?_
 refine zV ?_
 simp only [pdV,ZZ,WW,Zd,reduceCtorEq,zd,ze,zb,zf,za]
 rw [e1]
 refine ⟨fun h=>by rw [h];rfl,?_⟩
 refine br ?_ ?_
 ·intro h
  refine zS ?_
  rw [h]
  rfl
 intro h
 rw [h,qcB,if_pos (show qak false 1=0 from rfl)]
 refine zS ?_
 refine use1 (qgZ pre dig (by omega)) rfl (.inl rfl) ?_
 rw [qt4]
 refine zS ?_
 refine br ?_ ?_
 ·intro h
  have h1:¬ qd3 pre dig=0:=by simpa using h
  refine zS ?_
  rw [qcB,if_neg h1]
 intro h
 have hhd:qd3 pre dig=0:=by simpa using h
 have hd:4≤dig∧dig≤9:=qlp hhd
 rw [qcB,if_pos hhd]
 clear h
 simp only [ZZ,WW,Zd,reduceCtorEq,zd,ze,zb,zf,za,qae,e8]
 refine br ?_ ?_
 ·intro h
  refine zS ?_
  rw [h]
  rfl
 intro h
 rw [h,qcB,if_pos (show qak false 8=0 from rfl)]
 simp only [ZZ,WW,Zd,reduceCtorEq,zd,ze,zb,zf,za,qae,e2]
 refine br ?_ ?_
 ·intro h
  refine zS ?_
  rw [h]
  rfl
 intro h2
 rw [h2,qcB,if_pos (show qak false 2=0 from rfl)]
 have h1e:∀ z:Int,qai [z]=z:=fun z=>by simp only [qai];split<;>simp_all
 rw [h1e]
 clear h h2 e8 e2 e1
 have hget:=fun {k:Nat} (h:k < shs.length)=>qba _ k _ (qtr dig shs h)
 obtain ⟨G,hG⟩:∃ G,(zA shs.length).map (shP dig shs)=G:=⟨_,rfl⟩
 have hGl:G.length=shs.length:=by rw [← hG];simp
 rw [hG] at hget ⊢
 simp only [ZZ,WW,Zd,reduceCtorEq,zd,ze,zb,zf,za,qae]
 refine qac (fun n fr L=>∃ (k:Nat),k≤shs.length∧n=shs.length - k∧(qai G=qai (G.drop k))∧(∀ j,j < k→shP dig shs j=0)∧fr=(oo::.adr (.l 1) 0::oE (oD (oC (oB (oo::(.p (.sl 7 (shE shs))::.p (int (shs.length:Nat))::.p (int (k:Nat))::oG (oG (oE (oB (oo::[]))))))))))∧L=[(.l 1,.box [.p (int no),.p (.str pre),.p (int dig),.p (.sl 7 (shE shs))] tPrd)]) (shs.length) _ _ (by simp only [ZZ,WW,Zd,reduceCtorEq,zd,ze,zb,zf,za,qae];try trivial) zF_ ⟨0,by omega,by omega,rfl,(fun j h=>by omega),rfl,rfl⟩ ?_
 rintro n fr L ⟨k,hk,rfl,hF,hz,rfl,rfl⟩
 simp only [qbB,ZZ,WW,Zd,reduceCtorEq,zd,ze,zb,zf,za]
 refine br ?_ ?_
 rotate_left
 ·intro h
  have hge:shs.length≤k:=by have:=of_decide_eq_false h;omega
  refine zS ?_
  rw [hF,zL (by omega)]
  rfl
 intro h
 have hlt:k < shs.length:=by have:=of_decide_eq_true h;omega
 obtain ⟨x,hx⟩:∃ x,shs[k]?=some x:=⟨_,zg hlt⟩
 have hg:=qa0 hx
 simp only [shV] at hg
 have hxB:=b5 x (zm hx)
 have hxd:shs.getD k sh0=x:=by simp [zu,hx]
 have hdr:=hget hlt
 have hR:=qAw (dig:=dig) hlt hz
 have hmin:min k shs.length=k:=by omega
 obtain ⟨b,hb⟩:∃ b,shs.getD (k - 1) sh0=b:=⟨_,rfl⟩
 unfold shR at hR
 simp only [hxd,hb] at hR
 have hgb:0 < k→(shE (shs.take k)).getD (k - 1) []=[.str b.id,.str b.top,int b.kind,int b.fr_,int b.to_,.sl 1 (tbE b.pages),int b.ver]∧ShB b:=fun h0=>by
  obtain ⟨q,rfl⟩:∃ q,k=q+1:=⟨k - 1,by omega⟩
  obtain ⟨u,hu⟩:∃ u,shs[q]?=some u:=⟨_,zg (by omega)⟩
  have:(shs.take (q+1))[q]?=some u:=by rw [List.getElem?_take,if_pos (by omega)];exact hu
  have hub:u=b:=by rw [← hb];simp [zu,hu]
  subst hub
  exact ⟨qa0 this,b5 _ (zm hu)⟩
 have k0:decide ((0:Int) < (k:Int))=decide (0 < k):=decide_eq_decide.2 (by omega)
 simp only [ZZ,WW,Zd,reduceCtorEq,zd,ze,zb,zf,za,hg,qae]
 ((with_reducible and_intros)<;>try exact sc_)
 rw [qaW]
 refine ⟨_,_,qhZ (k:=.l 5) (cs:=[.str x.id,.str x.top,int x.kind,int x.fr_,int x.to_,.sl 1 (tbE x.pages),int x.ver]) rfl,?_⟩
 simp only [ZZ,WW,Zd,reduceCtorEq,zd,ze,zb,zf,za,qae,qvZ]
 ((with_reducible and_intros)<;>try exact sc_)
 refine qph (oo::.adr (.l 1) 0::oo::oo::.p (int (k:Nat))::.p (.ptr [.str x.id,.str x.top,int x.kind,int x.fr_,int x.to_,.sl 1 (tbE x.pages),int x.ver])::.p (.sl 7 (shE (shs.take k)))::.p (.bool (decide (0 < k) && decide (b.top=x.top)))::oE (oD (oo::(.p (.sl 7 (shE shs))::.p (int (shs.length:Nat))::.p (int (k:Nat))::oG (oG (oE (oB (oo::[])))))))) [(.l 1,.box [.p (int no),.p (.str pre),.p (int dig),.p (.sl 7 (shE shs))] tPrd)] (fun K hK=>?_) ?_
 ·refine drg0 ?_
  rcases Nat.eq_zero_or_pos k with h0|h0
  ·have z1:decide (0 < k)=false:=by rw [decide_eq_false_iff_not];omega
   have hgz:(shE (shs.take k)).getD ((k:Int) - 1).toNat []=[]:=by rw [h0];rfl
   rw [z1] at k0 hK
   simp only [yn] at hK
   simp only [ZZ,WW,Zd,reduceCtorEq,zd,ze,zb,zf,za,k0,qae,hgz,false_implies]
   exact hK _ _ (qax zF_ zE_)
  ·obtain ⟨hgb,hbB⟩:=hgb h0
   have z1:decide (0 < k)=true:=by rw [decide_eq_true_eq];omega
   rw [z1] at k0 hK
   simp only [yc] at hK
   have e1:((k:Int) - 1).toNat=k - 1:=by omega
   simp only [ZZ,WW,Zd,reduceCtorEq,zd,ze,zb,zf,za,k0,qae,e1,hgb,zJ]
   refine ⟨qal (by omega) (by omega),⟨by omega,by omega⟩,by omega,?_⟩
   exact hK _ _ (qax zF_ zE_)
 obtain ⟨x1,x2,x3,x4,x5,x6,x7,x8⟩:=hxB
 obtain ⟨goes,hgo⟩:∃ g,(decide (0 < k) && decide (b.top=x.top))=g:=⟨_,rfl⟩
 rw [hgo] at hR ⊢
 rw [show (decide (x.fr_ < 1) || decide (x.to_ < x.fr_) || decide (powF dig≤x.to_) || (decide (0 < k) && !decide (x.fr_=b.to_+1)))=rngR dig k x b from rfl] at hR
 refine zS ?_
 refine use1 (qr8 _ (by omega)) rfl (.inl rfl) ?_
 refine zS ?_
 refine useG (fun _=>qr8 _ (by omega)) rfl (.inl rfl) ?_
 refine zS ?_
 refine ⟨fun h=>by rw [h];rfl,?_⟩
 refine br ?_ ?_
 ·intro hc
  rw [if_pos hc] at hR
  refine zS ?_
  rw [hF,hdr,← hR]
  rfl
 intro hc
 rw [if_neg (by rw [hc];simp)] at hR
 clear hc
 refine zS ?_
 refine use1 (qdL (shs.take k) 75 [.ptr (shV x)] (fun y=>decide (y.id=x.id)) (by rw [zJ];omega) (fun _=>by kernel_rfl) rfl (fun y _=>qy0 y x) (fun _=>rfl) (fun _=>rfl)) rfl (.inr rfl) ?_
 refine zS ?_
 refine br ?_ ?_
 ·intro hc
  rw [if_pos hc] at hR
  refine zS ?_
  rw [hF,hdr,← hR]
  rfl
 intro hc
 rw [if_neg (by rw [hc];simp)] at hR
 clear hc
 refine zS ?_
 refine br ?_ ?_
 ·intro hc
  rw [if_pos hc] at hR
  refine zS ?_
  rw [hF,hdr,← hR]
  rfl
 intro hc
 rw [if_neg (by rw [hc];simp)] at hR
 clear hc
 refine zS ?_
 refine useG (fun _=>qdL (shs.take k) 76 [.ptr (shV x)] (fun y=>decide (y.top=x.top)) (by rw [zJ];omega) (fun _=>by kernel_rfl) rfl (fun y _=>qyZ y x) (fun _=>rfl) (fun _=>rfl)) rfl (.inr rfl) ?_
 refine zS ?_
 refine br ?_ ?_
 ·intro hc
  rw [if_pos hc] at hR
  refine zS ?_
  rw [hF,hdr,← hR]
  rfl
 intro hc
 rw [if_neg (by rw [hc];simp)] at hR
 clear hc
 refine zS ?_
 refine ⟨fun h=>by rw [h];rfl,?_⟩
 refine br ?_ ?_
 ·intro hc
  rw [if_pos hc] at hR
  refine zS ?_
  rw [hF,hdr,← hR]
  rfl
 intro hc
 rw [if_neg (by rw [hc];simp)] at hR
 clear hc
 refine zS ?_
 refine ⟨fun h=>by rw [h];rfl,?_⟩
 refine br ?_ ?_
 ·intro hc
  rw [if_pos hc] at hR
  refine zS ?_
  rw [hF,hdr,← hR]
  rfl
 intro hc
 rw [if_neg (by rw [hc];simp)] at hR
 clear hc
 refine zS ?_
 refine qph (oo::.adr (.l 1) 0::oo::oo::.p (int (k:Nat))::.p (.ptr [.str x.id,.str x.top,int x.kind,int x.fr_,int x.to_,.sl 1 (tbE x.pages),int x.ver])::.p (.sl 7 (shE (shs.take k)))::.p (.bool (goes))::oE (oD (oo::(.p (.sl 7 (shE shs))::.p (int (shs.length:Nat))::.p (int (k:Nat))::oG (oD (.p (.bool (rngR dig k x b))::oG (oD (oB [])))))))) [(.l 1,.box [.p (int no),.p (.str pre),.p (int dig),.p (.sl 7 (shE shs))] tPrd)] (fun K hK=>?_) ?_
 ·refine drg1 (x1:=int (powF dig)) ?_
  rcases Nat.eq_zero_or_pos k with h0|h0
  ·have z1:decide (0 < k)=false:=by rw [decide_eq_false_iff_not];omega
   have hgz:(shE (shs.take k)).getD ((k:Int) - 1).toNat []=[]:=by rw [h0];rfl
   unfold rngR at hK
   rw [z1] at k0 hK
   simp only [yn,Bool.or_false] at hK
   simp only [ZZ,WW,Zd,reduceCtorEq,zd,ze,zb,zf,za,k0,qae,hgz,false_implies,Bool.and_false]
   (repeat' (with_reducible apply And.intro))
   all_goals try (first|exact fun hq=>⟨hq,usep (qk7 dig (by omega) (by omega)) rfl (.inl rfl)⟩|exact fun hq=>⟨hq,qal (by omega) (by omega)⟩|exact fun hq=>⟨hq,by omega,by omega⟩|exact fun hq=>⟨hq,hq,by omega,by omega⟩|exact fun hq=>⟨hq,by omega⟩|(intro hq;rw [hq];rfl)|(intro hq;refine ⟨hq,?_⟩;rw [hq];rfl))
   all_goals try exact hK _ _ (qax zF_ zE_)
  ·obtain ⟨hgb,hbB⟩:=hgb h0
   have z1:decide (0 < k)=true:=by rw [decide_eq_true_eq];omega
   have hb5:=hbB.to_
   unfold rngR at hK
   rw [z1] at k0 hK
   simp only [yc] at hK
   have e1:((k:Int) - 1).toNat=k - 1:=by omega
   simp only [ZZ,WW,Zd,reduceCtorEq,zd,ze,zb,zf,za,k0,qae,e1,hgb,zJ]
   (repeat' (with_reducible apply And.intro))
   all_goals try (first|exact fun hq=>⟨hq,usep (qk7 dig (by omega) (by omega)) rfl (.inl rfl)⟩|exact fun hq=>⟨hq,qal (by omega) (by omega)⟩|exact fun hq=>⟨hq,by omega,by omega⟩|exact fun hq=>⟨hq,hq,by omega,by omega⟩|exact fun hq=>⟨hq,by omega⟩|(intro hq;rw [hq];rfl)|(intro hq;refine ⟨hq,?_⟩;rw [hq];rfl))
   all_goals try exact hK _ _ (qax zF_ zE_)
 refine zS ?_
 refine br ?_ ?_
 ·intro hc
  rw [if_pos hc] at hR
  refine zS ?_
  rw [hF,hdr,← hR]
  rfl
 intro hc
 rw [if_neg (by rw [hc];simp)] at hR
 clear hc
 simp only [ZZ,WW,Zd,reduceCtorEq,zd,ze,zb,zf,za,qaC]
 refine ⟨qal (by omega) (by omega),qal (by omega) (by omega),?_⟩
 refine useG (fun _=>qjY x.pages 79 [] qlX (by omega) (fun _=>by kernel_rfl) rfl (fun z hz=>qoI z (x7 z hz)) (fun _=>rfl) (fun _=>rfl)) rfl (.inr rfl) ?_
 refine zS ?_
 refine ⟨fun h=>by rw [h];rfl,?_⟩
 refine br ?_ ?_
 ·intro hc
  rw [if_pos hc] at hR
  refine zS ?_
  rw [hF,hdr,← hR]
  rfl
 intro hc
 rw [if_neg (by rw [hc];simp)] at hR
 clear hc
 have hg0:0 < x.pages.length→(tbE x.pages).getD 0 []=[.sl 1 (strE (x.pages.getD 0 []))]:=fun h=>by
  obtain ⟨p,hp⟩:∃ p,x.pages[0]?=some p:=⟨_,zg h⟩
  rw [qh4 hp]
  simp [zu,hp]
 have e0:Int.toNat 0=0:=rfl
 have hnq:decide (x.kind=2)=false→(!decide (x.kind=2))=true:=fun h=>by rw [h];rfl
 by_cases hl1:x.pages.length=1
 ·have hg:=hg0 (by omega)
  have e1:decide ((x.pages.length:Int)=1)=true:=by rw [hl1];rfl
  rw [e1] at hR
  simp only [ZZ,WW,Zd,reduceCtorEq,zd,ze,zb,zf,za,qaC,e1]
  generalize (decide (x.kind=2) || decide (x.kind=3))=q at hR ⊢
  cases q
  ·simp only [ZZ,WW,Zd,reduceCtorEq,zd,ze,zb,zf,za,qaC,e0,hg,e1,qaf,decide_true,Bool.not_true,Bool.false_or,Bool.or_false,Bool.or_self,Bool.and_self,yc,yn,false_implies]
   refine ⟨hnq,?_⟩
   rw [if_neg (by simp)] at hR
   ((with_reducible and_intros)<;>try exact sc_)
   refine qab (shs.length - (k+1)) _ _ (by omega) zF_ zF_ ⟨k+1,by omega,rfl,by rw [hF,hdr,if_pos hR.symm],(fun j hj=>by rcases Nat.lt_succ_iff_lt_or_eq.1 hj with hj|rfl;exact hz j hj;exact hR.symm),rfl,rfl⟩
  ·simp only [Bool.not_true,Bool.false_or,yc] at hR
   simp only [ZZ,WW,Zd,reduceCtorEq,zd,ze,zb,zf,za,qaC,e0,hg,e1,qaf,decide_true,Bool.not_true,Bool.false_or,Bool.or_false,Bool.or_self,Bool.and_self,yc,yn,false_implies]
   refine ⟨hnq,⟨by omega,by omega⟩,by omega,?_⟩
   refine br ?_ ?_
   ·intro hc
    rw [if_pos hc] at hR
    refine zS ?_
    rw [hF,hdr,← hR]
    rfl
   ·intro hc
    rw [if_neg (by rw [hc];simp)] at hR
    refine zS ?_
    ((with_reducible and_intros)<;>try exact sc_)
    refine qab (shs.length - (k+1)) _ _ (by omega) zF_ zF_ ⟨k+1,by omega,rfl,by rw [hF,hdr,if_pos hR.symm],(fun j hj=>by rcases Nat.lt_succ_iff_lt_or_eq.1 hj with hj|rfl;exact hz j hj;exact hR.symm),rfl,rfl⟩
 ·have e1:decide ((x.pages.length:Int)=1)=false:=by rw [decide_eq_false_iff_not];omega
  rw [e1] at hR
  obtain ⟨hg,hg2⟩|hg:((tbE x.pages).getD 0 []=[]∧x.pages.length=0)∨(tbE x.pages).getD 0 []=[.sl 1 (strE (x.pages.getD 0 []))]:=by
   rcases Nat.eq_zero_or_pos x.pages.length with hz0|hz0
   ·refine .inl ⟨?_,hz0⟩
    have:x.pages=[]:=List.eq_nil_of_length_eq_zero hz0
    rw [this]
    rfl
   ·exact .inr (hg0 hz0)
  all_goals
   simp only [ZZ,WW,Zd,reduceCtorEq,zd,ze,zb,zf,za,qaC,e1]
   generalize (decide (x.kind=2) || decide (x.kind=3))=q at hR ⊢
   cases q
   ·simp only [ZZ,WW,Zd,reduceCtorEq,zd,ze,zb,zf,za,qaC,e0,hg,e1,qaf,decide_false,Bool.not_false,Bool.true_or,Bool.or_true,Bool.and_self,yc,yn,false_implies]
    refine ⟨hnq,?_⟩
    rw [if_neg (by simp)] at hR
    ((with_reducible and_intros)<;>try exact sc_)
    refine qab (shs.length - (k+1)) _ _ (by omega) zF_ zF_ ⟨k+1,by omega,rfl,by rw [hF,hdr,if_pos hR.symm],(fun j hj=>by rcases Nat.lt_succ_iff_lt_or_eq.1 hj with hj|rfl;exact hz j hj;exact hR.symm),rfl,rfl⟩
   ·simp only [ZZ,WW,Zd,reduceCtorEq,zd,ze,zb,zf,za,qaC,e0,hg,e1,qaf,decide_false,Bool.not_false,Bool.true_or,Bool.or_true,Bool.and_self,yc,yn,false_implies]
    refine ⟨hnq,?_⟩
    rw [if_pos (by simp)] at hR
    rw [hF,hdr,← hR]
    rfl
abbrev qiX:IC:=(sR [qO 1 (.box 34 (.t 0)),qO 2 (.alc 62 [.int .i64 0,.int .i64 0])] (.seq (.drg [qF 3 3 1,qL 4 3,qO 5 (.ixa 7 (.t 4) (cI 0)),qF 6 3 5,qL 7 6,qF 8 3 1,qL 9 8,qF 10 3 1,qL 11 10,qN 12 11,qB 13 .sub 12 (cI 1),qX 14 7 9 13,qF 15 4 14,qL 16 15,qB 17 .add 16 (cI 1),qO 18 (.bld [.int .i64 0,.int .i64 0] [(0,1,.t 7),(1,1,.t 17)]),qS 2 2 18]) .ret))
theorem qjf:chkF Tryz.prog Tryz.f82 qiX [.c 2 2 true] 19=true:=by kernel_rfl
def qdn:IC:=(sR [qT 66 .lss 65 64] (.seq (.cond (.t 66) .skip (.exit 4)) (.seq (.block 5 (sR [qX 67 7 63 65,qO 68 (.ld 7 true (.t 67)),qO 12 (.alc 83 [.str [],.str [],.int .i64 0,.int .i64 0,.int .i64 0,.nl 1,.int .i64 0]),qS 7 12 68] (.reg [qM 69 3,qF 70 0 12,qL 71 70,⟨none,.mpu (.t 69) (.t 71) (.c (.bool true)),none⟩]))) (.reg [qB 72 .add 65 (cI 1),qM 65 72]))))
def qdo:IC:=(sR [qT 41 .lss 40 39] (.seq (.cond (.t 41) .skip (.exit 2)) (.seq (.block 3 (sR [qX 42 7 38 40,qO 43 (.ld 7 true (.t 42)),qO 8 (.alc 83 [.str [],.str [],.int .i64 0,.int .i64 0,.int .i64 0,.nl 1,.int .i64 0]),qS 7 8 43,⟨none,.re,none⟩] (sR [qM 44 0,qM 45 4,qO 46 (.vsl 4 (.t 44) none (some (.t 45))),qO 47 (.mkf 124 [.t 5,.t 8]),jC 48 123 [.t 46,.t 47],qM 9 48] (sR [qM 49 3,qF 50 0 8,qL 51 50,qO 52 (.mpl false (.bool false) (.t 49) (.t 51)),jC 53 51 [.t 52,.c (.int .i64 6)],qM 54 9,jC 55 51 [.t 54,.c (.int .i64 13)],qO 56 (.bsl 1 [.t 53,.t 55]),jC 57 49 [.t 56],qM 10 57] (sR [qM 58 10,qB 59 .neq 58 (cI 0)] (jW 59 (sR [qM 60 10,qM 2 60] .ret))))))) (.reg [qB 61 .add 40 (cI 1),qM 40 61]))))
def qdp:IC:=(sR [qT 20 .lss 19 18] (.seq (jE 20) (.seq (.block 1 (sR [qM 21 19,qX 22 4 17 19,qO 23 (.ld 4 true (.t 22)),qO 5 (.alc 34 [.int .i64 0,.str [],.int .i64 0,.nl 7]),qM 4 21,qS 4 5 23,⟨none,.re,none⟩] (.seq (.seq (.drg [qO 24 (.ld 4 true (.t 5)),qO 25 (.pcall 0 50 [.t 24]),qF 26 0 5,qL 27 26,qM 28 4,qB 29 .add 28 (cI 1),qT 30 .neq 27 29,qO 31 (.pcall 1 51 [.t 30,.c (.int .i64 7)]),qO 32 (.bsl 1 [.t 25,.t 31]),qO 33 (.pcall 2 49 [.t 32]),qM 6 33]) (sR [qM 34 6,qB 35 .neq 34 (cI 0)] (jW 35 (sR [qM 36 6,qM 2 36] .ret)))) (.seq (sR [qF 37 3 5,qL 38 37,qN 39 38,jI 40 0] (.block 2 (.loop qdo))) (sR [qF 62 3 5,qL 63 62,qN 64 63,jI 65 0] (.block 4 (.loop qdn))))))) (.reg [qB 73 .add 19 (cI 1),qM 19 73]))))
abbrev qii:IC:=(sR [jI 2 0] (.seq (sR [qM 13 0,qN 14 13,qB 15 .gtr 14 (cI 200)] (jW 15 (sR [jI 2 2] .ret))) (sR [qO 16 (.mkm 9 4),qM 3 16] (.seq (sR [qM 17 0,qN 18 17,jI 19 0] (.block 0 (.loop qdp))) (sR [jI 2 0] .ret)))))
theorem qiu:chkF Tryz.prog Tryz.f64 qii [.t 2] 74=true:=by kernel_rfl
abbrev qg4:IC:=(sR [qO 3 (.box 34 (.t 0)),qO 4 (.mov (.c (.bool false)))] (sR [qO 6 (.ld 4 true (.t 3)),jC 7 82 [.t 6],qO 5 (.alc 62 [.int .i64 0,.int .i64 0]),qS 2 5 7] (sR [qF 8 1 3,qL 9 8,qF 10 1 1,qL 11 10,qT 12 .eql 9 11,qM 13 12,⟨some 14,.fla 3 (.t 2),(some (13,true))⟩,⟨some 15,.ld 1 false (.t 14),(some (13,true))⟩,⟨some 16,.fla 1 (.t 5),(some (13,true))⟩,⟨some 17,.ld 1 false (.t 16),(some (13,true))⟩,⟨some 18,.bin .lss (.t 15) (.t 17),(some (13,true))⟩,qO 19 (.pick (.t 13) (.t 18) (.c (.bool false))),qM 20 19,⟨some 21,.fla 4 (.t 2),(some (20,true))⟩,⟨some 22,.ld 1 false (.t 21),(some (20,true))⟩,⟨some 23,.fla 0 (.t 5),(some (20,true))⟩,⟨some 24,.ld 1 false (.t 23),(some (20,true))⟩,⟨some 25,.bin .geq (.t 22) (.t 24),(some (20,true))⟩,qO 26 (.pick (.t 20) (.t 25) (.c (.bool false))),qM 4 26] .ret)))
theorem qhg:chkF Tryz.prog Tryz.f124 qg4 [.t 4] 27=true:=by kernel_rfl
def qbs:IC:=(sR [qT 70 .lss 69 68] (.seq (.cond (.t 70) .skip (.exit 6)) (.seq (.block 7 (sR [qX 71 7 67 69,qO 72 (.ld 7 true (.t 71)),qO 12 (.alc 83 [.str [],.str [],.int .i64 0,.int .i64 0,.int .i64 0,.nl 1,.int .i64 0]),qS 7 12 72] (.reg [qM 73 3,qF 74 0 12,qL 75 74,⟨none,.mpu (.t 73) (.t 75) (.c (.bool true)),none⟩]))) (.reg [qB 76 .add 69 (cI 1),qM 69 76]))))
def qbt:IC:=(sR [qT 50 .lss 49 48] (.seq (.cond (.t 50) .skip (.exit 4)) (.seq (.block 5 (sR [qX 51 4 47 49,qO 52 (.ld 4 true (.t 51)),qO 10 (.alc 34 [.int .i64 0,.str [],.int .i64 0,.nl 7]),qS 4 10 52] (sR [qF 53 1 10,qL 54 53,qF 55 1 5,qL 56 55,qT 57 .eql 54 56,qM 58 57,⟨some 59,.fla 3 (.t 10),(some (58,true))⟩,⟨some 60,.ld 1 false (.t 59),(some (58,true))⟩,⟨some 61,.mkf 86 [.t 8],(some (58,true))⟩,⟨some 62,.call 74 [.t 60,.t 61],(some (58,true))⟩,qO 63 (.pick (.t 58) (.t 62) (.c (.bool false)))] (jW 63 (sR [jI 2 13] .ret))))) (.reg [qB 64 .add 49 (cI 1),qM 49 64]))))
def qbu:IC:=(sR [qT 38 .lss 37 36] (.seq (.cond (.t 38) .skip (.exit 2)) (.seq (.block 3 (sR [qX 39 7 35 37,qO 40 (.ld 7 true (.t 39)),qO 8 (.alc 83 [.str [],.str [],.int .i64 0,.int .i64 0,.int .i64 0,.nl 1,.int .i64 0]),qS 7 8 40,⟨none,.re,none⟩] (.seq (sR [qM 41 3,qF 42 0 8,qL 43 42,qO 44 (.mpl false (.bool false) (.t 41) (.t 43))] (jW 44 (sR [jI 2 6] .ret))) (sR [qM 45 0,qM 46 4,qO 47 (.vsl 4 (.t 45) none (some (.t 46))),qN 48 47,jI 49 0] (.block 4 (.loop qbt)))))) (.reg [qB 65 .add 37 (cI 1),qM 37 65]))))
def qbv:IC:=(sR [qT 20 .lss 19 18] (.seq (jE 20) (.seq (.block 1 (sR [qM 21 19,qX 22 4 17 19,qO 23 (.ld 4 true (.t 22)),qO 5 (.alc 34 [.int .i64 0,.str [],.int .i64 0,.nl 7]),qM 4 21,qS 4 5 23,⟨none,.re,none⟩] (.seq (sR [qO 24 (.ld 4 true (.t 5)),jC 25 22 [.t 24],qM 6 25] (sR [qM 26 6,qB 27 .neq 26 (cI 0)] (jW 27 (sR [qM 28 6,qM 2 28] .ret)))) (.seq (sR [qF 29 0 5,qL 30 29,qM 31 4,qB 32 .add 31 (cI 1),qT 33 .neq 30 32] (jW 33 (sR [jI 2 7] .ret))) (.seq (sR [qF 34 3 5,qL 35 34,qN 36 35,jI 37 0] (.block 2 (.loop qbu))) (sR [qF 66 3 5,qL 67 66,qN 68 67,jI 69 0] (.block 6 (.loop qbs)))))))) (.reg [qB 77 .add 19 (cI 1),qM 19 77]))))
abbrev qee:IC:=(sR [jI 2 0] (.seq (sR [qM 13 0,qN 14 13,qB 15 .gtr 14 (cI 200)] (jW 15 (sR [jI 2 2] .ret))) (sR [qO 16 (.mkm 9 4),qM 3 16] (.seq (sR [qM 17 0,qN 18 17,jI 19 0] (.block 0 (.loop qbv))) (sR [jI 2 0] .ret)))))
theorem qej:chkF Tryz.prog Tryz.f26 qee [.t 2] 78=true:=by kernel_rfl
abbrev qdF:IC:=(sR [qO 2 (.box 83 (.t 0)),qO 3 (.mov (.c (.bool false)))] (sR [qF 4 3 1,qL 5 4,qF 6 4 2,qL 7 6,qT 8 .leq 5 7,qM 9 8,⟨some 10,.fla 3 (.t 2),(some (9,true))⟩,⟨some 11,.ld 1 false (.t 10),(some (9,true))⟩,⟨some 12,.fla 4 (.t 1),(some (9,true))⟩,⟨some 13,.ld 1 false (.t 12),(some (9,true))⟩,⟨some 14,.bin .leq (.t 11) (.t 13),(some (9,true))⟩,qO 15 (.pick (.t 9) (.t 14) (.c (.bool false))),qM 3 15] .ret))
theorem qdJ:chkF Tryz.prog Tryz.f86 qdF [.t 3] 16=true:=by kernel_rfl
section
variable {E:Envt}
theorem qry (l:List Prd) (k:Nat):(pdE l).take k=pdE (l.take k):=by rw [pdE,pdE,List.map_take]
theorem qmh (q:Prd) (hq:0 < q.shs.length) (hB:PdB q):PCall Tryz.prog E 82 [.agg (pdV q)] (·=.agg [int (q.shs.getD 0 sh0).fr_,int ((q.shs.getD (q.shs.length - 1) sh0).to_+1)]):=by
 obtain ⟨no,pre,dig,shs⟩:=q
 obtain ⟨b1,b2,b3,b4,b5⟩:=hB
 simp only at b1 b2 b3 b4 b5 hq
 obtain ⟨x,hx⟩:∃ x,shs[0]?=some x:=⟨_,zg hq⟩
 obtain ⟨y,hy⟩:∃ y,shs[shs.length - 1]?=some y:=⟨_,zg (by omega)⟩
 have hgx:=qa0 hx
 have hgy:=qa0 hy
 simp only [shV] at hgx hgy
 have e1:shs.getD 0 sh0=x:=by simp [zu,hx]
 have e2:shs.getD (shs.length - 1) sh0=y:=by simp [zu,hy]
 have hyB:=(b5 y (zm hy)).to_
 have e3:((shs.length:Int) - 1).toNat=shs.length - 1:=by omega
 have e4:Int.toNat 0=0:=rfl
 simp only [e1,e2]
 refine qag mixed Tryz.func82 qjf ?_
 refine zV ?_
 simp only [pdV,ZZ,WW,Zd,reduceCtorEq,zd,ze,zb,zf,za]
 refine drg0 ?_
 simp only [ZZ,WW,Zd,reduceCtorEq,zd,ze,zb,zf,za,qae,e3,e4,hgx,hgy]
 exact ⟨⟨by omega,by omega⟩,by omega,qal (by omega) (by omega),⟨by omega,by omega⟩,by omega,qal (by omega) (by omega)⟩
theorem qBB (q p:Prd) (x:Sht) (hq:0 < q.shs.length) (hB:PdB q):PCall Tryz.prog E 124 [.agg (pdV q),.ptr (pdV p),.ptr (shV x)] (·=.bool (decide (q.pre=p.pre) && takW x q)):=by
 have hn:=qmh (E:=E) q hq hB
 refine qag mixed Tryz.func124 qhg ?_
 refine zV ?_
 simp only [pdV,shV,ZZ,WW,Zd,reduceCtorEq,zd,ze,zb,zf,za] at hn ⊢
 refine use1 hn rfl (.inl rfl) ?_
 refine zS ?_
 unfold takW
 rw [Bool.and_assoc]
theorem qBy (y x:Sht):PCall Tryz.prog E 86 [.agg (shV y),.ptr (shV x)] (·=.bool (decide (x.fr_≤y.to_) && decide (y.fr_≤x.to_))):=by
 refine qag mixed Tryz.func86 qdJ ?_
 refine zV ?_
 simp only [shV,ZZ,WW,Zd,reduceCtorEq,zd,ze,zb,zf,za]
end
def qnj (kv:List (List UInt8×PV)) (l:List Prd) (m:List Sht):Prop:=∀ s,mpD kv s (.bool false)=.bool (qh2 l s || m.any fun y=>decide (y.id=s))
theorem qoS:qnj [] [] []:=fun s=>rfl
theorem qoR {kv:List (List UInt8×PV)} {l:List Prd} {m:List Sht} (h:qnj kv l m) (x:Sht):qnj (mpS kv x.id (.bool true)) l (m++[x]):=fun s=>by
 have h:=h s
 unfold mpD at h ⊢
 rw [qg0,List.any_append]
 by_cases hs:x.id=s
 ·simp [hs]
 ·rw [if_neg hs,h]
  simp [hs]
theorem qoT {kv:List (List UInt8×PV)} {l:List Prd} {p:Prd} (h:qnj kv l p.shs):qnj kv (l++[p]) []:=fun s=>by
 rw [h s]
 simp [qh2,List.any_append]
theorem qrk (l:List Prd) (p:Prd) {k:Nat} {x:Sht} (h:p.shs[k]?=some x):(p.shs.map (shBp l p))[k]?=some (shBp l p x):=by
 rw [List.getElem?_map,h];rfl
set_option maxHeartbeats 8000000 in
set_option maxRecDepth 100000 in
theorem qqZ (l:List Prd) (hl:l.length≤100000) (hB:∀ p∈l,PdB p):PCall Tryz.prog E0 64 [.sl 4 (pdE l)] (·=int (pdsF l)):=by
 have e2:decide ((200:Int) < (l.length:Int))=decide (200 < l.length):=decide_eq_decide.2 (by omega)
 refine qag mixed Tryz.func64 qiu ?_
 refine zV ?_
 simp only [ZZ,WW,Zd,reduceCtorEq,zd,ze,zb,zf,za,qaE,e2]
 refine br ?_ ?_
 ·intro h
  refine zS ?_
  rw [pdsF,if_pos (by simpa using h)]
 intro h
 rw [pdsF,if_neg (by simpa using h)]
 clear h e2
 have hget:=fun {k:Nat} (h:k < l.length)=>qba _ k _ (qrx l h)
 obtain ⟨G,hG⟩:∃ G,(zA l.length).map (pdsA l)=G:=⟨_,rfl⟩
 have hGl:G.length=l.length:=by rw [← hG];simp
 rw [hG] at hget ⊢
 simp only [ZZ,WW,Zd,reduceCtorEq,zd,ze,zb,zf,za,qaE]
 refine qac (fun n fr L=>∃ (k:Nat) (kv:List (List UInt8×PV)),k≤l.length∧n=l.length - k∧(qai G=qai (G.drop k))∧(∀ j,j < k→pdsA l j=0)∧(qnj kv (l.take k) [])∧fr=(.p (.sl 4 (pdE l))::oo::oo::.mp (.l 16)::oD (oC (oo::(.p (.sl 4 (pdE l))::.p (int (l.length:Nat))::.p (int (k:Nat))::oF (oE (oC (oB [])))))))∧L=[(.l 16,.map kv 9 4)]) (l.length) _ _ (by simp only [ZZ,WW,Zd,reduceCtorEq,zd,ze,zb,zf,za,qaE];try trivial) zF_ ⟨0,[],by omega,by omega,rfl,(fun j h=>by omega),qoS,rfl,rfl⟩ ?_
 rintro n fr L ⟨k,kv,hk,rfl,hF,hz,hkv,rfl,rfl⟩
 simp only [qdp,ZZ,WW,Zd,reduceCtorEq,zd,ze,zb,zf,za]
 refine br ?_ ?_
 rotate_left
 ·intro h
  have hge:l.length≤k:=by have:=of_decide_eq_false h;omega
  refine zS ?_
  rw [hF,zL (by omega)]
  rfl
 intro h
 have hlt:k < l.length:=by have:=of_decide_eq_true h;omega
 obtain ⟨p,hp⟩:∃ p,l[k]?=some p:=⟨_,zg hlt⟩
 have hg:=qgW hp
 have hpB:=hB p (zm hp)
 have hck:=qsa p hpB
 simp only [pdV] at hg hck
 have hdr:=hget hlt
 have hpd:l.getD k pd0=p:=by simp [zu,hp]
 have hA:pdsA l k=if qai [prdF p,qak (!decide (p.no=(k:Nat)+1)) 7]=0 then qai (p.shs.map (shBp (l.take k) p)) else qai [prdF p,qak (!decide (p.no=(k:Nat)+1)) 7]:=by
  unfold pdsA
  rw [hpd]
 have htk:l.take (k+1)=l.take k++[p]:=by rw [zo hlt,(zk.1 hp).2]
 simp only [ZZ,WW,Zd,reduceCtorEq,zd,ze,zb,zf,za,hg,qaE]
 ((with_reducible and_intros)<;>try exact sc_)
 rw [qaW]
 refine ⟨_,_,qhZ (k:=.l 5) (cs:=[int p.no,.str p.pre,int p.dig,.sl 7 (shE p.shs)]) rfl,?_⟩
 refine zS ?_
 refine ⟨[int (prdF p),int (qak (!decide (p.no=(k:Nat)+1)) 7),int (qai [prdF p,qak (!decide (p.no=(k:Nat)+1)) 7])],?_⟩
 refine zS ?_
 refine ⟨usep hck rfl (.inl rfl),qal (by omega) (by omega),usep (qcL _ 7) rfl (.inl rfl),usep (qeA [_,_] (by simp)) rfl (.inl rfl),?_⟩
 refine br ?_ ?_
 ·intro h2
  have h3:¬ qai [prdF p,qak (!decide (p.no=(k:Nat)+1)) 7]=0:=by simpa using h2
  rw [if_neg h3] at hA
  refine zS ?_
  rw [hF,hdr,hA,if_neg h3]
 intro h2
 have h3:qai [prdF p,qak (!decide (p.no=(k:Nat)+1)) 7]=0:=by simpa using h2
 rw [if_pos h3] at hA
 have hp0:prdF p=0:=qaz h3 _ (by simp)
 clear h2 h3
 have hget2:=fun {j:Nat} {x:Sht} (h:p.shs[j]?=some x)=>qba _ j _ (qrk (l.take k) p h)
 obtain ⟨H,hH⟩:∃ H,p.shs.map (shBp (l.take k) p)=H:=⟨_,rfl⟩
 have hHl:H.length=p.shs.length:=by rw [← hH];simp
 rw [hH] at hget2 hA
 have hsl:=hpB.shs
 simp only [ZZ,WW,Zd,reduceCtorEq,zd,ze,zb,zf,za,qae]
 refine qac (fun n fr L=>∃ (j:Nat),j≤p.shs.length∧n=p.shs.length - j∧(qai H=qai (H.drop j))∧fr=(.p (.sl 4 (pdE l))::oo::oo::.mp (.l 16)::.p (int (k:Nat))::.p (.ptr [int p.no,.str p.pre,int p.dig,.sl 7 (shE p.shs)])::oD (oB (oo::(.p (.sl 4 (pdE l))::.p (int (l.length:Nat))::.p (int (k:Nat))::oE (oB (.p (.sl 7 (shE p.shs))::.p (int (p.shs.length:Nat))::.p (int (j:Nat))::oF (oo::[])))))))∧L=[(.l 16,.map kv 9 4)]) (p.shs.length) _ _ (by simp only [ZZ,WW,Zd,reduceCtorEq,zd,ze,zb,zf,za,qae];try trivial) zF_ ⟨0,by omega,by omega,rfl,rfl,rfl⟩ ?_
 rintro n fr L ⟨j,hj,rfl,hF2,rfl,rfl⟩
 simp only [qdo,ZZ,WW,Zd,reduceCtorEq,zd,ze,zb,zf,za]
 refine br ?_ ?_
 ·intro h4
  have hjl:j < p.shs.length:=by have:=of_decide_eq_true h4;omega
  obtain ⟨x,hx⟩:∃ x,p.shs[j]?=some x:=⟨_,zg hjl⟩
  have hgx:=qa0 hx
  simp only [shV] at hgx
  have hdr2:=hget2 hx
  have hm:=hkv x.id
  rw [List.any_nil,Bool.or_false] at hm
  have hcl:=qjZ (E:=E0) (l.take k) 124 [.ptr (pdV p),.ptr (shV x)] (fun q=>decide (q.pre=p.pre) && takW x q) (by rw [zJ];omega) (fun _=>by kernel_rfl) rfl (fun q hq=>by
   obtain ⟨i,hi,hil,he⟩:=qo5 hq
   have h0:prdF q=0:=by rw [← he];exact qgV (hz i hi)
   exact qBB q p x (List.length_pos_iff.2 (qh9 h0).1) (hB q (yz hq))) (fun _=>rfl) (fun _=>rfl)
  simp only [pdV,shV] at hcl
  simp only [ZZ,WW,Zd,reduceCtorEq,zd,ze,zb,zf,za,hgx,qae]
  ((with_reducible and_intros)<;>try exact sc_)
  rw [qaW]
  refine ⟨_,_,qhZ (k:=.l 8) (cs:=[.str x.id,.str x.top,int x.kind,int x.fr_,int x.to_,.sl 1 (tbE x.pages),int x.ver]) rfl,?_⟩
  simp only [ZZ,WW,Zd,reduceCtorEq,zd,ze,zb,zf,za,qaE,qry]
  ((with_reducible and_intros)<;>try exact sc_)
  refine use1 hcl rfl (.inr rfl) ?_
  simp only [ZZ,WW,Zd,reduceCtorEq,zd,ze,zb,zf,za,hm]
  refine use1 (qcL _ 6) rfl (.inl rfl) ?_
  refine zS ?_
  refine use1 (qcL _ 13) rfl (.inl rfl) ?_
  refine zS ?_
  refine use1 (qeA [_,_] (by simp)) rfl (.inl rfl) ?_
  refine zS ?_
  refine br ?_ ?_
  ·intro h5
   have h6:¬ shBp (l.take k) p x=0:=by simpa [shBp,takA] using h5
   rw [if_neg h6] at hdr2
   rw [hF2,hdr2] at hA
   refine zS ?_
   rw [hF,hdr,hA,if_neg h6]
   rfl
  ·intro h5
   have h6:shBp (l.take k) p x=0:=by simpa [shBp,takA] using h5
   rw [if_pos h6] at hdr2
   refine zS ?_
   ((with_reducible and_intros)<;>try exact sc_)
   refine qab (p.shs.length - (j+1)) _ _ (by omega) zF_ zF_ ⟨j+1,by omega,rfl,by rw [hF2,hdr2],rfl,rfl⟩
 intro h4
 have hjl:p.shs.length≤j:=by have:=of_decide_eq_false h4;omega
 rw [hF2,zL (by omega)] at hA
 have hA:pdsA l k=0:=hA
 rw [if_pos hA] at hdr
 clear hF2 hjl h4
 simp only [ZZ,WW,Zd,reduceCtorEq,zd,ze,zb,zf,za,qae]
 refine qac (fun n fr L=>∃ (j:Nat) (kw:List (List UInt8×PV)),j≤p.shs.length∧n=p.shs.length - j∧(qnj kw (l.take k) (p.shs.take j))∧fr=(.p (.sl 4 (pdE l))::oo::oo::.mp (.l 16)::oD (oC (oo::(.p (.sl 4 (pdE l))::.p (int (l.length:Nat))::.p (int (k:Nat))::oF (oD (oB (oo::(.p (.sl 7 (shE p.shs))::.p (int (p.shs.length:Nat))::.p (int (j:Nat))::oD []))))))))∧L=[(.l 16,.map kw 9 4)]) (p.shs.length) _ _ (by simp only [ZZ,WW,Zd,reduceCtorEq,zd,ze,zb,zf,za,qae];try trivial) zF_ ⟨0,kv,by omega,by omega,hkv,rfl,rfl⟩ ?_
 rintro n fr L ⟨j,kw,hj,rfl,hkw,rfl,rfl⟩
 simp only [qdn,ZZ,WW,Zd,reduceCtorEq,zd,ze,zb,zf,za]
 refine br ?_ ?_
 ·intro h4
  have hjl:j < p.shs.length:=by have:=of_decide_eq_true h4;omega
  obtain ⟨x,hx⟩:∃ x,p.shs[j]?=some x:=⟨_,zg hjl⟩
  have hgx:=qa0 hx
  simp only [shV] at hgx
  have hpu:=qoR hkw x
  rw [show p.shs.take j++[x]=p.shs.take (j+1) from by rw [zo hjl,(zk.1 hx).2]] at hpu
  simp only [ZZ,WW,Zd,reduceCtorEq,zd,ze,zb,zf,za,hgx,qae]
  ((with_reducible and_intros)<;>try exact sc_)
  refine qab (p.shs.length - (j+1)) _ _ (by omega) zF_ zF_ ⟨j+1,mpS kw x.id (.bool true),by omega,rfl,hpu,rfl,rfl⟩
 intro h4
 have hjl:p.shs.length≤j:=by have:=of_decide_eq_false h4;omega
 rw [zq hjl] at hkw
 have hkw:=qoT hkw
 rw [← htk] at hkw
 refine zS ?_
 ((with_reducible and_intros)<;>try exact sc_)
 refine qab (l.length - (k+1)) _ _ (by omega) zF_ zF_ ⟨k+1,kw,by omega,rfl,by rw [hF,hdr],(fun i hi=>by rcases Nat.lt_succ_iff_lt_or_eq.1 hi with hi|rfl;exact hz i hi;exact hA),hkw,rfl,rfl⟩
set_option maxHeartbeats 8000000 in
set_option maxRecDepth 100000 in
theorem qeM (l:List Prd) (hl:l.length≤100000) (hB:∀ p∈l,PdB p):PCall Tryz.prog E0 26 [.sl 4 (pdE l)] (·=int (pdsF l)):=by
 have e2:decide ((200:Int) < (l.length:Int))=decide (200 < l.length):=decide_eq_decide.2 (by omega)
 refine qag mixed Tryz.func26 qej ?_
 refine zV ?_
 simp only [ZZ,WW,Zd,reduceCtorEq,zd,ze,zb,zf,za,qaE,e2]
 refine br ?_ ?_
 ·intro h
  refine zS ?_
  rw [pdsF,if_pos (by simpa using h)]
 intro h
 rw [pdsF,if_neg (by simpa using h)]
 clear h e2
 have hget:=fun {k:Nat} (h:k < l.length)=>qba _ k _ (qrx l h)
 obtain ⟨G,hG⟩:∃ G,(zA l.length).map (pdsA l)=G:=⟨_,rfl⟩
 have hGl:G.length=l.length:=by rw [← hG];simp
 rw [hG] at hget ⊢
 simp only [ZZ,WW,Zd,reduceCtorEq,zd,ze,zb,zf,za,qaE]
 refine qac (fun n fr L=>∃ (k:Nat) (kv:List (List UInt8×PV)),k≤l.length∧n=l.length - k∧(qai G=qai (G.drop k))∧(∀ j,j < k→pdsA l j=0)∧(qnj kv (l.take k) [])∧fr=(.p (.sl 4 (pdE l))::oo::oo::.mp (.l 16)::oD (oC (oo::(.p (.sl 4 (pdE l))::.p (int (l.length:Nat))::.p (int (k:Nat))::oF (oE (oD (oB [])))))))∧L=[(.l 16,.map kv 9 4)]) (l.length) _ _ (by simp only [ZZ,WW,Zd,reduceCtorEq,zd,ze,zb,zf,za,qaE];try trivial) zF_ ⟨0,[],by omega,by omega,rfl,(fun j h=>by omega),qoS,rfl,rfl⟩ ?_
 rintro n fr L ⟨k,kv,hk,rfl,hF,hz,hkv,rfl,rfl⟩
 simp only [qbv,ZZ,WW,Zd,reduceCtorEq,zd,ze,zb,zf,za]
 refine br ?_ ?_
 rotate_left
 ·intro h
  have hge:l.length≤k:=by have:=of_decide_eq_false h;omega
  refine zS ?_
  rw [hF,zL (by omega)]
  rfl
 intro h
 have hlt:k < l.length:=by have:=of_decide_eq_true h;omega
 obtain ⟨p,hp⟩:∃ p,l[k]?=some p:=⟨_,zg hlt⟩
 have hg:=qgW hp
 have hpB:=hB p (zm hp)
 have hck:=qe5 p hpB
 simp only [pdV] at hg hck
 have hdr:=hget hlt
 have hpd:l.getD k pd0=p:=by simp [zu,hp]
 have hA:pdsA l k=if qai [prdF p,qak (!decide (p.no=(k:Nat)+1)) 7]=0 then qai (p.shs.map (shBp (l.take k) p)) else qai [prdF p,qak (!decide (p.no=(k:Nat)+1)) 7]:=by
  unfold pdsA
  rw [hpd]
 have htk:l.take (k+1)=l.take k++[p]:=by rw [zo hlt,(zk.1 hp).2]
 have h2e:∀ a b:Int,qai [a,b]=if a=0 then b else a:=fun a b=>by simp only [qai];split<;>(try split)<;>simp_all
 rw [h2e] at hA
 simp only [ZZ,WW,Zd,reduceCtorEq,zd,ze,zb,zf,za,hg,qaE]
 ((with_reducible and_intros)<;>try exact sc_)
 rw [qaW]
 refine ⟨_,_,qhZ (k:=.l 5) (cs:=[int p.no,.str p.pre,int p.dig,.sl 7 (shE p.shs)]) rfl,?_⟩
 refine zS ?_
 refine use1 hck rfl (.inl rfl) ?_
 refine zS ?_
 refine br ?_ ?_
 ·intro h2
  have h3:¬ prdF p=0:=by simpa using h2
  rw [if_neg h3,if_neg h3] at hA
  refine zS ?_
  rw [hF,hdr,hA,if_neg h3]
 intro h2
 have hp0:prdF p=0:=by simpa using h2
 rw [if_pos hp0] at hA
 clear h2
 refine zS ?_
 ((with_reducible and_intros)<;>try exact sc_)
 refine br ?_ ?_
 ·intro h2
  rw [h2,if_neg (show ¬ qak true 7=0 by decide)] at hA
  refine zS ?_
  rw [hF,hdr,hA]
  rfl
 intro h2
 rw [h2,if_pos (show qak false 7=0 by decide)] at hA
 clear h2
 have hget2:=fun {j:Nat} {x:Sht} (h:p.shs[j]?=some x)=>qba _ j _ (qrk (l.take k) p h)
 obtain ⟨H,hH⟩:∃ H,p.shs.map (shBp (l.take k) p)=H:=⟨_,rfl⟩
 have hHl:H.length=p.shs.length:=by rw [← hH];simp
 rw [hH] at hget2 hA
 have hsl:=hpB.shs
 simp only [ZZ,WW,Zd,reduceCtorEq,zd,ze,zb,zf,za,qae]
 refine qac (fun n fr L=>∃ (j:Nat),j≤p.shs.length∧n=p.shs.length - j∧(qai H=qai (H.drop j))∧fr=(.p (.sl 4 (pdE l))::oo::oo::.mp (.l 16)::.p (int (k:Nat))::.p (.ptr [int p.no,.str p.pre,int p.dig,.sl 7 (shE p.shs)])::oD (oB (oo::(.p (.sl 4 (pdE l))::.p (int (l.length:Nat))::.p (int (k:Nat))::oD (oC (oB (oo::(.p (.sl 7 (shE p.shs))::.p (int (p.shs.length:Nat))::.p (int (j:Nat))::oF (oD [])))))))))∧L=[(.l 16,.map kv 9 4)]) (p.shs.length) _ _ (by simp only [ZZ,WW,Zd,reduceCtorEq,zd,ze,zb,zf,za,qae];try trivial) zF_ ⟨0,by omega,by omega,rfl,rfl,rfl⟩ ?_
 rintro n fr L ⟨j,hj,rfl,hF2,rfl,rfl⟩
 simp only [qbu,ZZ,WW,Zd,reduceCtorEq,zd,ze,zb,zf,za]
 refine br ?_ ?_
 ·intro h4
  have hjl:j < p.shs.length:=by have:=of_decide_eq_true h4;omega
  obtain ⟨x,hx⟩:∃ x,p.shs[j]?=some x:=⟨_,zg hjl⟩
  have hgx:=qa0 hx
  simp only [shV] at hgx
  have hdr2:=hget2 hx
  have hm:=hkv x.id
  rw [List.any_nil,Bool.or_false] at hm
  have htk2:takA (l.take k) p x=takB (l.take k) p x:=qtd hz (qtG hp0 (zm hx))
  have hsB:shBp (l.take k) p x=if qh2 (l.take k) x.id=true then 6 else if takB (l.take k) p x=true then 13 else 0:=by
   unfold shBp
   rw [h2e,htk2]
   cases qh2 (l.take k) x.id<;>cases takB (l.take k) p x<;>rfl
  simp only [ZZ,WW,Zd,reduceCtorEq,zd,ze,zb,zf,za,hgx,qae]
  ((with_reducible and_intros)<;>try exact sc_)
  rw [qaW]
  refine ⟨_,_,qhZ (k:=.l 8) (cs:=[.str x.id,.str x.top,int x.kind,int x.fr_,int x.to_,.sl 1 (tbE x.pages),int x.ver]) rfl,?_⟩
  simp only [ZZ,WW,Zd,reduceCtorEq,zd,ze,zb,zf,za,hm]
  refine br ?_ ?_
  ·intro h5
   rw [if_pos h5] at hsB
   rw [hsB] at hdr2
   rw [hF2,hdr2] at hA
   refine zS ?_
   rw [hF,hdr,hA]
   rfl
  intro h5
  rw [if_neg (by rw [h5];simp)] at hsB
  clear h5 hm
  have hkl:(l.take k).length≤100000:=by rw [zJ];omega
  obtain ⟨m,hml⟩:∃ m,l.take k=m:=⟨_,rfl⟩
  have hmB:∀ q∈m,PdB q:=fun q hq=>hB q (yz (by rw [hml];exact hq))
  rw [hml] at hsB hkl
  simp only [ZZ,WW,Zd,reduceCtorEq,zd,ze,zb,zf,za,qaE,qry,hml]
  ((with_reducible and_intros)<;>try exact sc_)
  refine qac (fun n fr L=>∃ (i:Nat),i≤m.length∧n=m.length - i∧(∀ q∈m.take i,(decide (q.pre=p.pre) && takS x q)=false)∧fr=(.p (.sl 4 (pdE l))::oo::oo::.mp (.l 16)::.p (int (k:Nat))::.p (.ptr [int p.no,.str p.pre,int p.dig,.sl 7 (shE p.shs)])::oo::oo::.p (.ptr [.str x.id,.str x.top,int x.kind,int x.fr_,int x.to_,.sl 1 (tbE x.pages),int x.ver])::oD (.p (.sl 4 (pdE l))::.p (int (l.length:Nat))::.p (int (k:Nat))::oD (oC (oB (oo::(.p (.sl 7 (shE p.shs))::.p (int (p.shs.length:Nat))::.p (int (j:Nat))::oD (oo::(.p (.sl 4 (pdE m))::.p (int (m.length:Nat))::.p (int (i:Nat))::oE (oD (oC []))))))))))∧L=[(.l 16,.map kv 9 4)]) (m.length) _ _ (by simp only [ZZ,WW,Zd,reduceCtorEq,zd,ze,zb,zf,za,qaE];try trivial) zF_ ⟨0,by omega,by omega,by simp,rfl,rfl⟩ ?_
  rintro n fr L ⟨i,hi,rfl,hno,rfl,rfl⟩
  simp only [qbt,ZZ,WW,Zd,reduceCtorEq,zd,ze,zb,zf,za]
  refine br ?_ ?_
  ·intro h6
   have hil:i < m.length:=by have:=of_decide_eq_true h6;omega
   obtain ⟨q,hq⟩:∃ q,m[i]?=some q:=⟨_,zg hil⟩
   have hgq:=qgW hq
   simp only [pdV] at hgq
   have hqB:=(hmB q (zm hq)).shs
   have hcl:=qdL (E:=E0) q.shs 86 [.ptr (shV x)] (fun y=>decide (x.fr_≤y.to_) && decide (y.fr_≤x.to_)) (by omega) (fun _=>by kernel_rfl) rfl (fun y _=>qBy y x) (fun _=>rfl) (fun _=>rfl)
   simp only [shV] at hcl
   simp only [ZZ,WW,Zd,reduceCtorEq,zd,ze,zb,zf,za,hgq,qaE]
   ((with_reducible and_intros)<;>try exact sc_)
   refine useG (fun _=>hcl) rfl (.inr rfl) ?_
   refine zS ?_
   refine br ?_ ?_
   ·intro h7
    have h8:takB m p x=true:=List.any_eq_true.2 ⟨q,zm hq,h7⟩
    rw [if_pos h8] at hsB
    rw [hml,hsB] at hdr2
    rw [hF2,hdr2] at hA
    refine zS ?_
    rw [hF,hdr,hA]
    rfl
   ·intro h7
    refine zS ?_
    ((with_reducible and_intros)<;>try exact sc_)
    refine qab (m.length - (i+1)) _ _ (by omega) zF_ zF_ ⟨i+1,by omega,rfl,by rw [zo hil];intro y hy;rcases List.mem_append.1 hy with hy|hy;exact hno y hy;rw [List.mem_singleton] at hy;rw [hy,(zk.1 hq).2];exact h7,rfl,rfl⟩
  intro h6
  have hil:m.length≤i:=by have:=of_decide_eq_false h6;omega
  rw [zq hil] at hno
  have h8:takB m p x=false:=List.any_eq_false.2 fun q hq=>by rw [hno q hq];simp
  rw [if_neg (by rw [h8];simp)] at hsB
  rw [hml,hsB] at hdr2
  refine zS ?_
  ((with_reducible and_intros)<;>try exact sc_)
  refine qab (p.shs.length - (j+1)) _ _ (by omega) zF_ zF_ ⟨j+1,by omega,rfl,by rw [hF2,hdr2];rfl,rfl,rfl⟩
 intro h4
 have hjl:p.shs.length≤j:=by have:=of_decide_eq_false h4;omega
 rw [hF2,zL (by omega)] at hA
 have hA:pdsA l k=0:=hA
 rw [if_pos hA] at hdr
 clear hF2 hjl h4
 simp only [ZZ,WW,Zd,reduceCtorEq,zd,ze,zb,zf,za,qae]
 refine qac (fun n fr L=>∃ (j:Nat) (kw:List (List UInt8×PV)),j≤p.shs.length∧n=p.shs.length - j∧(qnj kw (l.take k) (p.shs.take j))∧fr=(.p (.sl 4 (pdE l))::oo::oo::.mp (.l 16)::oD (oC (oo::(.p (.sl 4 (pdE l))::.p (int (l.length:Nat))::.p (int (k:Nat))::oF (oD (oC (oB (oo::(.p (.sl 7 (shE p.shs))::.p (int (p.shs.length:Nat))::.p (int (j:Nat))::oD [])))))))))∧L=[(.l 16,.map kw 9 4)]) (p.shs.length) _ _ (by simp only [ZZ,WW,Zd,reduceCtorEq,zd,ze,zb,zf,za,qae];try trivial) zF_ ⟨0,kv,by omega,by omega,hkv,rfl,rfl⟩ ?_
 rintro n fr L ⟨j,kw,hj,rfl,hkw,rfl,rfl⟩
 simp only [qbs,ZZ,WW,Zd,reduceCtorEq,zd,ze,zb,zf,za]
 refine br ?_ ?_
 ·intro h4
  have hjl:j < p.shs.length:=by have:=of_decide_eq_true h4;omega
  obtain ⟨x,hx⟩:∃ x,p.shs[j]?=some x:=⟨_,zg hjl⟩
  have hgx:=qa0 hx
  simp only [shV] at hgx
  have hpu:=qoR hkw x
  rw [show p.shs.take j++[x]=p.shs.take (j+1) from by rw [zo hjl,(zk.1 hx).2]] at hpu
  simp only [ZZ,WW,Zd,reduceCtorEq,zd,ze,zb,zf,za,hgx,qae]
  ((with_reducible and_intros)<;>try exact sc_)
  refine qab (p.shs.length - (j+1)) _ _ (by omega) zF_ zF_ ⟨j+1,mpS kw x.id (.bool true),by omega,rfl,hpu,rfl,rfl⟩
 intro h4
 have hjl:p.shs.length≤j:=by have:=of_decide_eq_false h4;omega
 rw [zq hjl] at hkw
 have hkw:=qoT hkw
 rw [← htk] at hkw
 refine zS ?_
 ((with_reducible and_intros)<;>try exact sc_)
 refine qab (l.length - (k+1)) _ _ (by omega) zF_ zF_ ⟨k+1,kw,by omega,rfl,by rw [hF,hdr],(fun i hi=>by rcases Nat.lt_succ_iff_lt_or_eq.1 hi with hi|rfl;exact hz i hi;exact hA),hkw,rfl,rfl⟩
end Go.Proofs.YtmpdnpljdcincaaGreatDoor
