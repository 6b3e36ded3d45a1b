import Derived.Test.YtehfjlpenlffmaaGreatDoorZ12
import Derived.Test.YtehfjlpenlffmaaGreatDoorZ10
import Derived.Lib.ValidLaws
import Derived.Test.YtehfjlpenlffmaaGreatDoorZ9
import Derived.Test.YtehfjlpenlffmaaGreatDoorZ5
set_option linter.unusedVariables false
set_option linter.unusedSimpArgs false
set_option linter.defProp false
namespace Go.Proofs.YtehfjlpenlffmaaGreatDoor
open Nat renaming reduceAdd→zd,reduceEqDiff→za,reduceLT→zf,reduceLeDiff→zb,reduceMul→ze,reduceSub→zu
open List renaming append_assoc→ym,cons_append→zl,eq_nil_of_length_eq_zero→zA,getD→zD,getElem?_append_left→yv,getElem?_eq_getElem→zg,getElem?_eq_some_iff→zt,getElem?_of_mem→zR,length_append→zK,length_cons→zi,length_drop→z8,length_nil→zo,map_cons→zk,map_nil→zr,mem_cons→zI,mem_of_getElem?→zx,nil_append→zm,not_mem_nil→zX,replicate_succ→zh,replicate_zero→zj,take_of_length_le→zC
open Bool renaming and_eq_true→zq,not_eq_true'→zW,true_and→ye
open Option renaming getD_some→yt
open Go.RowKit
def qh9:IC:=(sR [qO 2 (.mov (.c (.str [])))] (.seq (sR [qM 3 0] (.block 0 (sR [qB 5 .eql 3 (cI 1),qM 4 5] (.cond (.t 4) (sR [qO 2 (.mov (.c (.str [109,97,105,108])))] .ret) (sR [qB 7 .eql 3 (cI 2),qM 6 7] (.cond (.t 6) (sR [qO 2 (.mov (.c (.str [102,105,108,101])))] .ret) (sR [qB 9 .eql 3 (cI 3),qM 8 9] (.cond (.t 8) (sR [qO 2 (.mov (.c (.str [98,111,120])))] .ret) (sR [qB 11 .eql 3 (cI 4),qM 10 11] (.cond (.t 10) (sR [qO 2 (.mov (.c (.str [110,111,116,101])))] .ret) .skip)))))))))) (sR [qO 2 (.mov (.c (.str [])))] .ret)))
def qhP:List IRes:=[.t 2]
theorem qmc:chkF Tryz.prog Tryz.f223 qh9 qhP 12=true:=by kernel_rfl
def qhs:IC:=(sR [qO 1 (.box 80 (.t 0)),qO 2 (.mov (cI 0))] (.seq (.block 0 (sR [qF 4 0 1,qL 5 4,qO 6 (.call 53 [.t 5]),qO 7 (.not (.t 6)),qM 8 7,⟨some 9,.fla 1 (.t 1),(some (8,false))⟩,⟨some 10,.ld 1 false (.t 9),(some (8,false))⟩,⟨some 11,.call 53 [.t 10],(some (8,false))⟩,⟨some 12,.not (.t 11),(some (8,false))⟩,qO 13 (.pick (.t 8) (.c (.bool true)) (.t 12)),qM 3 13] (.cond (.t 3) (sR [qO 2 (.mov (cI 5))] .ret) (sR [qF 15 2 1,qL 16 15,qO 17 (.call 223 [.t 16]),qB 18 .eql 17 (.c (.str [])),qM 14 18] (.cond (.t 14) (sR [qO 2 (.mov (cI 4))] .ret) (sR [qF 20 3 1,qL 21 20,qO 22 (.sln (.t 21)),qB 23 .gtr 22 (cI 120),qM 19 23] (.cond (.t 19) (sR [qO 2 (.mov (cI 2))] .ret) (sR [qF 25 3 1,qL 26 25,qO 27 (.call 108 [.t 26]),qO 28 (.not (.t 27)),qM 24 28] (.cond (.t 24) (sR [qO 2 (.mov (cI 3))] .ret) (sR [qF 30 4 1,qL 31 30,qO 32 (.call 106 [.t 31]),qO 33 (.not (.t 32)),qM 29 33] (.cond (.t 29) (sR [qO 2 (.mov (cI 1))] .ret) (sR [qF 35 5 1,qL 36 35,qB 37 .neq 36 (.c (.str [])),qM 38 37,⟨some 39,.fla 5 (.t 1),(some (38,true))⟩,⟨some 40,.ld 1 false (.t 39),(some (38,true))⟩,⟨some 41,.call 53 [.t 40],(some (38,true))⟩,⟨some 42,.not (.t 41),(some (38,true))⟩,qO 43 (.pick (.t 38) (.t 42) (.c (.bool false))),qM 34 43] (.cond (.t 34) (sR [qO 2 (.mov (cI 5))] .ret) (sR [qF 45 5 1,qL 46 45,qF 47 0 1,qL 48 47,qT 49 .eql 46 48,qM 44 49] (.cond (.t 44) (sR [qO 2 (.mov (cI 14))] .ret) (sR [qF 51 6 1,qL 52 51,qO 53 (.sln (.t 52)),qB 54 .gtr 53 (cI 20000),qM 50 54] (.cond (.t 50) (sR [qO 2 (.mov (cI 2))] .ret) (sR [qF 56 6 1,qL 57 56,qO 58 (.call 186 [.t 57]),qO 59 (.not (.t 58)),qM 55 59] (.cond (.t 55) (sR [qO 2 (.mov (cI 3))] .ret) .skip))))))))))))))))))) (sR [qO 2 (.mov (cI 0))] .ret)))
def qg9:List IRes:=[.t 2]
theorem qlm:chkF Tryz.prog Tryz.f157 qhs qg9 60=true:=by kernel_rfl
def qke:IC:=(sR [qO 6 (.mov (.c (.bool false)))] (sR [qM 7 1,qM 8 0,qT 9 .leq 7 8,qM 10 9,⟨some 11,.mov (.t 0),(some (10,true))⟩,⟨some 12,.mov (.t 2),(some (10,true))⟩,⟨some 13,.bin .leq (.t 11) (.t 12),(some (10,true))⟩,qO 14 (.pick (.t 10) (.t 13) (.c (.bool false))),qM 6 14] .ret))
def qjY:List IRes:=[.t 6]
theorem qok:chkF Tryz.prog Tryz.f210 qke qjY 15=true:=by kernel_rfl
def qiV:IC:=(sR [qO 4 (.mov (.c (.bool false)))] (sR [qM 5 0,qM 6 1,qO 7 (.call 155 [.t 5,.t 6]),qB 8 .eql 7 (.c (.str [])),qM 4 8] .ret))
def qiK:List IRes:=[.t 4]
theorem qmN:chkF Tryz.prog Tryz.f270 qiV qiK 9=true:=by kernel_rfl
def qjG:IC:=(sR [qO 2 (.mov (.c (.bool false)))] (sR [qM 3 0,qO 4 (.sln (.t 3)),qO 5 (.call 210 [.t 4,.c (.int .i64 1),.c (.int .i64 40)]),qM 6 5,⟨some 7,.mov (.t 0),(some (6,true))⟩,⟨some 8,.ssl (.t 7) none (some (cI 1)),(some (6,true))⟩,⟨some 9,.call 270 [.t 8,.c (.str [97,98,99,100,101,102,103,104,105,106,107,108,109,110,111,112,113,114,115,116,117,118,119,120,121,122])],(some (6,true))⟩,qO 10 (.pick (.t 6) (.t 9) (.c (.bool false))),qM 11 10,⟨some 12,.mov (.t 0),(some (11,true))⟩,⟨some 13,.call 270 [.t 12,.c (.str [97,98,99,100,101,102,103,104,105,106,107,108,109,110,111,112,113,114,115,116,117,118,119,120,121,122,48,49,50,51,52,53,54,55,56,57,45,95])],(some (11,true))⟩,qO 14 (.pick (.t 11) (.t 13) (.c (.bool false))),qM 2 14] .ret))
def qjz:List IRes:=[.t 2]
theorem qns:chkF Tryz.prog Tryz.f209 qjG qjz 15=true:=by kernel_rfl
def qfs:IC:=(sR [qT 7 .lss 6 5] (.seq (.cond (.t 7) .skip (.exit 0)) (.seq (.block 1 (sR [qM 8 6,qM 3 8] (sR [qM 9 0,qM 10 3,qO 11 (.idx (.t 9) (.t 10)),qB 12 .lss 11 (.c (.int .u8 32)),qM 13 12,⟨some 14,.mov (.t 0),(some (13,true))⟩,⟨some 15,.mov (.t 3),(some (13,true))⟩,⟨some 16,.idx (.t 14) (.t 15),(some (13,true))⟩,⟨some 17,.bin .neq (.t 16) (.c (.int .u8 10)),(some (13,true))⟩,qO 18 (.pick (.t 13) (.t 17) (.c (.bool false))),qM 19 18,⟨some 20,.mov (.t 0),(some (19,false))⟩,⟨some 21,.mov (.t 3),(some (19,false))⟩,⟨some 22,.idx (.t 20) (.t 21),(some (19,false))⟩,⟨some 23,.bin .eql (.t 22) (.c (.int .u8 127)),(some (19,false))⟩,qO 24 (.pick (.t 19) (.c (.bool true)) (.t 23))] (.cond (.t 24) (sR [qO 2 (.mov (.c (.bool false)))] .ret) .skip)))) (.reg [qB 25 .add 6 (cI 1),qM 6 25]))))
def qhv:IC:=(sR [qO 2 (.mov (.c (.bool false)))] (.seq (sR [qM 4 0,qO 5 (.sln (.t 4)),qO 6 (.mov (cI 0))] (.block 0 (.loop qfs))) (sR [qM 26 0,qO 27 (.call 208 [.t 26]),qM 28 27,⟨some 29,.mov (.t 0),(some (28,true))⟩,⟨some 30,.bin .eql (.t 29) (.c (.str [])),(some (28,true))⟩,⟨some 31,.mov (.t 30),(some (28,true))⟩,⟨some 32,.mov (.t 0),(some (31,false))⟩,⟨some 33,.mov (.t 0),(some (31,false))⟩,⟨some 34,.sln (.t 33),(some (31,false))⟩,⟨some 35,.bin .sub (.t 34) (cI 1),(some (31,false))⟩,⟨some 36,.idx (.t 32) (.t 35),(some (31,false))⟩,⟨some 37,.bin .eql (.t 36) (.c (.int .u8 10)),(some (31,false))⟩,⟨some 38,.pick (.t 31) (.c (.bool true)) (.t 37),(some (28,true))⟩,qO 39 (.pick (.t 28) (.t 38) (.c (.bool false))),qM 2 39] .ret)))
def qhc:List IRes:=[.t 2]
theorem qlp:chkF Tryz.prog Tryz.f212 qhv qhc 40=true:=by kernel_rfl
def qf6:IC:=(sR [qT 7 .lss 6 5] (.seq (.cond (.t 7) .skip (.exit 0)) (.seq (.block 1 (sR [qM 8 6,qM 3 8] (sR [qM 9 0,qM 10 3,qO 11 (.idx (.t 9) (.t 10)),qB 12 .lss 11 (.c (.int .u8 32)),qM 13 12,⟨some 14,.mov (.t 0),(some (13,false))⟩,⟨some 15,.mov (.t 3),(some (13,false))⟩,⟨some 16,.idx (.t 14) (.t 15),(some (13,false))⟩,⟨some 17,.bin .eql (.t 16) (.c (.int .u8 127)),(some (13,false))⟩,qO 18 (.pick (.t 13) (.c (.bool true)) (.t 17))] (.cond (.t 18) (sR [qO 2 (.mov (.c (.bool false)))] .ret) .skip)))) (.reg [qB 19 .add 6 (cI 1),qM 6 19]))))
def qij:IC:=(sR [qO 2 (.mov (.c (.bool false)))] (.seq (sR [qM 4 0,qO 5 (.sln (.t 4)),qO 6 (.mov (cI 0))] (.block 0 (.loop qf6))) (sR [qM 20 0,qO 21 (.call 208 [.t 20]),qM 22 21,⟨some 23,.mov (.t 0),(some (22,true))⟩,⟨some 24,.call 155 [.t 23,.c (.str [32])],(some (22,true))⟩,⟨some 25,.mov (.t 0),(some (22,true))⟩,⟨some 26,.bin .eql (.t 24) (.t 25),(some (22,true))⟩,qO 27 (.pick (.t 22) (.t 26) (.c (.bool false))),qM 28 27,⟨some 29,.mov (.t 0),(some (28,true))⟩,⟨some 30,.call 156 [.t 29,.c (.str [32,32])],(some (28,true))⟩,⟨some 31,.not (.t 30),(some (28,true))⟩,qO 32 (.pick (.t 28) (.t 31) (.c (.bool false))),qM 2 32] .ret)))
def qhU:List IRes:=[.t 2]
theorem qmh:chkF Tryz.prog Tryz.f211 qij qhU 33=true:=by kernel_rfl
def qfr:IC:=(sR [qO 1 (.box 80 (.t 0)),qO 2 (.mov (cI 0))] (.seq (.block 0 (sR [qF 4 0 1,qL 5 4,qO 6 (.call 209 [.t 5]),qO 7 (.not (.t 6)),qM 8 7,⟨some 9,.fla 1 (.t 1),(some (8,false))⟩,⟨some 10,.ld 1 false (.t 9),(some (8,false))⟩,⟨some 11,.call 209 [.t 10],(some (8,false))⟩,⟨some 12,.not (.t 11),(some (8,false))⟩,qO 13 (.pick (.t 8) (.c (.bool true)) (.t 12)),qM 3 13] (.cond (.t 3) (sR [qO 2 (.mov (cI 5))] .ret) (sR [qF 15 2 1,qL 16 15,qO 17 (.call 210 [.t 16,.c (.int .i64 1),.c (.int .i64 4)]),qO 18 (.not (.t 17)),qM 14 18] (.cond (.t 14) (sR [qO 2 (.mov (cI 4))] .ret) (sR [qF 20 3 1,qL 21 20,qO 22 (.sln (.t 21)),qB 23 .gtr 22 (cI 120),qM 19 23] (.cond (.t 19) (sR [qO 2 (.mov (cI 2))] .ret) (sR [qF 25 3 1,qL 26 25,qO 27 (.call 211 [.t 26]),qO 28 (.not (.t 27)),qM 24 28] (.cond (.t 24) (sR [qO 2 (.mov (cI 3))] .ret) (sR [qF 30 4 1,qL 31 30,qO 32 (.call 210 [.t 31,.c (.int .i64 0),.c (.int .i64 5761439)]),qO 33 (.not (.t 32)),qM 29 33] (.cond (.t 29) (sR [qO 2 (.mov (cI 1))] .ret) (sR [qF 35 5 1,qL 36 35,qB 37 .neq 36 (.c (.str [])),qM 38 37,⟨some 39,.fla 5 (.t 1),(some (38,true))⟩,⟨some 40,.ld 1 false (.t 39),(some (38,true))⟩,⟨some 41,.call 209 [.t 40],(some (38,true))⟩,⟨some 42,.not (.t 41),(some (38,true))⟩,qO 43 (.pick (.t 38) (.t 42) (.c (.bool false))),qM 34 43] (.cond (.t 34) (sR [qO 2 (.mov (cI 5))] .ret) (sR [qF 45 5 1,qL 46 45,qF 47 0 1,qL 48 47,qT 49 .eql 46 48,qM 44 49] (.cond (.t 44) (sR [qO 2 (.mov (cI 14))] .ret) (sR [qF 51 6 1,qL 52 51,qO 53 (.sln (.t 52)),qB 54 .gtr 53 (cI 20000),qM 50 54] (.cond (.t 50) (sR [qO 2 (.mov (cI 2))] .ret) (sR [qF 56 6 1,qL 57 56,qO 58 (.call 212 [.t 57]),qO 59 (.not (.t 58)),qM 55 59] (.cond (.t 55) (sR [qO 2 (.mov (cI 3))] .ret) .skip))))))))))))))))))) (sR [qO 2 (.mov (cI 0))] .ret)))
def qfc:List IRes:=[.t 2]
theorem qjN:chkF Tryz.prog Tryz.f150 qfr qfc 60=true:=by kernel_rfl
def kwE (n:Int):List UInt8:=if n=1 then [109,97,105,108] else if n=2 then [102,105,108,101] else if n=3 then [98,111,120] else if n=4 then [110,111,116,101] else []
theorem qCc (n:Int):decide (kwE n=[])=!inE n 1 4:=by
 unfold kwE inE
 by_cases h1:n=1
 ·subst h1;rfl
 by_cases h2:n=2
 ·subst h2;rfl
 by_cases h3:n=3
 ·subst h3;rfl
 by_cases h4:n=4
 ·subst h4;rfl
 rw [if_neg h1,if_neg h2,if_neg h3,if_neg h4,Bool.eq_iff_iff]
 simp only [zW,Bool.and_eq_false_iff,decide_eq_false_iff_not,decide_true,true_iff]
 omega
theorem qys (c:UInt8):((decide ((c.toNat:Int) < 32) && !decide ((c.toNat:Int)=10)) || decide ((c.toNat:Int)=127))=badB true c:=qnb (p:=fun c=>((decide ((c.toNat:Int) < 32) && !decide ((c.toNat:Int)=10)) || decide ((c.toNat:Int)=127))=badB true c) (by decide +kernel) c
theorem qwG (c:UInt8):(decide ((c.toNat:Int) < 32) || decide ((c.toNat:Int)=127))=badB false c:=qnb (p:=fun c=>(decide ((c.toNat:Int) < 32) || decide ((c.toNat:Int)=127))=badB false c) (by decide +kernel) c
section
variable {E:Envt}
theorem qsA (n:Int):PCall Tryz.prog E 223 [int n] (·=.str (kwE n)):=by
 refine qae mixed Tryz.func223 qmc ?_
 simp only [a0,l0,OS.ao,zk,zr,zi,zo,zl,zm,zu,zd,zh,zj,qh9,qhP,ZZ,WW,Zd,reduceCtorEq,zd,ze,zb,zf,za]
 unfold kwE
 refine br ?_ ?_
 ·intro h
  have h:=of_decide_eq_true h
  refine zS ?_
  rw [if_pos h]
 intro h
 rw [if_neg (of_decide_eq_false h)]
 refine zS ?_
 refine br ?_ ?_
 ·intro h
  have h:=of_decide_eq_true h
  refine zS ?_
  rw [if_pos h]
 intro h
 rw [if_neg (of_decide_eq_false h)]
 refine zS ?_
 refine br ?_ ?_
 ·intro h
  have h:=of_decide_eq_true h
  refine zS ?_
  rw [if_pos h]
 intro h
 rw [if_neg (of_decide_eq_false h)]
 refine zS ?_
 refine br ?_ ?_
 ·intro h
  have h:=of_decide_eq_true h
  refine zS ?_
  rw [if_pos h]
 intro h
 rw [if_neg (of_decide_eq_false h)]
 simp only [ZZ,WW,Zd,reduceCtorEq,zd,ze,zb,zf,za]
theorem qwd (n lo hi:Int):PCall Tryz.prog E 210 [int n,int lo,int hi] (·=.bool (inE n lo hi)):=by
 refine qae mixed Tryz.func210 qok ?_
 simp only [a0,l0,OS.ao,zk,zr,zi,zo,zl,zm,zu,zd,zh,zj,qke,qjY,ZZ,WW,Zd,reduceCtorEq,zd,ze,zb,zf,za]
 rfl
theorem qvM (s cs:List UInt8) (hs:s.length≤1000000000) (hc:cs.length≤1000) (ha:asc cs=true):PCall Tryz.prog E 270 [.str s,.str cs] (·=.bool (qvV s cs)):=by
 refine qae mixed Tryz.func270 qmN ?_
 simp only [a0,l0,OS.ao,zk,zr,zi,zo,zl,zm,zu,zd,zh,zj,qiV,qiK,ZZ,WW,Zd,reduceCtorEq,zd,ze,zb,zf,za]
 refine use1 (qgZ s cs hs (by omega) ha) rfl (.inl rfl) ?_
 refine zS ?_
 rfl
theorem qs5 (s:List UInt8) (hs:s.length≤1000000):PCall Tryz.prog E 209 [.str s] (·=.bool (keyB s)):=by
 refine qae mixed Tryz.func209 qns ?_
 simp only [a0,l0,OS.ao,zk,zr,zi,zo,zl,zm,zu,zd,zh,zj,qjG,qjz,ZZ,WW,Zd,reduceCtorEq,zd,ze,zb,zf,za]
 refine use1 (qwd _ _ _) rfl (.inl rfl) ?_
 refine zS ?_
 refine ⟨fun h=>⟨h,by omega,by simp only [inE,zq,decide_eq_true_eq] at h;omega⟩,?_⟩
 refine useG (fun _=>qvM (s.take (Int.toNat 1)) smSet (by rw [List.length_take];omega) (by decide) (by decide)) rfl (.inl rfl) ?_
 refine zS ?_
 refine useG (fun _=>qvM s kcSet (by omega) (by decide) (by decide)) rfl (.inl rfl) ?_
 refine zS ?_
 congr 1
 rw [qj8,qj8,keyB]
 have h1:(s.all fun c=>kcSet.contains c)=s.all kcB:=by congr 1;funext c;exact qv5 c
 rw [h1]
 cases s with
 |nil=>rfl
 |cons a r=>
  have h2:((a :: r).take (Int.toNat 1)).all (fun c=>smSet.contains c)=smB a:=by
   show ([a]:List UInt8).all (fun c=>smSet.contains c)=smB a
   rw [List.all_cons,qvc]
   simp
  rw [h2]
  rfl
end
theorem qCa (s:List UInt8) (h:s≠[]):decide (((s.getD ((s.length:Int) - 1).toNat 0).toNat:Int)=10)=sufE s [10]:=by
 obtain ⟨t,c,rfl⟩:∃ t c,s=t++[c]:=⟨s.dropLast,s.getLast h,(List.dropLast_concat_getLast h).symm⟩
 have e:(((t++[c]).length:Int) - 1).toNat=t.length:=by simp
 have e2:(t++[c]).getD t.length 0=c:=by simp [zD]
 have e3:(t++[c]).drop ((t++[c]).length - ([10]:List UInt8).length)=[c]:=by simp
 have e4:decide ((([10]:List UInt8).length:Int)≤(t++[c]).length)=true:=by simp;omega
 rw [e,e2]
 unfold sufE
 rw [e3,e4,ye]
 exact qnb (p:=fun c=>decide ((c.toNat:Int)=10)=decide ([c]=[(10:UInt8)])) (by decide +kernel) c
theorem quO (s:List UInt8) (hs:s.length≤1000000):PCall Tryz.prog E0 212 [.str s] (·=.bool (qgR s)):=by
 refine qae mixed Tryz.func212 qlp ?_
 simp only [a0,l0,OS.ao,zk,zr,zi,zo,zl,zm,zu,zd,zh,zj,qhv,qhc,ZZ,WW,Zd,reduceCtorEq,zd,ze,zb,zf,za]
 refine qad (fun n fr L=>∃ (k:Nat),k≤s.length∧n=s.length - k∧(((s.take k).all fun c=>!badB true c)=true)∧fr=(.p (.str s)::oo::oo::oo::oo::.p (int (s.length:Nat))::.p (int (k:Nat))::oF (oo::[]))∧L=[]) (s.length) _ [] (by (simp only [ZZ,WW,Zd,reduceCtorEq,zd,ze,zb,zf,za];try trivial)) (by (simp only [ZZ,WW,Zd,reduceCtorEq,zd,ze,zb,zf,za];try trivial)) ⟨0,by omega,by omega,by simp,rfl,rfl⟩ ?_
 rintro n fr L ⟨k,hk,rfl,hall,rfl,rfl⟩
 simp only [qfs,ZZ,WW,Zd,reduceCtorEq,zd,ze,zb,zf,za]
 refine br ?_ ?_
 ·intro h
  have hlt:k < s.length:=by have:=of_decide_eq_true h;omega
  obtain ⟨c,hc⟩:∃ x,s[k]?=some x:=⟨_,zg hlt⟩
  have hg:s.getD k 0=c:=by simp [zD,hc]
  have hnx:=qmr (p:=fun c=>!badB true c) hc
  have hbq:=qys c
  simp only [ZZ,WW,Zd,reduceCtorEq,zd,ze,zb,zf,za,hg]
  ((with_reducible and_intros)<;>try exact sc_)
  rw [hbq]
  refine br ?_ ?_
  ·intro hb
   refine zS ?_
   have:(s.all fun c=>!badB true c)=false:=by
    rw [List.all_eq_false]
    exact ⟨c,zx hc,by simp [hb]⟩
   simp [qgR,visE,this]
  ·intro hb
   refine zS ?_
   ((with_reducible and_intros)<;>try exact sc_)
   refine qac (s.length - (k+1)) _ [] (by omega) (by (simp only [ZZ,WW,Zd,reduceCtorEq,zd,ze,zb,zf,za];try trivial)) (by (simp only [ZZ,WW,Zd,reduceCtorEq,zd,ze,zb,zf,za];try trivial)) ⟨k+1,by omega,rfl,by rw [hnx,hall,hb];rfl,rfl,rfl⟩
 intro h
 have hge:s.length≤k:=by have:=of_decide_eq_false h;omega
 rw [zC hge] at hall
 refine zS ?_
 refine use1 (qnM s (by omega)) rfl (.inl rfl) ?_
 refine zS ?_
 have hne:(Lib.validD s && (Lib.validD s && !decide (s=[])))=true→s≠[]∧1≤s.length:=fun h=>by
  simp only [zq,zW,decide_eq_false_iff_not] at h
  have h2:=h.2.2
  exact ⟨h2,by rcases s with _|⟨c,r⟩;exact absurd rfl h2;simp⟩
 refine ⟨fun h=>⟨h,qan (by omega) (by omega)⟩,fun h=>⟨h,h,by have:=(hne h).2;omega,by omega⟩,fun h=>⟨h,fun h2=>by rw [h,h2];rfl⟩,?_⟩
 have hv:visE s true=Lib.validD s:=by rw [visE,hall,ye]
 rw [qgR,hv]
 congr 2
 by_cases h0:s=[]
 ·subst h0;rfl
 ·rw [qCa s h0]
theorem qwT (s:List UInt8) (hs:s.length≤1000000):PCall Tryz.prog E0 211 [.str s] (·=.bool (qj4 s)):=by
 refine qae mixed Tryz.func211 qmh ?_
 simp only [a0,l0,OS.ao,zk,zr,zi,zo,zl,zm,zu,zd,zh,zj,qij,qhU,ZZ,WW,Zd,reduceCtorEq,zd,ze,zb,zf,za]
 refine qad (fun n fr L=>∃ (k:Nat),k≤s.length∧n=s.length - k∧(((s.take k).all fun c=>!badB false c)=true)∧fr=(.p (.str s)::oo::oo::oo::oo::.p (int (s.length:Nat))::.p (int (k:Nat))::oE (oD (oB [])))∧L=[]) (s.length) _ [] (by (simp only [ZZ,WW,Zd,reduceCtorEq,zd,ze,zb,zf,za];try trivial)) (by (simp only [ZZ,WW,Zd,reduceCtorEq,zd,ze,zb,zf,za];try trivial)) ⟨0,by omega,by omega,by simp,rfl,rfl⟩ ?_
 rintro n fr L ⟨k,hk,rfl,hall,rfl,rfl⟩
 simp only [qf6,ZZ,WW,Zd,reduceCtorEq,zd,ze,zb,zf,za]
 refine br ?_ ?_
 ·intro h
  have hlt:k < s.length:=by have:=of_decide_eq_true h;omega
  obtain ⟨c,hc⟩:∃ x,s[k]?=some x:=⟨_,zg hlt⟩
  have hg:s.getD k 0=c:=by simp [zD,hc]
  have hnx:=qmr (p:=fun c=>!badB false c) hc
  have hbq:=qwG c
  simp only [ZZ,WW,Zd,reduceCtorEq,zd,ze,zb,zf,za,hg]
  ((with_reducible and_intros)<;>try exact sc_)
  rw [hbq]
  refine br ?_ ?_
  ·intro hb
   refine zS ?_
   have:(s.all fun c=>!badB false c)=false:=by
    rw [List.all_eq_false]
    exact ⟨c,zx hc,by simp [hb]⟩
   simp [qj4,visE,this]
  ·intro hb
   refine zS ?_
   ((with_reducible and_intros)<;>try exact sc_)
   refine qac (s.length - (k+1)) _ [] (by omega) (by (simp only [ZZ,WW,Zd,reduceCtorEq,zd,ze,zb,zf,za];try trivial)) (by (simp only [ZZ,WW,Zd,reduceCtorEq,zd,ze,zb,zf,za];try trivial)) ⟨k+1,by omega,rfl,by rw [hnx,hall,hb];rfl,rfl,rfl⟩
 intro h
 have hge:s.length≤k:=by have:=of_decide_eq_false h;omega
 rw [zC hge] at hall
 refine zS ?_
 refine use1 (qnM s (by omega)) rfl (.inl rfl) ?_
 refine zS ?_
 refine useG (fun _=>qgZ s [32] (by omega) (by decide) (by decide)) rfl (.inl rfl) ?_
 refine zS ?_
 refine useG (fun _=>qlv s [32,32] (by omega)) rfl (.inl rfl) ?_
 refine zS ?_
 have hv:visE s false=Lib.validD s:=by rw [visE,hall,ye]
 rw [qj4,quW,hv]
 cases Lib.validD s<;>cases Lib.hasPrefix s [32]<;>cases sufE s [32]<;>rfl
def itF (a1 a2:List UInt8) (a3:Int) (a4:List UInt8) (a5:Int) (a6 a7:List UInt8):Int:=
 if (!keyB a1 || !keyB a2)=true then 5 else if (!inE a3 1 4)=true then 4 else if decide (120 < (a4.length:Int))=true then 2 else
 if (!qj4 a4)=true then 3 else if (!inE a5 0 5761439)=true then 1 else if (!decide (a6=[]) && !keyB a6)=true then 5 else
 if decide (a6=a1)=true then 14 else if decide (20000 < (a7.length:Int))=true then 2 else if (!qgR a7)=true then 3 else 0
def ItS (x:Itm):Prop:=x.1.length≤1000000∧x.2.1.length≤1000000∧x.2.2.2.1.length≤1000000∧x.2.2.2.2.2.1.length≤1000000∧x.2.2.2.2.2.2.length≤1000000
def itFx (x:Itm):Int:=itF x.1 x.2.1 x.2.2.1 x.2.2.2.1 x.2.2.2.2.1 x.2.2.2.2.2.1 x.2.2.2.2.2.2
theorem qr5 (x:Itm) (hx:ItS x):PCall Tryz.prog E0 157 [.agg (itC x)] (·=int (itFx x)):=by
 obtain ⟨c1,c2,c4,c6,c7⟩:=hx
 obtain ⟨a1,a2,a3,a4,a5,a6,a7⟩:=x
 unfold itFx
 simp only at *
 refine qae mixed Tryz.func157 qlm ?_
 simp only [a0,l0,OS.ao,zk,zr,zi,zo,zl,zm,zu,zd,zh,zj,qhs,qg9,ZZ,WW,Zd,reduceCtorEq,zd,ze,zb,zf,za]
 simp only [itC,ZZ,WW,Zd,reduceCtorEq,zd,ze,zb,zf,za]
 refine use1 (qrX a1 (by omega)) rfl (.inl rfl) ?_
 refine zS ?_
 refine useG (fun _=>qrX a2 (by omega)) rfl (.inl rfl) ?_
 refine zS ?_
 refine ⟨fun h=>by rw [h];rfl,?_⟩
 refine br ?_ ?_
 ·intro h
  refine zS ?_
  rw [itF,if_pos h]
 intro h
 rw [itF,if_neg (by rw [h];decide)]
 clear h
 refine zS ?_
 refine use1 (qsA a3) rfl (.inl rfl) ?_
 refine zS ?_
 rw [qCc]
 refine br ?_ ?_
 ·intro h
  refine zS ?_
  rw [if_pos h]
 intro h
 rw [if_neg (by rw [h];decide)]
 clear h
 refine zS ?_
 refine br ?_ ?_
 ·intro h
  refine zS ?_
  rw [if_pos h]
 intro h
 rw [if_neg (by rw [h];decide)]
 clear h
 refine zS ?_
 refine use1 (quc a4 (by omega)) rfl (.inl rfl) ?_
 refine zS ?_
 refine br ?_ ?_
 ·intro h
  refine zS ?_
  rw [if_pos h]
 intro h
 rw [if_neg (by rw [h];decide)]
 clear h
 refine zS ?_
 refine use1 (qwV a5) rfl (.inl rfl) ?_
 refine zS ?_
 refine br ?_ ?_
 ·intro h
  refine zS ?_
  rw [if_pos h]
 intro h
 rw [if_neg (by rw [h];decide)]
 clear h
 refine zS ?_
 refine useG (fun _=>qrX a6 (by omega)) rfl (.inl rfl) ?_
 refine zS ?_
 refine br ?_ ?_
 ·intro h
  refine zS ?_
  rw [if_pos h]
 intro h
 rw [if_neg (by rw [h];decide)]
 clear h
 refine zS ?_
 refine br ?_ ?_
 ·intro h
  refine zS ?_
  rw [if_pos h]
 intro h
 rw [if_neg (by rw [h];decide)]
 clear h
 refine zS ?_
 refine br ?_ ?_
 ·intro h
  refine zS ?_
  rw [if_pos h]
 intro h
 rw [if_neg (by rw [h];decide)]
 clear h
 refine zS ?_
 refine use1 (qsZ a7 (by omega)) rfl (.inl rfl) ?_
 refine zS ?_
 refine br ?_ ?_
 ·intro h
  refine zS ?_
  rw [if_pos h]
 intro h
 rw [if_neg (by rw [h];decide)]
 simp only [ZZ,WW,Zd,reduceCtorEq,zd,ze,zb,zf,za]
theorem qrY (x:Itm) (hx:ItS x):PCall Tryz.prog E0 150 [.agg (itC x)] (·=int (itFx x)):=by
 obtain ⟨c1,c2,c4,c6,c7⟩:=hx
 obtain ⟨a1,a2,a3,a4,a5,a6,a7⟩:=x
 unfold itFx
 simp only at *
 refine qae mixed Tryz.func150 qjN ?_
 simp only [a0,l0,OS.ao,zk,zr,zi,zo,zl,zm,zu,zd,zh,zj,qfr,qfc,ZZ,WW,Zd,reduceCtorEq,zd,ze,zb,zf,za]
 simp only [itC,ZZ,WW,Zd,reduceCtorEq,zd,ze,zb,zf,za]
 refine use1 (qs5 a1 (by omega)) rfl (.inl rfl) ?_
 refine zS ?_
 refine useG (fun _=>qs5 a2 (by omega)) rfl (.inl rfl) ?_
 refine zS ?_
 refine ⟨fun h=>by rw [h];rfl,?_⟩
 refine br ?_ ?_
 ·intro h
  refine zS ?_
  rw [itF,if_pos h]
 intro h
 rw [itF,if_neg (by rw [h];decide)]
 clear h
 refine zS ?_
 refine use1 (qwd a3 1 4) rfl (.inl rfl) ?_
 refine zS ?_
 refine br ?_ ?_
 ·intro h
  refine zS ?_
  rw [if_pos h]
 intro h
 rw [if_neg (by rw [h];decide)]
 clear h
 refine zS ?_
 refine br ?_ ?_
 ·intro h
  refine zS ?_
  rw [if_pos h]
 intro h
 rw [if_neg (by rw [h];decide)]
 clear h
 refine zS ?_
 refine use1 (qwT a4 (by omega)) rfl (.inl rfl) ?_
 refine zS ?_
 refine br ?_ ?_
 ·intro h
  refine zS ?_
  rw [if_pos h]
 intro h
 rw [if_neg (by rw [h];decide)]
 clear h
 refine zS ?_
 refine use1 (qwd a5 0 5761439) rfl (.inl rfl) ?_
 refine zS ?_
 refine br ?_ ?_
 ·intro h
  refine zS ?_
  rw [if_pos h]
 intro h
 rw [if_neg (by rw [h];decide)]
 clear h
 refine zS ?_
 refine useG (fun _=>qs5 a6 (by omega)) rfl (.inl rfl) ?_
 refine zS ?_
 refine br ?_ ?_
 ·intro h
  refine zS ?_
  rw [if_pos h]
 intro h
 rw [if_neg (by rw [h];decide)]
 clear h
 refine zS ?_
 refine br ?_ ?_
 ·intro h
  refine zS ?_
  rw [if_pos h]
 intro h
 rw [if_neg (by rw [h];decide)]
 clear h
 refine zS ?_
 refine br ?_ ?_
 ·intro h
  refine zS ?_
  rw [if_pos h]
 intro h
 rw [if_neg (by rw [h];decide)]
 clear h
 refine zS ?_
 refine use1 (quO a7 (by omega)) rfl (.inl rfl) ?_
 refine zS ?_
 refine br ?_ ?_
 ·intro h
  refine zS ?_
  rw [if_pos h]
 intro h
 rw [if_neg (by rw [h];decide)]
 simp only [ZZ,WW,Zd,reduceCtorEq,zd,ze,zb,zf,za]
def okTx:List UInt8→Bool
 |[]=>true
 |[c]=>decide (c.toNat < 128) && !badB true c
 |c :: d :: r=>if c=195∧d=169 then okTx r else (decide (c.toNat < 128) && !badB true c) && okTx (d :: r)
theorem qy3 (r:List UInt8):okTx (195 :: 169 :: r)=okTx r:=by rw [okTx];simp
theorem qq9 (c:UInt8) (r:List UInt8) (h:c.toNat < 128):okTx (c :: r)=(!badB true c && okTx r):=by
 have h1:decide (c.toNat < 128)=true:=by simpa using h
 cases r with
 |nil=>rw [okTx,okTx,h1,ye,Bool.and_true]
 |cons d r=>
  rw [okTx,if_neg (by rintro ⟨rfl,_⟩;exact absurd h (by decide)),h1,ye]
theorem qmC {s:List UInt8} (h:okTx s=true):s=[]∨(∃ r,s=195 :: 169 :: r∧okTx r=true)∨∃ c r,s=c :: r∧c.toNat < 128∧badB true c=false∧okTx r=true:=by
 match s,h with
 |[],_=>exact .inl rfl
 |[c],h=>
  rw [okTx,zq,decide_eq_true_eq] at h
  exact .inr (.inr ⟨c,[],rfl,h.1,by simpa using h.2,rfl⟩)
 |c :: d :: r,h=>
  rw [okTx] at h
  split at h
  ·rename_i e
   obtain ⟨rfl,rfl⟩:=e
   exact .inr (.inl ⟨r,rfl,h⟩)
  ·rw [zq,zq,decide_eq_true_eq] at h
   exact .inr (.inr ⟨c,d :: r,rfl,h.1.1,by simpa using h.1.2,h.2⟩)
theorem qxK:∀ (n:Nat) (a b:List UInt8),a.length≤n→okTx a=true→okTx (a++b)=okTx b:=by
 intro n
 induction n with
 |zero=>
  intro a b hn _
  have:a=[]:=zA (by omega)
  subst this
  rfl
 |succ n ih=>
  intro a b hn h
  rcases qmC h with rfl|⟨r,rfl,hr⟩|⟨c,r,rfl,hc,hb,hr⟩
  ·rfl
  ·show okTx (195 :: 169 :: (r++b))=okTx b
   rw [qy3]
   exact ih r b (by simp only [zi] at hn;omega) hr
  ·show okTx (c :: (r++b))=okTx b
   rw [qq9 c _ hc,hb,ih r b (by simp only [zi] at hn;omega) hr]
   rfl
theorem qpS {a b:List UInt8} (ha:okTx a=true) (hb:okTx b=true):okTx (a++b)=true:=by rw [qxK _ a b (Nat.le_refl _) ha,hb]
theorem qnB {s:List UInt8} (h:okTx s=true):∀ n,okTx (Lib.repeatL s n)=true
 |0=>rfl
 |n+1=>qpS h (qnB h n)
theorem qDL (r:List UInt8):Lib.decodeL (195 :: 169 :: r)=(233,2):=by
 rw [Lib.decodeL_N]
 simp only [zi,List.getD_cons_zero,List.getD_cons_succ]
 unfold Lib.decodeN
 rw [if_neg (by decide),if_pos ⟨by decide,by omega,by decide⟩,if_pos (by decide)]
 rfl
theorem qnA:∀ (n:Nat) (s:List UInt8),s.length≤n→okTx s=true→visE s true=true:=by
 intro n
 induction n with
 |zero=>
  intro s hn _
  have:s=[]:=zA (by omega)
  subst this
  rfl
 |succ n ih=>
  intro s hn h
  rcases qmC h with rfl|⟨r,rfl,hr⟩|⟨c,r,rfl,hc,hb,hr⟩
  ·rfl
  ·have:=ih r (by simp only [zi] at hn;omega) hr
   unfold visE at *
   rw [zq] at *
   refine ⟨?_,?_⟩
   ·rw [List.all_cons,List.all_cons,this.1]
    decide +kernel
   ·rw [Lib.validD_step _ (by simp),qDL]
    simpa using this.2
  ·have:=ih r (by simp only [zi] at hn;omega) hr
   unfold visE at *
   rw [zq] at *
   refine ⟨?_,?_⟩
   ·rw [List.all_cons,this.1,hb]
    rfl
   ·rw [Lib.validD_cons c r hc]
    exact this.2
def pid (i:Nat):List UInt8:=[105,UInt8.ofNat (97+i)]
theorem qAf:∀ i:Fin 26,105 :: (Utf8.encode (IntKind.i32.wrap (97+((i.val:Nat):Int)))).data.toList=pid i.val:=by decide +kernel
theorem qvy:∀ i:Fin 26,keyB (pid i.val)=true:=by decide +kernel
theorem qir {i j:Nat} (hi:i < 26) (hj:j < 26) (h:pid i=pid j):i=j:=by
 have:∀ (i j:Fin 26),pid i.val=pid j.val→i=j:=by decide +kernel
 exact congrArg Fin.val (this ⟨i,hi⟩ ⟨j,hj⟩ h)
structure Pap (il:List Itm) (i:Nat) (x:Itm):Prop where
 b1:x.1=pid i
 b2:x.2.1=[97,110,110]∨x.2.1=[98,111]
 b3:1≤x.2.2.1∧x.2.2.1≤4
 b4:x.2.2.2.1=[]∨x.2.2.2.1=[120]
 b5:0≤x.2.2.2.2.1∧x.2.2.2.2.1≤1440
 b6:x.2.2.2.2.2.1=[]∨∃ j y,j < i∧il[j]?=some y∧y.2.2.2.2.2.1=[]∧(y.2.2.1=1∨y.2.2.1=3)∧x.2.2.2.2.2.1=pid j
 b7:x.2.2.2.2.2.2.length≤600∧okTx x.2.2.2.2.2.2=true∧(x.2.2.2.2.2.2=[]∨sufE x.2.2.2.2.2.2 [10]=true)
def qaP (il:List Itm):Prop:=il.length≤20∧∀ i x,il[i]?=some x→Pap il i x
theorem Pap.right {il:List Itm} {i:Nat} {x:Itm} (h:Pap il i x) (hi:i < 20):itFx x=0∧ItS x:=by
 obtain ⟨a1,a2,a3,a4,a5,a6,a7⟩:=x
 obtain ⟨b1,b2,b3,b4,b5,b6,b7⟩:=h
 simp only at b1 b2 b3 b4 b5 b6 b7
 have k1:keyB a1=true:=by rw [b1];exact qvy ⟨i,by omega⟩
 have k2:keyB a2=true:=by rcases b2 with rfl|rfl<;>decide +kernel
 have k3:inE a3 1 4=true:=by simp [inE];omega
 have k4:qj4 a4=true∧a4.length≤1:=by rcases b4 with rfl|rfl<;>exact ⟨by decide +kernel,by decide⟩
 have k5:inE a5 0 5761439=true:=by simp [inE];omega
 have k6:(!decide (a6=[]) && !keyB a6)=false∧¬ a6=a1∧a6.length≤2:=by
  rcases b6 with rfl|⟨j,y,hj,_,_,_,rfl⟩
  ·exact ⟨rfl,by rw [b1];simp [pid],by simp⟩
  ·refine ⟨by rw [qvy ⟨j,by omega⟩];simp,?_,by simp [pid]⟩
   rw [b1]
   intro e
   have:=qir (by omega) (by omega) e
   omega
 have k7:qgR a7=true:=by
  rw [qgR,qnA _ _ (Nat.le_refl _) b7.2.1]
  rcases b7.2.2 with h|h
  ·rw [h];rfl
  ·rw [h];simp
 refine ⟨?_,?_⟩
 ·simp only [itFx]
  rw [itF,k1,k2,k3,k4.1,k5,k6.1,k7,if_neg (by decide),if_neg (by decide),if_neg (by simp;omega),if_neg (by decide),if_neg (by decide),if_neg (by decide),if_neg (by simpa using k6.2.1),if_neg (by simp;omega),if_neg (by decide)]
 ·refine ⟨?_,?_,?_,?_,?_⟩
  ·simp only;rw [b1];simp [pid]
  ·simp only;rcases b2 with rfl|rfl<;>simp
  ·simp only;omega
  ·simp only;omega
  ·simp only;omega
theorem qlC (a:List UInt8):sufE (a++[10]) [10]=true:=by
 unfold sufE
 have e3:(a++[10]).drop ((a++[10]).length - ([10]:List UInt8).length)=[10]:=by simp
 rw [e3]
 simp
 omega
theorem qtl {b:List UInt8} (h:sufE b [10]=true):∃ t,b=t++[10]:=by
 unfold sufE at h
 rw [zq,decide_eq_true_eq,decide_eq_true_eq] at h
 exact ⟨b.take (b.length - ([10]:List UInt8).length),by conv=>lhs;rw [← List.take_append_drop (b.length - ([10]:List UInt8).length) b,h.2]⟩
theorem qvk (s:List UInt8):∀ n,Lib.repeatL (s++[10]) n=[]∨sufE (Lib.repeatL (s++[10]) n) [10]=true
 |0=>.inl rfl
 |n+1=>by
  rcases qvk s n with h|h
  ·refine .inr ?_
   show sufE ((s++[10])++Lib.repeatL (s++[10]) n) [10]=true
   rw [h,List.append_nil]
   exact qlC s
  ·obtain ⟨t,ht⟩:=qtl h
   refine .inr ?_
   show sufE ((s++[10])++Lib.repeatL (s++[10]) n) [10]=true
   rw [ht,← ym]
   exact qlC _
theorem Pap.more {il:List Itm} {i:Nat} {x z:Itm} (h:Pap il i x):Pap (il++[z]) i x:=by
 obtain ⟨b1,b2,b3,b4,b5,b6,b7⟩:=h
 refine ⟨b1,b2,b3,b4,b5,?_,b7⟩
 rcases b6 with h|⟨j,y,hj,hy,h1,h2,h3⟩
 ·exact .inl h
 ·exact .inr ⟨j,y,hj,by rw [yv (zt.1 hy).1];exact hy,h1,h2,h3⟩
theorem qy2 {il:List Itm} {z:Itm} (h:∀ j x,il[j]?=some x→Pap il j x) (hz:Pap il il.length z):∀ j x,(il++[z])[j]?=some x→Pap (il++[z]) j x:=by
 intro j x hx
 by_cases hj:j < il.length
 ·rw [yv hj] at hx
  exact (h j x hx).more
 ·rw [List.getElem?_append_right (by omega)] at hx
  have h0:j - il.length=0:=by
   cases hq:j - il.length with
   |zero=>rfl
   |succ q=>rw [hq] at hx;simp at hx
  rw [h0] at hx
  have hj2:j=il.length:=by omega
  subst hj2
  simp only [List.getElem?_cons_zero,Option.some.injEq] at hx
  subst hx
  exact hz.more
section
variable {E:Envt}
set_option maxHeartbeats 8000000 in
set_option maxRecDepth 100000 in
theorem quL (l:List Int) (k:Nat) (n:Nat) (hk:k≤900000) (hl:l.length≤9223372036854775807) (hn:n≤20) :
  qhI Tryz.prog E 8 T (stm l k) [int (n:Nat)] (fun x cs'=>∃ il k',x=.sl 7 (itE il)∧il.length≤n∧qaP il∧cs'=stm l k'∧k'≤k+1+20 * n):=by
 unfold qhI
 refine qge mixed Tryz.func8 qhH ?_
 simp only [a0,l0,OS.ao,zk,zr,zi,zo,zl,zm,zu,zd,zh,zj,qdJ,qdv,ZZ,WW,Zd,reduceCtorEq,zd,ze,zb,zf,za]
 ((with_reducible and_intros)<;>try exact sc_)
 refine useS (qcX l k _ (by omega) hl (by omega)) rfl rfl rfl zE_ ?_
 rintro x cs' ⟨y,rfl,rfl⟩
 have b1:=qe6 y ((n:Nat)+1)
 have b2:=qe7 y ((n:Nat)+1) (by omega)
 obtain ⟨m,hm⟩:∃ m:Nat,qef y ((n:Nat)+1)=(m:Nat):=⟨(qef y ((n:Nat)+1)).toNat,by omega⟩
 rw [hm] at b1 b2 ⊢
 clear hm
 refine zS ?_
 have hR0:([]:List (List PV))=itE []:=rfl
 rw [hR0]
 refine qad (fun n fr L=>∃ (i:Nat) (k':Nat) (il:List Itm),i≤m∧n=m - i∧(k'≤k+1+20 * i)∧(il.length=i)∧(∀ j x,il[j]?=some x→Pap il j x)∧fr=(.adr (.b 0) 0::oo::oo::oo::oo::.row (.l 5)::oC (oB (.p (int (m:Nat))::.p (int (i:Nat))::oG (oE []))))∧L=[(.b 0,.box ((stm l k').map .p) T),(.l 5,.row (itE il) qip 7 true)]) (m) _ _ (by (simp only [ZZ,WW,Zd,reduceCtorEq,zd,ze,zb,zf,za];try trivial)) (by (simp only [ZZ,WW,Zd,reduceCtorEq,zd,ze,zb,zf,za];try trivial)) ⟨0,k+1,[],by omega,by omega,by omega,rfl,(fun j x h=>by simp at h),rfl,rfl⟩ ?_
 rintro n fr L ⟨i,k',il,hi,rfl,hk',hil,hib,rfl,rfl⟩
 simp only [qcT,ZZ,WW,Zd,reduceCtorEq,zd,ze,zb,zf,za]
 refine br ?_ ?_
 ·intro h
  have hlt:i < m:=by have:=of_decide_eq_true h;omega
  have hE4:=qAH (IntKind.i32.wrap (97+((i:Nat):Int)))
  have hEp:=qAf ⟨i,by omega⟩
  simp only at hEp
  obtain ⟨id,hid,hidl⟩:∃ id,id=105 :: (Utf8.encode (IntKind.i32.wrap (97+((i:Nat):Int)))).data.toList∧id=pid i:=⟨_,rfl,hEp⟩
  refine zS ?_
  ((with_reducible and_intros)<;>try exact sc_)
  rw [← hid]
  clear hid hE4 hEp
  refine useS (qhY l k' [[97,110,110],[98,111]] (by omega) hl (by simp) (by simp)) rfl rfl rfl zE_ ?_
  rintro x cs' ⟨cu,rfl,hcu,rfl⟩
  have hcu2:cu=[97,110,110]∨cu=[98,111]:=by simpa using hcu
  refine zS ?_
  refine useS (qb8 l (k'+1) [1,3,2,4] (by omega) hl (by simp) (by simp)) rfl rfl rfl zE_ ?_
  rintro x cs' ⟨kd,rfl,hkd,rfl⟩
  have hkd2:1≤kd∧kd≤4:=by simp at hkd;omega
  refine zS ?_
  refine useS (qb8 l (k'+1+1) [0,5,5,40,1440] (by omega) hl (by simp) (by simp)) rfl rfl rfl zE_ ?_
  rintro x cs' ⟨at_,rfl,hat,rfl⟩
  have hat2:0≤at_∧at_≤1440:=by simp at hat;omega
  refine zS ?_
  refine useS (qhY l (k'+1+1+1) [[],[120]] (by omega) hl (by simp) (by simp)) rfl rfl rfl zE_ ?_
  rintro x cs' ⟨nm,rfl,hnm,rfl⟩
  have hnm2:nm=[]∨nm=[120]:=by simpa using hnm
  clear hcu hkd hat hnm
  refine zS ?_
  refine useS (qcX l (k'+1+1+1+1) 6 (by omega) hl (by omega)) rfl rfl rfl zE_ ?_
  rintro x cs' ⟨y,rfl,rfl⟩
  obtain ⟨c,hc,hcy⟩:=qkt y 6 (by omega)
  have hcy:qef y 6=(c:Nat):=hcy
  rw [hcy]
  clear hcy
  refine zS ?_
  refine qad (fun n fr L=>∃ (j:Nat) (k2:Nat) (t:List UInt8),j≤c∧n=c - j∧(k2≤k'+5+2 * j)∧(t.length≤100 * j)∧(okTx t=true)∧(t=[]∨sufE t [10]=true)∧fr=(.adr (.b 0) 0::oo::oo::oo::oo::.row (.l 5)::.p (int (i:Nat))::.adr (.l 7) 0::oo::oo::oo::oo::.p (int (m:Nat))::.p (int (i:Nat))::oE (oC (oo::(.p (int (c:Nat))::.p (int (j:Nat))::oF (oE (oD (oo::[])))))))∧L=[(.b 0,.box ((stm l k2).map .p) T),(.l 5,.row (itE il) qip 7 true),(.l 7,.box [.p (.str id),.p (.str cu),.p (int kd),.p (.str nm),.p (int at_),.p (.str []),.p (.str t)] qip)]) (c) _ _ (by (simp only [ZZ,WW,Zd,reduceCtorEq,zd,ze,zb,zf,za];try trivial)) (by (simp only [ZZ,WW,Zd,reduceCtorEq,zd,ze,zb,zf,za];try trivial)) ⟨0,k'+1+1+1+1+1,[],by omega,by omega,by omega,by simp,rfl,.inl rfl,rfl,rfl⟩ ?_
  rintro n fr L ⟨j,k2,t,hj,rfl,hk2,ht,hto,hts,rfl,rfl⟩
  simp only [qcS,ZZ,WW,Zd,reduceCtorEq,zd,ze,zb,zf,za]
  refine br ?_ ?_
  ·intro h
   have hjt:j < c:=by have:=of_decide_eq_true h;omega
   obtain ⟨p0,hp,hpick⟩:=qyE (E:=E) l k2 [79,80,81] (by omega) hl (by simp) (by simp)
   obtain ⟨p,rfl,hp2⟩:∃ p:Nat,p0=(p:Nat)∧p≤81:=by
    simp at hp
    exact ⟨p0.toNat,by omega,by omega⟩
   refine zS ?_
   refine drg2 (x1:=.str (Lib.repeatL [119] p)) (x2:=.str (Lib.repeatL [97,98,32] 30)) ?_
   refine zS ?_
   refine useD hpick ⟨_,_,rfl,rfl⟩ rfl rfl rfl zE_ (fun _=>⟨0,rfl⟩) ?_
   rintro x cs' ⟨rfl,rfl⟩
   refine zS ?_
   refine ⟨usep (qex [119] p (by omega) (by simp)) rfl (.inl rfl),usep (qex [97,98,32] 30 (by omega) (by simp)) rfl (.inl rfl),?_⟩
   have h1:(Lib.repeatL [119] p).length≤90:=by rw [Lib.repeatL_length];simp;omega
   have h2:(Lib.repeatL [97,98,32] 30).length≤90:=Nat.le_of_eq (Lib.repeatL_length _ _)
   have o1:okTx (Lib.repeatL [119] p)=true:=qnB (by decide) p
   have o2:okTx (Lib.repeatL [97,98,32] 30)=true:=qnB (by decide) 30
   generalize Lib.repeatL [119] p=w1 at *
   generalize Lib.repeatL [97,98,32] 30=w2 at *
   refine useD (qhY l (k2+1) [[111,110,101],[115,101,99,114,101,116,32,119,111,114,100,115],[],[195,169,116,195,169,32,120],w1,w2] (by omega) hl (by simp) (by simp)) ⟨_,_,[],rfl,by simp,rfl⟩ rfl rfl rfl zE_ (fun _=>⟨0,rfl⟩) ?_
   rintro x cs' ⟨u,rfl,hu,rfl⟩
   have hu2:u.length≤90:=by
    simp only [zI,zX,or_false] at hu
    rcases hu with rfl|rfl|rfl|rfl|rfl|rfl
    all_goals first|exact h1|exact h2|decide
   have hu3:okTx u=true:=by
    simp only [zI,zX,or_false] at hu
    rcases hu with rfl|rfl|rfl|rfl|rfl|rfl
    all_goals first|exact o1|exact o2|decide
   clear hu
   simp only [ZZ,WW,Zd,reduceCtorEq,zd,ze,zb,zf,za,zK,zi,zo]
   refine ⟨by omega,by omega,qan (by omega) (by omega),?_⟩
   refine qac (c - (j+1)) (.adr (.b 0) 0::oo::oo::oo::oo::.row (.l 5)::.p (int (i:Nat))::.adr (.l 7) 0::oo::oo::oo::oo::.p (int (m:Nat))::.p (int (i:Nat))::oE (oC (oo::(.p (int (c:Nat))::.p (int ((j+1):Nat))::oF (oE (oD (oo::[]))))))) [(.b 0,.box ((stm l (k2+1+1)).map .p) T),(.l 5,.row (itE il) qip 7 true),(.l 7,.box [.p (.str id),.p (.str cu),.p (int kd),.p (.str nm),.p (int at_),.p (.str []),.p (.str (t++(u++[10])))] qip)] (by omega) (by (simp only [ZZ,WW,Zd,reduceCtorEq,zd,ze,zb,zf,za];try trivial)) (by (simp only [ZZ,WW,Zd,reduceCtorEq,zd,ze,zb,zf,za];try trivial)) ⟨j+1,k2+1+1,t++(u++[10]),by omega,rfl,by omega,by simp only [zK,zi,zo];omega,qpS hto (qpS hu3 (by decide)),.inr (by rw [← ym];exact qlC _),rfl,rfl⟩
  intro h
  clear h
  refine zS ?_
  refine useS (qgp l k2 8 (by omega) hl (by omega)) rfl rfl rfl zE_ ?_
  rintro x cs' ⟨f,rfl,rfl⟩
  refine zS ?_
  refine qoo (fun fr L=>∃ (t:List UInt8) (k3:Nat),(t.length≤600∧okTx t=true∧(t=[]∨sufE t [10]=true))∧k3≤k'+17∧fr=(.adr (.b 0) 0::oo::oo::oo::oo::.row (.l 5)::.p (int (i:Nat))::.adr (.l 7) 0::oo::oo::oo::oo::.p (int (m:Nat))::.p (int (i:Nat))::oG (oE []))∧L=[(.b 0,.box ((stm l (k3)).map .p) T),(.l 5,.row (itE il) qip 7 true),(.l 7,.box [.p (.str id),.p (.str cu),.p (int kd),.p (.str nm),.p (int at_),.p (.str ([])),.p (.str (t))] qip)]) ?_ ?_ ?_
  ·intro _
   refine zS ?_
   refine useS (qb8 l (k2+1) [49,50,51,101] (by omega) hl (by simp) (by simp)) rfl rfl rfl zE_ ?_
   rintro x cs' ⟨q0,rfl,hq0,rfl⟩
   obtain ⟨q,rfl,hq⟩:∃ q:Nat,q0=(q:Nat)∧q≤101:=by
    simp at hq0
    exact ⟨q0.toNat,by omega,by omega⟩
   refine zS ?_
   refine use1 (qex [108,105,110,101,10] q (by omega) (by simp)) rfl (.inl rfl) ?_
   have h1:(Lib.repeatL [108,105,110,101,10] q).length≤600:=by rw [Lib.repeatL_length];simp;omega
   have h2:okTx (Lib.repeatL [108,105,110,101,10] q)=true:=qnB (by decide) q
   have h3:=qvk [108,105,110,101] q
   simp only [zl,zm] at h3
   generalize Lib.repeatL [108,105,110,101,10] q=w1 at *
   refine zS ?_
   ((with_reducible and_intros)<;>try exact sc_)
   exact qkX (.adr (.b 0) 0::oo::oo::oo::oo::.row (.l 5)::.p (int (i:Nat))::.adr (.l 7) 0::oo::oo::oo::oo::.p (int (m:Nat))::.p (int (i:Nat))::oG (oE [])) [(.b 0,.box ((stm l (k2+1+1)).map .p) T),(.l 5,.row (itE il) qip 7 true),(.l 7,.box [.p (.str id),.p (.str cu),.p (int kd),.p (.str nm),.p (int at_),.p (.str ([])),.p (.str (w1))] qip)] (by (simp only [ZZ,WW,Zd,reduceCtorEq,zd,ze,zb,zf,za];try trivial)) zE_ ⟨_,_,⟨h1,h2,h3⟩,by omega,rfl,rfl⟩
  ·intro _
   refine zS ?_
   exact qkX (.adr (.b 0) 0::oo::oo::oo::oo::.row (.l 5)::.p (int (i:Nat))::.adr (.l 7) 0::oo::oo::oo::oo::.p (int (m:Nat))::.p (int (i:Nat))::oG (oE [])) [(.b 0,.box ((stm l (k2+1)).map .p) T),(.l 5,.row (itE il) qip 7 true),(.l 7,.box [.p (.str id),.p (.str cu),.p (int kd),.p (.str nm),.p (int at_),.p (.str ([])),.p (.str (t))] qip)] (by (simp only [ZZ,WW,Zd,reduceCtorEq,zd,ze,zb,zf,za];try trivial)) zE_ ⟨_,_,⟨by omega,hto,hts⟩,by omega,rfl,rfl⟩
  clear ht hk2 hto hts
  rintro fr L ⟨t,k3,ht,hk3,rfl,rfl⟩
  refine zS ?_
  refine qsb (fun hc=>?_) (fun hc=>?_)
  ·have hi0:0 < i:=by have:=of_decide_eq_true hc;omega
   refine useS (qgp l k3 3 (by omega) hl (by omega)) rfl rfl rfl zE_ ?_
   rintro x cs' ⟨f2,rfl,rfl⟩
   simp only [ZZ,WW,Zd,reduceCtorEq,zd,ze,zb,zf,za,hc]
   refine qoo (fun fr L=>∃ (p:List UInt8) (k4:Nat),(p=[]∨∃ j y,j < i∧il[j]?=some y∧y.2.2.2.2.2.1=[]∧(y.2.2.1=1∨y.2.2.1=3)∧p=pid j)∧k4≤k'+19∧fr=(.adr (.b 0) 0::oo::oo::oo::oo::.row (.l 5)::.p (int (i:Nat))::.adr (.l 7) 0::oo::oo::oo::oo::.p (int (m:Nat))::.p (int (i:Nat))::oG (oE []))∧L=[(.b 0,.box ((stm l (k4)).map .p) T),(.l 5,.row (itE il) qip 7 true),(.l 7,.box [.p (.str id),.p (.str cu),.p (int kd),.p (.str nm),.p (int at_),.p (.str (p)),.p (.str (t))] qip)]) ?_ ?_ ?_
   ·intro _
    simp only [ZZ,WW,Zd,reduceCtorEq,zd,ze,zb,zf,za,qai]
    refine useS (qcX l (k3+1) il.length (by omega) hl (by omega)) rfl rfl rfl zE_ ?_
    rintro x cs' ⟨y,rfl,rfl⟩
    obtain ⟨q,hq,hy⟩:=qkt y il.length (by omega)
    rw [hy]
    obtain ⟨b,hb⟩:∃ b,il[q]?=some b:=⟨_,zg hq⟩
    have hg:=qbG hb
    have hbp:=(hib q b hb).b1
    obtain ⟨a1,a2,a3,a4,a5,a6,a7⟩:=b
    simp only [itC] at hg
    simp only at hbp
    simp only [ZZ,WW,Zd,reduceCtorEq,zd,ze,zb,zf,za,qai,hg]
    ((with_reducible and_intros)<;>try exact sc_)
    refine br ?_ ?_
    ·intro hcd
     have hpp:a6=[]∧(a3=1∨a3=3):=by simpa using hcd
     refine zS ?_
     exact qkX (.adr (.b 0) 0::oo::oo::oo::oo::.row (.l 5)::.p (int (i:Nat))::.adr (.l 7) 0::oo::oo::oo::oo::.p (int (m:Nat))::.p (int (i:Nat))::oG (oE [])) [(.b 0,.box ((stm l (k3+1+1)).map .p) T),(.l 5,.row (itE il) qip 7 true),(.l 7,.box [.p (.str id),.p (.str cu),.p (int kd),.p (.str nm),.p (int at_),.p (.str (a1)),.p (.str (t))] qip)] (by (simp only [ZZ,WW,Zd,reduceCtorEq,zd,ze,zb,zf,za];try trivial)) zE_ ⟨_,_,.inr ⟨q,_,by omega,hb,hpp.1,hpp.2,hbp⟩,by omega,rfl,rfl⟩
    ·intro _
     refine zS ?_
     exact qkX (.adr (.b 0) 0::oo::oo::oo::oo::.row (.l 5)::.p (int (i:Nat))::.adr (.l 7) 0::oo::oo::oo::oo::.p (int (m:Nat))::.p (int (i:Nat))::oG (oE [])) [(.b 0,.box ((stm l (k3+1+1)).map .p) T),(.l 5,.row (itE il) qip 7 true),(.l 7,.box [.p (.str id),.p (.str cu),.p (int kd),.p (.str nm),.p (int at_),.p (.str ([])),.p (.str (t))] qip)] (by (simp only [ZZ,WW,Zd,reduceCtorEq,zd,ze,zb,zf,za];try trivial)) zE_ ⟨_,_,.inl rfl,by omega,rfl,rfl⟩
   ·intro _
    refine zS ?_
    exact qkX (.adr (.b 0) 0::oo::oo::oo::oo::.row (.l 5)::.p (int (i:Nat))::.adr (.l 7) 0::oo::oo::oo::oo::.p (int (m:Nat))::.p (int (i:Nat))::oG (oE [])) [(.b 0,.box ((stm l (k3+1)).map .p) T),(.l 5,.row (itE il) qip 7 true),(.l 7,.box [.p (.str id),.p (.str cu),.p (int kd),.p (.str nm),.p (int at_),.p (.str ([])),.p (.str (t))] qip)] (by (simp only [ZZ,WW,Zd,reduceCtorEq,zd,ze,zb,zf,za];try trivial)) zE_ ⟨_,_,.inl rfl,by omega,rfl,rfl⟩
   rintro fr L ⟨p,k4,hp,hk4,rfl,rfl⟩
   have hx1:(il++[(id,cu,kd,nm,at_,p,t)]).length=i+1:=by rw [zK,hil];rfl
   have hx2:∀ j x,(il++[(id,cu,kd,nm,at_,p,t)])[j]?=some x→Pap (il++[(id,cu,kd,nm,at_,p,t)]) j x:=qy2 hib (by rw [hil];exact ⟨hidl,hcu2,hkd2,hnm2,hat2,hp,ht⟩)
   simp only [ZZ,WW,Zd,reduceCtorEq,zd,ze,zb,zf,za,qai,qv8]
   ((with_reducible and_intros)<;>try exact sc_)
   refine qac (m - (i+1)) _ _ (by omega) (by (simp only [ZZ,WW,Zd,reduceCtorEq,zd,ze,zb,zf,za];try trivial)) (by (simp only [ZZ,WW,Zd,reduceCtorEq,zd,ze,zb,zf,za];try trivial)) ⟨i+1,k4,il++[(id,cu,kd,nm,at_,p,t)],by omega,rfl,by omega,hx1,hx2,rfl,rfl⟩
  ·simp only [ZZ,WW,Zd,reduceCtorEq,zd,ze,zb,zf,za,hc]
   refine qal zE_ ?_
   have hx1:(il++[(id,cu,kd,nm,at_,[],t)]).length=i+1:=by rw [zK,hil];rfl
   have hx2:∀ j x,(il++[(id,cu,kd,nm,at_,[],t)])[j]?=some x→Pap (il++[(id,cu,kd,nm,at_,[],t)]) j x:=qy2 hib (by rw [hil];exact ⟨hidl,hcu2,hkd2,hnm2,hat2,.inl rfl,ht⟩)
   simp only [ZZ,WW,Zd,reduceCtorEq,zd,ze,zb,zf,za,qai,qv8]
   ((with_reducible and_intros)<;>try exact sc_)
   refine qac (m - (i+1)) _ _ (by omega) (by (simp only [ZZ,WW,Zd,reduceCtorEq,zd,ze,zb,zf,za];try trivial)) (by (simp only [ZZ,WW,Zd,reduceCtorEq,zd,ze,zb,zf,za];try trivial)) ⟨i+1,k3,il++[(id,cu,kd,nm,at_,[],t)],by omega,rfl,by omega,hx1,hx2,rfl,rfl⟩
 intro h
 clear h
 refine zS ?_
 exact qec (stm l k') rfl ⟨il,k',rfl,by omega,⟨by omega,hib⟩,rfl,by omega⟩
end
theorem qwI {s:List UInt8} {j:Nat} (h:inP s (j+1)):∀ f,qaM s f≠j+1
 |0=>by simp [qaM]
 |f+1=>by
  unfold qaM
  split
  ·exact qwI h f
  ·rename_i hn
   intro e
   rw [e] at hn
   exact hn ((qkH s (j+1)).2 h)
theorem qzc {s:List UInt8} {j:Nat} (h:inP s (j+1)):∀ d n,s.length≤n+d→fwdN s d n≠j+1
 |0,n,hd=>by
  have:=h.1
  unfold fwdN
  omega
 |d+1,n,hd=>by
  unfold fwdN
  split
  ·exact qzc h d (n+1) (by omega)
  ·rename_i hn
   intro e
   rw [e] at hn
   exact hn ((qkH s (j+1)).2 h)
theorem qye {s:List UInt8} (l:List (Int×Int)) {j:Nat} (h:inP s (j+1)):cov (qbV s l) (j+1)=cov (qbV s l) j:=by
 unfold cov qbV
 rw [List.any_map,List.any_map]
 congr 1
 funext p
 have h1:=qwI h p.1.toNat
 have h2:=qzc h (s.length - p.2.toNat) p.2.toNat (by omega)
 have e1:(pntF s p).1=(qaM s p.1.toNat:Nat):=rfl
 have e2:(pntF s p).2=(fwdN s (s.length - p.2.toNat) p.2.toNat:Nat):=rfl
 simp only [Function.comp_apply]
 generalize (pntF s p)=q at e1 e2 ⊢
 have k1:decide (q.1≤((j+1:Nat):Int))=decide (q.1≤(j:Int)):=decide_eq_decide.2 (by omega)
 have k2:decide (((j+1:Nat):Int) < q.2)=decide ((j:Int) < q.2):=decide_eq_decide.2 (by omega)
 rw [k1,k2]
theorem qBK {s:List UInt8} {C:Nat→Bool} (hC:∀ j,inP s (j+1)→C (j+1)=C j):∀ (n k:Nat),s.length≤k+n→k≤s.length→okTx (s.drop k)=true→okTx ((List.range' k (s.length - k)).map (redG s C))=true:=by
 intro n
 induction n using Nat.strongRecOn with
 |_ n ih=>
  intro k hn hk h
  rcases qmC h with h0|⟨r,h0,hr⟩|⟨c,r,h0,hc,hb,hr⟩
  ·have:s.length - k=0:=by
    have:=congrArg List.length h0
    simpa using this
   rw [this]
   rfl
  ·have hl:=congrArg List.length h0
   simp only [z8,zi] at hl
   have g1:s.getD k 0=195:=by
    have:=congrArg (fun l=>l.getD 0 0) h0
    simpa [zD] using this
   have g2:s.getD (k+1) 0=169:=by
    have:=congrArg (fun l=>l.getD 1 0) h0
    simpa [zD] using this
   have g3:s.drop (k+2)=r:=by
    have:=congrArg (List.drop 2) h0
    simpa [List.drop_drop] using this
   have hp:=hC k ⟨by omega,by rw [g2];decide⟩
   have e:s.length - k=(s.length - (k+2))+2:=by omega
   rw [e,List.range'_succ,List.range'_succ,zk,zk]
   have hi:=ih (n - 2) (by omega) (k+2) (by omega) (by omega) (by rw [g3];exact hr)
   unfold redG at hi ⊢
   rw [g1,g2,hp]
   cases C k
   ·simp only [Bool.false_and,Bool.false_eq_true,if_false]
    rw [qy3]
    exact hi
   ·have b1:qgQ 195=false:=by decide
    have b2:qgQ 169=false:=by decide
    rw [b1,b2]
    simp only [Bool.not_false,Bool.and_true,if_true]
    rw [qq9 _ _ (by decide),qq9 _ _ (by decide)]
    have b3:badB true 35=false:=by decide
    rw [b3]
    exact hi
  ·have hl:=congrArg List.length h0
   simp only [z8,zi] at hl
   have g1:s.getD k 0=c:=by
    have:=congrArg (fun l=>l.getD 0 0) h0
    simpa [zD] using this
   have g3:s.drop (k+1)=r:=by
    have:=congrArg (List.drop 1) h0
    simpa [List.drop_drop] using this
   have e:s.length - k=(s.length - (k+1))+1:=by omega
   rw [e,List.range'_succ,zk]
   have hi:=ih (n - 1) (by omega) (k+1) (by omega) (by omega) (by rw [g3];exact hr)
   have b3:badB true 35=false:=by decide
   unfold redG at hi ⊢
   rw [g1]
   split
   ·rw [qq9 _ _ (by decide),b3]
    exact hi
   ·rw [qq9 _ _ hc,hb]
    exact hi
theorem qvm {s:List UInt8} {l:List (Int×Int)} (h:okTx s=true):okTx (qbU s l)=true:=by
 have:=qBK (s:=s) (C:=cov (qbV s l)) (fun j hj=>qye l hj) s.length 0 (by omega) (by omega) (by simpa using h)
 rw [qbU,List.range_eq_range']
 simpa using this
theorem qum (s:List UInt8) (l:List (Int×Int)):(qbU s l).length=s.length:=by simp [qbU]
theorem qul {s:List UInt8} {l:List (Int×Int)} (h:s=[]∨sufE s [10]=true):qbU s l=[]∨sufE (qbU s l) [10]=true:=by
 rcases h with rfl|h
 ·exact .inl rfl
 ·obtain ⟨t,rfl⟩:=qtl h
  right
  rw [qbU,zK,List.length_singleton,List.range_succ,List.map_append]
  have e:redG (t++[10]) (cov (qbV (t++[10]) l)) t.length=10:=by
   unfold redG
   have:(t++[10]).getD t.length 0=(10:UInt8):=by simp [zD]
   rw [this]
   have b:qgQ 10=true:=by decide
   rw [b]
   simp
  simp only [zk,zr,e]
  exact qlC _
def qiU:IC:=(sR [qT 10 .lss 9 8] (.seq (.cond (.t 10) .skip (.exit 0)) (.seq (.block 1 (sR [qX 11 7 7 9,qO 12 (.ld 7 true (.t 11)),qO 5 (.alc 80 [.str [],.str [],.int .i64 0,.str [],.int .i64 0,.str [],.str []]),qS 7 5 12] (.reg [qM 13 3,qF 14 0 5,qL 15 14,qO 16 (.ld 7 true (.t 5)),⟨none,.mpu (.t 13) (.t 15) (.t 16),none⟩]))) (.reg [qB 17 .add 9 (cI 1),qM 9 17]))))
def qk2:IC:=(sR [qO 2 (.mov (.c (.raw (.map none))))] (sR [qO 6 (.mkm 9 80),qM 3 6] (.seq (sR [qM 7 0,qN 8 7,qO 9 (.mov (cI 0))] (.block 0 (.loop qiU))) (sR [qM 18 3,qM 2 18] .ret))))
def qkY:List IRes:=[.t 2]
theorem qoH:chkF Tryz.prog Tryz.f158 qk2 qkY 19=true:=by kernel_rfl
def qia:IC:=(sR [qT 13 .lss 12 11] (.seq (.cond (.t 13) .skip (.exit 0)) (.seq (.block 1 (sR [qM 15 0,qF 16 5 6,qL 17 16,qO 18 (.mpl true (.agg [.str [],.str [],.int .i64 0,.str [],.int .i64 0,.str [],.str []]) (.t 15) (.t 17)),qM 14 18,qO 19 (.ext 0 (.t 14)),qO 20 (.ext 1 (.t 14)),qO 7 (.alc 80 [.str [],.str [],.int .i64 0,.str [],.int .i64 0,.str [],.str []]),qS 7 7 19,qM 8 20] (.seq (sR [qM 21 8,qO 22 (.not (.t 21)),qM 23 22,⟨some 24,.fla 5 (.t 6),(some (23,false))⟩,⟨some 25,.ld 1 false (.t 24),(some (23,false))⟩,⟨some 26,.bin .eql (.t 25) (.c (.str [])),(some (23,false))⟩,qO 27 (.pick (.t 23) (.c (.bool true)) (.t 26))] (.cond (.t 27) (sR [qM 28 4,qM 4 28,qO 5 (.mov (.c (.bool false)))] .ret) .skip)) (sR [qM 29 4,qB 30 .add 29 (cI 1),qM 4 30] (.seq (sR [qF 31 0 7,qL 32 31,qF 33 0 3,qL 34 33,qT 35 .eql 32 34] (.cond (.t 35) (sR [qM 36 4,qM 4 36,qO 5 (.mov (.c (.bool true)))] .ret) .skip)) (.reg [qO 37 (.ld 7 true (.t 7)),qS 7 6 37])))))) (.reg [qB 38 .add 12 (cI 1),qM 12 38]))))
def qkc:IC:=(sR [qO 3 (.box 80 (.t 1)),qO 4 (.mov (cI 0)),qO 5 (.mov (.c (.bool false)))] (sR [qO 9 (.ld 7 true (.t 3)),qO 6 (.alc 80 [.str [],.str [],.int .i64 0,.str [],.int .i64 0,.str [],.str []]),qS 7 6 9] (.seq (sR [qM 10 0,qO 11 (.mpn (.t 10)),qO 12 (.mov (cI 0))] (.block 0 (.loop qia))) (sR [qM 39 4,qM 4 39,qO 5 (.mov (.c (.bool false)))] .ret))))
def qjW:List IRes:=[.t 4,.t 5]
theorem qoi:chkF Tryz.prog Tryz.f159 qkc qjW 40=true:=by kernel_rfl
def qjD:IC:=(sR [qO 3 (.box 80 (.t 1)),qO 4 (.mov (cI 0))] (sR [qM 10 0,qF 11 5 3,qL 12 11,qO 13 (.mpl true (.agg [.str [],.str [],.int .i64 0,.str [],.int .i64 0,.str [],.str []]) (.t 10) (.t 12)),qM 9 13,qO 14 (.ext 0 (.t 9)),qO 15 (.ext 1 (.t 9)),qO 5 (.alc 80 [.str [],.str [],.int .i64 0,.str [],.int .i64 0,.str [],.str []]),qS 7 5 14,qM 6 15] (.seq (sR [qF 16 5 3,qL 17 16,qB 18 .neq 17 (.c (.str [])),qM 19 18,⟨some 20,.mov (.t 6),(some (19,true))⟩,qO 21 (.pick (.t 19) (.t 20) (.c (.bool false))),qM 22 21,⟨some 23,.fla 2 (.t 5),(some (22,true))⟩,⟨some 24,.ld 1 false (.t 23),(some (22,true))⟩,⟨some 25,.bin .neq (.t 24) (cI 1),(some (22,true))⟩,qO 26 (.pick (.t 22) (.t 25) (.c (.bool false))),qM 27 26,⟨some 28,.fla 2 (.t 5),(some (27,true))⟩,⟨some 29,.ld 1 false (.t 28),(some (27,true))⟩,⟨some 30,.bin .neq (.t 29) (cI 3),(some (27,true))⟩,qO 31 (.pick (.t 27) (.t 30) (.c (.bool false)))] (.cond (.t 31) (sR [qO 4 (.mov (cI 16))] .ret) .skip)) (sR [qM 33 0,qO 34 (.ld 7 true (.t 3)),qO 35 (.call 159 [.t 33,.t 34]),qM 32 35,qO 36 (.ext 0 (.t 32)),qO 37 (.ext 1 (.t 32)),qM 7 36,qM 8 37] (sR [qM 38 7,qB 39 .gtr 38 (cI 4),qO 40 (.call 50 [.t 39,.c (.int .i64 2)]),qM 4 40] .ret)))))
def qjx:List IRes:=[.t 4]
theorem qnq:chkF Tryz.prog Tryz.f160 qjD qjx 41=true:=by kernel_rfl
theorem qdc {α β:Type}:∀ kv:List (α×β),(kv.map (·.1)).zip (kv.map (·.2))=kv
 |[]=>rfl
 |p :: r=>by simp only [zk,List.zip_cons_cons,qdc r]
theorem qtI:∀ (kv:List (List UInt8×PV)) (s:List UInt8) (y:PV),(mpS kv s y).length≤kv.length+1:=by
 intro kv s y
 induction kv with
 |nil=>simp [mpS]
 |cons p r ih=>
  rw [mpS]
  split
  ·simp
  ·simp only [zi];omega
def MapIs (kv:List (List UInt8×PV)) (il:List Itm):Prop:=∀ s,mpF kv s=(il.reverse.find? (fun x=>decide (x.1=s))).map (fun x=>PV.agg (itC x))
theorem MapIs.nil:MapIs [] []:=fun s=>rfl
theorem MapIs.put {kv:List (List UInt8×PV)} {il:List Itm} (h:MapIs kv il) (x:Itm):MapIs (mpS kv x.1 (.agg (itC x))) (il++[x]):=fun s=>by
 rw [qlc,List.reverse_append,List.reverse_singleton,List.singleton_append,List.find?_cons]
 by_cases hs:x.1=s
 ·rw [if_pos hs]
  simp [hs]
 ·rw [if_neg hs,h s]
  simp [hs]
theorem qpM {il:List Itm} (h:qaP il):il.reverse.find? (fun x=>decide (x.1=[]))=none:=by
 rw [List.find?_eq_none]
 intro x hx
 obtain ⟨i,hi⟩:=zR (List.mem_reverse.1 hx)
 rw [(h.2 i x hi).b1]
 simp [pid]
theorem qnz {il:List Itm} (h:qaP il) {j:Nat} {y:Itm} (hy:il[j]?=some y):il.reverse.find? (fun x=>decide (x.1=pid j))=some y:=by
 have hjl:=(zt.1 hy).1
 cases hf:il.reverse.find? (fun x=>decide (x.1=pid j)) with
 |none=>
  rw [List.find?_eq_none] at hf
  have:=hf y (List.mem_reverse.2 (zx hy))
  rw [(h.2 j y hy).b1] at this
  simp at this
 |some z=>
  have hz:=List.find?_some hf
  have hm:=List.mem_reverse.1 (List.mem_of_find?_eq_some hf)
  obtain ⟨i,hi⟩:=zR hm
  have hil:=(zt.1 hi).1
  simp only [decide_eq_true_eq] at hz
  rw [(h.2 i z hi).b1] at hz
  have h20:=h.1
  have:=qir (by omega) (by omega) hz
  subst this
  rw [hi] at hy
  exact hy
section
variable {E:Envt}
theorem qwB (il:List Itm) (hl:il.length≤2000):PCall Tryz.prog E 158 [.sl 7 (itE il)] (fun x=>∃ kv:List (List UInt8×PV),x=.mpv (kv.map (·.1)) (kv.map (·.2))∧MapIs kv il∧kv.length≤il.length):=by
 refine qae mixed Tryz.func158 qoH ?_
 simp only [a0,l0,OS.ao,zk,zr,zi,zo,zl,zm,zu,zd,zh,zj,qk2,qkY,ZZ,WW,Zd,reduceCtorEq,zd,ze,zb,zf,za]
 simp only [ZZ,WW,Zd,reduceCtorEq,zd,ze,zb,zf,za,qai]
 refine qad (fun n fr L=>∃ (k:Nat) (kv:List (List UInt8×PV)),k≤il.length∧n=il.length - k∧(MapIs kv (il.take k))∧(kv.length≤k)∧fr=(oo::oo::oo::.mp (.l 6)::oo::oo::oo::.p (.sl 7 (itE il))::.p (int (il.length:Nat))::.p (int (k:Nat))::oD (oo::[]))∧L=[(.l 6,.map kv 9 80)]) (il.length) _ _ (by simp only [ZZ,WW,Zd,reduceCtorEq,zd,ze,zb,zf,za,qai];try trivial) (by (simp only [ZZ,WW,Zd,reduceCtorEq,zd,ze,zb,zf,za];try trivial)) ⟨0,[],by omega,by omega,MapIs.nil,by simp,rfl,rfl⟩ ?_
 rintro n fr L ⟨k,kv,hk,rfl,hkv,hkn,rfl,rfl⟩
 simp only [qiU,ZZ,WW,Zd,reduceCtorEq,zd,ze,zb,zf,za]
 refine br ?_ ?_
 ·intro h
  have hlt:k < il.length:=by have:=of_decide_eq_true h;omega
  obtain ⟨x,hx⟩:∃ x,il[k]?=some x:=⟨_,zg hlt⟩
  have hg:=qbG hx
  have hnx:il.take (k+1)=il.take k++[x]:=by rw [List.take_succ_eq_append_getElem hlt,(zt.1 hx).2]
  have hpt:=hkv.put x
  rw [← hnx] at hpt
  simp only [itC] at hg hpt
  simp only [ZZ,WW,Zd,reduceCtorEq,zd,ze,zb,zf,za,hg,qai]
  ((with_reducible and_intros)<;>try exact sc_)
  refine qac (il.length - (k+1)) (oo::oo::oo::.mp (.l 6)::oo::oo::oo::.p (.sl 7 (itE il))::.p (int (il.length:Nat))::.p (int ((k+1):Nat))::oD (oo::[])) [(.l 6,.map (mpS kv x.1 (.agg [.str x.1,.str x.2.1,int x.2.2.1,.str x.2.2.2.1,int x.2.2.2.2.1,.str x.2.2.2.2.2.1,.str x.2.2.2.2.2.2])) 9 80)] (by omega) (by (simp only [ZZ,WW,Zd,reduceCtorEq,zd,ze,zb,zf,za];try trivial)) (by (simp only [ZZ,WW,Zd,reduceCtorEq,zd,ze,zb,zf,za];try trivial)) ⟨k+1,mpS kv x.1 (.agg [.str x.1,.str x.2.1,int x.2.2.1,.str x.2.2.2.1,int x.2.2.2.2.1,.str x.2.2.2.2.2.1,.str x.2.2.2.2.2.2]),by omega,rfl,hpt,Nat.le_trans (qtI _ _ _) (by omega),rfl,rfl⟩
 intro h
 have hge:il.length≤k:=by have:=of_decide_eq_false h;omega
 rw [zC hge] at hkv
 refine zS ?_
 exact ⟨kv,rfl,hkv,by omega⟩
theorem qua (il:List Itm) (hP:qaP il) (kv:List (List UInt8×PV)) (hkv:MapIs kv il) (hkl:kv.length≤1000000) (i:Nat) (x:Itm) (hx:il[i]?=some x):PCall Tryz.prog E 159 [.mpv (kv.map (·.1)) (kv.map (·.2)),.agg (itC x)] (fun r=>∃ c:Nat,c≤1∧r=.tup [int (c:Nat),.bool false]):=by
 have hp:=hP.2 i x hx
 have h20:=hP.1
 have hil:=(zt.1 hx).1
 refine qae mixed Tryz.func159 qoi ?_
 simp only [a0,l0,OS.ao,zk,zr,zi,zo,zl,zm,zu,zd,zh,zj,qkc,qjW,ZZ,WW,Zd,reduceCtorEq,zd,ze,zb,zf,za]
 simp only [itC,ZZ,WW,Zd,reduceCtorEq,zd,ze,zb,zf,za]
 simp only [List.length_map,ZZ,WW,Zd,reduceCtorEq,zd,ze,zb,zf,za]
 refine qad (fun n fr L=>∃ (k:Nat) (c:Nat) (u:Itm),k≤kv.length∧n=kv.length - k∧((c=0∧u=x)∨(c=1∧u.2.2.2.2.2.1=[]))∧fr=(.p (.mpv (kv.map (·.1)) (kv.map (·.2)))::oo::oo::.adr (.l 3) 0::.p (int (c:Nat))::oo::.adr (.l 6) 0::oo::oo::oo::oo::.p (int (kv.length:Nat))::.p (int (k:Nat))::oE (oD (oB (oo::[]))))∧L=[(.l 3,.box [.p (.str x.1),.p (.str x.2.1),.p (int x.2.2.1),.p (.str x.2.2.2.1),.p (int x.2.2.2.2.1),.p (.str x.2.2.2.2.2.1),.p (.str x.2.2.2.2.2.2)] qip),(.l 6,.box [.p (.str u.1),.p (.str u.2.1),.p (int u.2.2.1),.p (.str u.2.2.2.1),.p (int u.2.2.2.2.1),.p (.str u.2.2.2.2.2.1),.p (.str u.2.2.2.2.2.2)] qip)]) (kv.length) _ _ (by (simp only [ZZ,WW,Zd,reduceCtorEq,zd,ze,zb,zf,za];try trivial)) (by (simp only [ZZ,WW,Zd,reduceCtorEq,zd,ze,zb,zf,za];try trivial)) ⟨0,0,x,by omega,by omega,.inl ⟨rfl,rfl⟩,rfl,rfl⟩ ?_
 rintro n fr L ⟨k,c,u,hk,rfl,hcu,rfl,rfl⟩
 simp only [qia,ZZ,WW,Zd,reduceCtorEq,zd,ze,zb,zf,za]
 refine br ?_ ?_
 ·intro h
  have hlt:k < kv.length:=by have:=of_decide_eq_true h;omega
  have hno:mpF kv []=none:=by rw [hkv [],qpM hP];rfl
  by_cases hq:u.2.2.2.2.2.1=[]
  ·have hno2:mpF kv u.2.2.2.2.2.1=none:=by rw [hq];exact hno
   simp only [ZZ,WW,Zd,reduceCtorEq,zd,ze,zb,zf,za,qdc,mpD,hno2,Option.getD_none,Option.isSome_none]
   exact ⟨c,by omega,rfl⟩
  ·obtain ⟨hc0,hux⟩:c=0∧u=x:=hcu.resolve_right (fun h=>hq h.2)
   have hux:=hux.symm
   subst hc0
   subst hux
   obtain ⟨j,y,hj,hy,hy1,hy2,hpj⟩:=hp.b6.resolve_left hq
   have hf:mpF kv x.2.2.2.2.2.1=some (.agg (itC y)):=by rw [hpj,hkv,qnz hP hy];rfl
   have hyi:decide (y.1=x.1)=false:=by
    rw [decide_eq_false_iff_not,(hP.2 j y hy).b1,hp.b1]
    intro e
    have:=qir (by omega) (by omega) e
    omega
   have hq2:decide (x.2.2.2.2.2.1=[])=false:=by simpa using hq
   simp only [itC] at hf
   simp only [ZZ,WW,Zd,reduceCtorEq,zd,ze,zb,zf,za,qdc,mpD,hf,yt,Option.isSome_some,hq2,Bool.or_false,Bool.or_self]
   ((with_reducible and_intros)<;>try exact sc_)
   simp only [ZZ,WW,Zd,reduceCtorEq,zd,ze,zb,zf,za,hyi]
   refine ⟨qan (by omega) (by omega),?_⟩
   refine qac (kv.length - (k+1)) _ _ (by omega) (by (simp only [ZZ,WW,Zd,reduceCtorEq,zd,ze,zb,zf,za];try trivial)) (by (simp only [ZZ,WW,Zd,reduceCtorEq,zd,ze,zb,zf,za];try trivial)) ⟨k+1,1,y,by omega,rfl,.inr ⟨rfl,hy1⟩,rfl,rfl⟩
 intro h
 refine zS ?_
 exact ⟨c,by omega,rfl⟩
theorem qvs (il:List Itm) (hP:qaP il) (kv:List (List UInt8×PV)) (hkv:MapIs kv il) (hkl:kv.length≤1000000) (i:Nat) (x:Itm) (hx:il[i]?=some x):PCall Tryz.prog E 160 [.mpv (kv.map (·.1)) (kv.map (·.2)),.agg (itC x)] (·=int 0):=by
 have hp:=hP.2 i x hx
 have h20:=hP.1
 have hno:mpF kv []=none:=by rw [hkv [],qpM hP];rfl
 have hab:=qua (E:=E) il hP kv hkv hkl i x hx
 simp only [itC] at hab
 refine qae mixed Tryz.func160 qnq ?_
 simp only [a0,l0,OS.ao,zk,zr,zi,zo,zl,zm,zu,zd,zh,zj,qjD,qjx,ZZ,WW,Zd,reduceCtorEq,zd,ze,zb,zf,za]
 simp only [itC,ZZ,WW,Zd,reduceCtorEq,zd,ze,zb,zf,za]
 by_cases hq:x.2.2.2.2.2.1=[]
 ·have hno2:mpF kv x.2.2.2.2.2.1=none:=by rw [hq];exact hno
  have hq2:decide (x.2.2.2.2.2.1=[])=true:=by simpa using hq
  simp only [ZZ,WW,Zd,reduceCtorEq,zd,ze,zb,zf,za,qdc,mpD,hno2,Option.getD_none,Option.isSome_none,hq2]
  refine use hab rfl (.inl rfl) ?_
  rintro _ ⟨c,hc,rfl⟩
  refine zS ?_
  refine use1 (qav _ 2) rfl (.inl rfl) ?_
  have h4:decide (4 < (c:Int))=false:=by rw [decide_eq_false_iff_not];omega
  rw [h4]
  refine zS ?_
  rfl
 ·obtain ⟨j,y,hj,hy,hy1,hy2,hpj⟩:=hp.b6.resolve_left hq
  have hf:mpF kv x.2.2.2.2.2.1=some (.agg (itC y)):=by rw [hpj,hkv,qnz hP hy];rfl
  have hq2:decide (x.2.2.2.2.2.1=[])=false:=by simpa using hq
  simp only [itC] at hf
  have hkk:decide (y.2.2.1=1)=true∨(decide (y.2.2.1=1)=false∧decide (y.2.2.1=3)=true):=by
   rcases hy2 with h|h
   ·exact .inl (by simpa using h)
   ·exact .inr ⟨by rw [h];rfl,by simpa using h⟩
  rcases hkk with h1|⟨h1,h3⟩
  ·simp only [ZZ,WW,Zd,reduceCtorEq,zd,ze,zb,zf,za,qdc,mpD,hf,yt,Option.isSome_some,hq2,h1]
   refine use hab rfl (.inl rfl) ?_
   rintro _ ⟨c,hc,rfl⟩
   refine zS ?_
   refine use1 (qav _ 2) rfl (.inl rfl) ?_
   have h4:decide (4 < (c:Int))=false:=by rw [decide_eq_false_iff_not];omega
   rw [h4]
   refine zS ?_
   rfl
  ·simp only [ZZ,WW,Zd,reduceCtorEq,zd,ze,zb,zf,za,qdc,mpD,hf,yt,Option.isSome_some,hq2,h1,h3]
   refine use hab rfl (.inl rfl) ?_
   rintro _ ⟨c,hc,rfl⟩
   refine zS ?_
   refine use1 (qav _ 2) rfl (.inl rfl) ?_
   have h4:decide (4 < (c:Int))=false:=by rw [decide_eq_false_iff_not];omega
   rw [h4]
   refine zS ?_
   rfl
end
end Go.Proofs.YtehfjlpenlffmaaGreatDoor
namespace Go.Proofs.YtehfjlpenlffmaaGreatDoor
open List renaming mem_cons→zI
structure OrdP {α:Type} (lt:α→α→Bool):Prop where
 asym:∀ x y,lt x y=true→lt y x=false
 ntr:∀ x y z,lt x y=false→lt y z=false→lt x z=false
def SrtP {α:Type} (lt:α→α→Bool) (l:List α):Prop:=l.Pairwise fun u v=>lt v u=false
section
variable {α:Type} {lt:α→α→Bool}
theorem qnF {A B:List α} {x:α} (hO:OrdP lt) (h1:SrtP lt (A++B)) (h2:∀ b∈B,lt x b=true) (h3:A=[]∨∃ A' y,A=A'++[y]∧lt x y=false):SrtP lt (A++x :: B):=by
 unfold SrtP at *
 rw [List.pairwise_append] at h1 ⊢
 obtain ⟨hA,hB,hAB⟩:=h1
 refine ⟨hA,List.pairwise_cons.2 ⟨fun b hb=>hO.asym _ _ (h2 b hb),hB⟩,fun u hu v hv=>?_⟩
 rcases zI.1 hv with rfl|hv
 ·rcases h3 with rfl|⟨A',y,rfl,hy⟩
  ·cases hu
  ·rcases List.mem_append.1 hu with hu|hu
   ·exact hO.ntr _ y _ hy ((List.pairwise_append.1 hA).2.2 u hu y (by simp))
   ·rw [List.mem_singleton] at hu
    subst hu
    exact hy
 ·exact hAB u hu v hv
theorem qtj {β:Type} (f:α→β) (A R:List α) (x y:α):(((A++y :: x :: R).map f).set (A.length+1) (f y)).set A.length (f x)=(A++x :: y :: R).map f:=by
 simp [List.set_append]
theorem qtk {β:Type} (f:α→β) (A R:List α) (x y:α) (d:β):((A++y :: x :: R).map f).getD (A.length+1) d=f x∧((A++y :: x :: R).map f).getD A.length d=f y:=by
 constructor<;>simp [List.getD]
theorem qtO {A B:List α} {x y:α} (h1:SrtP lt ((A++[y])++B)) (h2:∀ b∈B,lt x b=true) (h:lt x y=true):SrtP lt (A++(y :: B))∧∀ b∈y :: B,lt x b=true:=by
 refine ⟨by simpa using h1,fun b hb=>?_⟩
 rcases zI.1 hb with rfl|hb
 ·exact h
 ·exact h2 b hb
theorem qtm (hT:∀ x y,lt x y=false→lt y x=false→x=y):∀ {a b:List α},a.Perm b→SrtP lt a→SrtP lt b→a=b
 |[],b,hp,_,_=>by rw [List.nil_perm.1 hp]
 |x :: r,b,hp,ha,hb=>by
  cases b with
  |nil=>exact absurd (hp.length_eq) (by simp)
  |cons y s=>
   unfold SrtP at ha hb
   rw [List.pairwise_cons] at ha hb
   have hxy:x=y:=by
    have h1:x∈y :: s:=hp.mem_iff.1 (by simp)
    have h2:y∈x :: r:=hp.mem_iff.2 (by simp)
    rcases zI.1 h1 with h|h1
    ·exact h
    rcases zI.1 h2 with h|h2
    ·exact h.symm
    exact hT _ _ (hb.1 x h1) (ha.1 y h2)
   subst hxy
   rw [qtm hT hp.cons_inv ha.2 hb.2]
end
end Go.Proofs.YtehfjlpenlffmaaGreatDoor
namespace Go.Proofs.YtehfjlpenlffmaaGreatDoor
open List renaming getElem?_eq_getElem→zg,mem_cons→zI,mem_filter→yj,range→zE
open Go.RowKit
abbrev Fam:=List UInt8×List (List UInt8)
def it0:Itm:=([],[],0,[],0,[],[])
def upOf (x:Itm):List UInt8:=x.2.2.2.2.2.1
def kidsF (il:List Itm) (s:List UInt8):List (List UInt8):=(il.filter fun z=>decide (upOf z=s)).map (·.1)
def topsF (il:List Itm):List (List UInt8):=(il.filter fun z=>decide (upOf z=[])).map (·.1)
def famF (il:List Itm):List Fam:=(topsF il).map fun s=>(s,s :: kidsF il s)
theorem qkG (il:List Itm) (x:Itm) (s:List UInt8):kidsF (il++[x]) s=kidsF il s++if upOf x=s then [x.1] else []:=by
 unfold kidsF
 rw [List.filter_append,List.map_append]
 by_cases h:upOf x=s<;>simp [h]
theorem qoQ (il:List Itm) (x:Itm):topsF (il++[x])=topsF il++if upOf x=[] then [x.1] else []:=qkG il x []
theorem qbF (il:List Itm) (s:List UInt8):(kidsF il s).length≤il.length:=by
 unfold kidsF
 rw [List.length_map]
 exact List.length_filter_le _ _
def atI (il:List Itm) (i:Nat):Itm:=il.getD i it0
theorem qpg {il:List Itm} {i:Nat} {x:Itm} (h:il[i]?=some x):atI il i=x:=by simp [atI,List.getD,h]
def kidI (il:List Itm) (t:Nat):List Nat:=(zE il.length).filter fun i=>decide (upOf (atI il i)=pid t)
def topI (il:List Itm):List Nat:=(zE il.length).filter fun i=>decide (upOf (atI il i)=[])
def ordX (il:List Itm):List Nat:=(topI il).flatMap fun t=>t :: kidI il t
def idN (s:List UInt8):Nat:=(s.getD 1 0).toNat - 97
theorem qsE:∀ j:Fin 26,idN (pid j.val)=j.val:=by decide +kernel
def kyF (il:List Itm) (i:Nat):Nat:=if upOf (atI il i)=[] then 100 * i else 100 * idN (upOf (atI il i))+(i+1)
theorem qlz {il:List Itm} (h:qaP il) {i:Nat} (hi:i < il.length):i < 20∧(upOf (atI il i)=[]∨∃ j,j < i∧upOf (atI il i)=pid j∧upOf (atI il j)=[]):=by
 have h20:=h.1
 obtain ⟨x,hx⟩:∃ x,il[i]?=some x:=⟨_,zg hi⟩
 have hp:=(h.2 i x hx).b6
 rw [qpg hx]
 refine ⟨by omega,?_⟩
 rcases hp with hp|⟨j,y,hj,hy,h1,h2,h3⟩
 ·exact .inl hp
 ·exact .inr ⟨j,hj,h3,by rw [qpg hy];exact h1⟩
theorem qj5 (j:Nat):pid j≠[]:=by simp [pid]
theorem qvY {il:List Itm} (h:qaP il) {i:Nat} (hi:i < il.length):i < 20∧∃ a,(kyF il i=100 * a∧a=i)∨kyF il i=100 * a+(i+1):=by
 obtain ⟨h20,h1|⟨j,hj,h1,h2⟩⟩:=qlz h hi
 ·exact ⟨h20,i,.inl ⟨by rw [kyF,if_pos h1],rfl⟩⟩
 ·refine ⟨h20,j,.inr ?_⟩
  have:=qsE ⟨j,by omega⟩
  simp only at this
  rw [kyF,if_neg (by rw [h1];exact qj5 j),h1,this]
theorem qCb {il:List Itm} (h:qaP il) {i j:Nat} (hi:i < il.length) (hj:j < il.length) (e:kyF il i=kyF il j):i=j:=by
 obtain ⟨h1,a,h2⟩:=qvY h hi
 obtain ⟨h3,b,h4⟩:=qvY h hj
 omega
theorem qlT {il:List Itm} {t:Nat} (h:t∈topI il):t < il.length∧kyF il t=100 * t∧upOf (atI il t)=[]:=by
 unfold topI at h
 rw [yj,List.mem_range,decide_eq_true_eq] at h
 exact ⟨h.1,by rw [kyF,if_pos h.2],h.2⟩
theorem qlU {il:List Itm} (hP:qaP il) {t i:Nat} (ht:t < 20) (h:i∈kidI il t):i < il.length∧i < 20∧kyF il i=100 * t+(i+1)∧upOf (atI il i)=pid t:=by
 have h20:=hP.1
 unfold kidI at h
 rw [yj,List.mem_range,decide_eq_true_eq] at h
 have:=qsE ⟨t,by omega⟩
 simp only at this
 exact ⟨h.1,by omega,by rw [kyF,if_neg (by rw [h.2];exact qj5 t),h.2,this],h.2⟩
theorem qvH {il:List Itm} (h:qaP il):(ordX il).Pairwise fun i j=>kyF il i < kyF il j:=by
 have h20:=h.1
 unfold ordX
 rw [List.pairwise_flatMap]
 refine ⟨fun t ht=>?_,?_⟩
 ·obtain ⟨h1,h2,h3⟩:=qlT ht
  rw [List.pairwise_cons]
  refine ⟨fun i hi=>?_,?_⟩
  ·obtain ⟨_,_,h4,_⟩:=qlU h (by omega) hi
   omega
  ·have hr:(kidI il t).Pairwise (fun i j=>i < j):=List.pairwise_lt_range.sublist List.filter_sublist
   refine hr.imp_of_mem fun {i j} hi hj hij=>?_
   obtain ⟨_,_,h4,_⟩:=qlU h (by omega) hi
   obtain ⟨_,_,h5,_⟩:=qlU h (by omega) hj
   omega
 ·have hr:(topI il).Pairwise (fun i j=>i < j):=List.pairwise_lt_range.sublist List.filter_sublist
  refine hr.imp_of_mem fun {s t} hs ht hst x hx y hy=>?_
  obtain ⟨a1,a2,_⟩:=qlT hs
  obtain ⟨b1,b2,_⟩:=qlT ht
  have hx':kyF il x≤100 * s+21:=by
   rcases zI.1 hx with rfl|hx
   ·omega
   ·obtain ⟨_,_,h4,_⟩:=qlU h (by omega) hx
    omega
  have hy':100 * t≤kyF il y:=by
   rcases zI.1 hy with rfl|hy
   ·omega
   ·obtain ⟨_,_,h4,_⟩:=qlU h (by omega) hy
    omega
  omega
theorem qsu {il:List Itm} (h:qaP il) (i:Nat):i∈ordX il↔i < il.length:=by
 have h20:=h.1
 unfold ordX
 rw [List.mem_flatMap]
 constructor
 ·rintro ⟨t,ht,hi⟩
  obtain ⟨h1,_,_⟩:=qlT ht
  rcases zI.1 hi with rfl|hi
  ·exact h1
  ·exact (qlU h (by omega) hi).1
 ·intro hi
  obtain ⟨_,h1|⟨j,hj,h1,h2⟩⟩:=qlz h hi
  ·exact ⟨i,by unfold topI;rw [yj,List.mem_range,decide_eq_true_eq];exact ⟨hi,h1⟩,by simp⟩
  ·refine ⟨j,by unfold topI;rw [yj,List.mem_range,decide_eq_true_eq];exact ⟨by omega,h2⟩,List.mem_cons_of_mem _ ?_⟩
   unfold kidI
   rw [yj,List.mem_range,decide_eq_true_eq]
   exact ⟨hi,h1⟩
theorem qxF {il:List Itm} (h:qaP il) {o:List Nat} (hp:o.Perm (zE il.length)) (hs:o.Pairwise fun i j=>kyF il i≤kyF il j):o=ordX il:=by
 have hn:(ordX il).Nodup:=by
  rw [List.nodup_iff_pairwise_ne]
  exact (qvH h).imp fun h e=>by rw [e] at h;omega
 have hp2:o.Perm (ordX il):=hp.trans ((List.perm_ext_iff_of_nodup List.nodup_range hn).2 fun i=>by rw [List.mem_range,qsu h])
 exact List.Perm.eq_of_pairwise (le:=fun i j=>kyF il i≤kyF il j) (fun i j hi hj h1 h2=>qCb h (by have:=hp.mem_iff.1 hi;simpa using this) ((qsu h j).1 hj) (by omega)) hs ((qvH h).imp fun h=>by omega) hp2
def stpG (il:List Itm) (s:Option (List Fam×Fam)) (i:Nat):Option (List Fam×Fam):=
 if upOf (atI il i)=[] then some (match s with|none=>[]|some (I,c)=>I++[c],((atI il i).1,[(atI il i).1])) else s.map fun s=>(s.1,(s.2.1,s.2.2++[(atI il i).1]))
def clG:Option (List Fam×Fam)→List Fam
 |none=>[]
 |some (I,c)=>I++[c]
def stG (il:List Itm) (l:List Nat):Option (List Fam×Fam):=l.foldl (stpG il) none
theorem qxc (il:List Itm) (l:List Nat) (i:Nat):stG il (l++[i])=stpG il (stG il l) i:=by rw [stG,List.foldl_append];rfl
theorem qru (il:List Itm) (I:List Fam):∀ (ks:List Nat) (c:Fam),(∀ i∈ks,upOf (atI il i)≠[])→ks.foldl (stpG il) (some (I,c))=some (I,(c.1,c.2++ks.map fun i=>(atI il i).1))
 |[],c,_=>by simp
 |i :: r,c,h=>by
  have e:stpG il (some (I,c)) i=some (I,(c.1,c.2++[(atI il i).1])):=by
   unfold stpG
   rw [if_neg (h i (by simp))]
   rfl
  rw [List.foldl_cons,e,qru il I r _ (fun j hj=>h j (by simp [hj]))]
  simp
theorem qrt {il:List Itm} (hP:qaP il):∀ (T:List Nat) (s:Option (List Fam×Fam)),(∀ t∈T,t∈topI il)→clG ((T.flatMap fun t=>t :: kidI il t).foldl (stpG il) s)=clG s++T.map fun t=>((atI il t).1,(atI il t).1 :: (kidI il t).map fun i=>(atI il i).1)
 |[],s,_=>by simp
 |t :: r,s,h=>by
  have h20:=hP.1
  obtain ⟨h1,_,h2⟩:=qlT (h t (by simp))
  have e1:stpG il s t=some (clG s,((atI il t).1,[(atI il t).1])):=by
   unfold stpG
   rw [if_pos h2]
   cases s<;>rfl
  rw [List.flatMap_cons,List.foldl_append,List.foldl_cons,e1,qru il _ _ _ (fun i hi=>by rw [(qlU hP (by omega) hi).2.2.2];exact qj5 t),qrt hP r _ (fun x hx=>h x (by simp [hx]))]
  simp [clG]
theorem qxz (il:List Itm):(zE il.length).map (atI il)=il:=by
 apply List.ext_getElem
 ·simp
 ·intro i h1 h2
  simp [atI,List.getD,zg h2]
theorem qry (il:List Itm) (p:Itm→Bool):((zE il.length).filter fun i=>p (atI il i)).map (fun i=>(atI il i).1)=(il.filter p).map (·.1):=by
 conv=>rhs;rw [← qxz il]
 rw [List.filter_map,List.map_map]
 rfl
theorem qv1 (il:List Itm) (t:Nat):(kidI il t).map (fun i=>(atI il i).1)=kidsF il (pid t):=qry il fun z=>decide (upOf z=pid t)
theorem qyY (il:List Itm):(topI il).map (fun i=>(atI il i).1)=topsF il:=qry il fun z=>decide (upOf z=[])
theorem quA {il:List Itm} (hP:qaP il) {i:Nat} (hi:i < il.length):(atI il i).1=pid i:=by
 obtain ⟨x,hx⟩:∃ x,il[i]?=some x:=⟨_,zg hi⟩
 rw [qpg hx]
 exact (hP.2 i x hx).b1
theorem qAm {il:List Itm} (hP:qaP il):clG (stG il (ordX il))=famF il:=by
 rw [stG,ordX,qrt hP _ none (fun _ h=>h),famF,← qyY,List.map_map]
 show []++_=_
 rw [List.nil_append]
 refine List.map_congr_left fun t ht=>?_
 simp only [Function.comp_apply]
 rw [qv1,quA hP (qlT ht).1]
theorem qzy {il:List Itm} (hP:qaP il) {k:Nat} (h0:0 < k) (hk:k≤(ordX il).length):∃ I c,stG il ((ordX il).take k)=some (I,c):=by
 have hm:∀ (l:List Nat) (s:Option (List Fam×Fam)),s.isSome=true→(l.foldl (stpG il) s).isSome=true:=by
  intro l
  induction l with
  |nil=>intro s h;exact h
  |cons i r ih=>
   intro s h
   rw [List.foldl_cons]
   refine ih _ ?_
   unfold stpG
   split
   ·rfl
   ·simpa using h
 have hh:∀ t r,ordX il=t :: r→upOf (atI il t)=[]:=by
  intro t r e
  unfold ordX at e
  cases hT:topI il with
  |nil=>rw [hT] at e;simp at e
  |cons t' r'=>
   rw [hT,List.flatMap_cons,List.cons_append,List.cons.injEq] at e
   rw [← e.1]
   exact (qlT (by rw [hT];simp)).2.2
 have:(stG il ((ordX il).take k)).isSome=true:=by
  cases hO:ordX il with
  |nil=>rw [hO] at hk;simp at hk;omega
  |cons t r=>
   have ht:=hh t r hO
   obtain ⟨k',rfl⟩:∃ k',k=k'+1:=⟨k - 1,by omega⟩
   rw [List.take_succ_cons,stG,List.foldl_cons]
   refine hm _ _ ?_
   unfold stpG
   rw [if_pos ht]
   rfl
 obtain ⟨⟨I,c⟩,h⟩:=Option.isSome_iff_exists.1 this
 exact ⟨I,c,h⟩
end Go.Proofs.YtehfjlpenlffmaaGreatDoor
