import Derived.Test.YtekhobchfhhofaaGreatDoorZ18
set_option linter.unusedVariables false
set_option linter.unusedSimpArgs false
set_option linter.defProp false
namespace Go.Proofs.YtekhobchfhhofaaGreatDoor
open Nat renaming le_trans→zB,reduceAdd→zd,reduceEqDiff→zb,reduceLT→zf,reduceLeDiff→za,reduceMul→ze
open List renaming length_append→zq,length_cons→zn,length_nil→zx,map_append→zG,mem_append→zr,mem_cons→zo,mem_singleton→zD,not_mem_nil→zu
open Go.RowKit
abbrev qcb:IC:=(sR [qO 2 (.nilr 42 2)] (.seq (sR [qM 3 0,qO 4 (.isn (.t 3))] (jW 4 (sR [qO 2 (.nilr 42 2)] .ret))) (sR [qO 5 (.bsr 42 2 []),qM 6 0,qO 7 (.app 42 2 32 (.t 5) (.t 6)),qM 2 7] .ret)))
theorem qcr:chkF Tryz.prog Tryz.f95 qcb [.t 2] 8=true:=by kernel_rfl
abbrev qdv:IC:=(sR [qO 3 (.box 45 (.t 1)),qO 4 (.alc 45 [.str [],.int .i64 0,.str [],.str [],.nl 2,.nl 2,.nl 1,.str [],.str []])] (.seq (sR [qM 5 0,jC 6 27 [.t 5,.c (.int .i64 9)]] (.block 0 (sR [qB 15 .eql 6 (cI 0),qM 14 15] (.cond (.t 14) (.reg [qM 16 0,jC 17 34 [.c (.str [105]),.c (.int .i64 80)],jC 18 34 [.c (.str [105]),.c (.int .i64 81)],qO 19 (.bsl 1 [.c (.str []),.c (.str [97,32,98]),.c (.str [60,120,62]),.t 17,.t 18]),jC 20 30 [.t 16,.t 19],wF 21 0 3,qS 1 21 20]) (sR [qB 23 .eql 6 (cI 1),qM 22 23] (.cond (.t 22) (.reg [qM 24 0,qO 25 (.bsl 1 [.c (.int .i64 (-1)),.c (.int .i64 5761440)]),jC 26 26 [.t 24,.t 25],wF 27 1 3,qS 1 27 26]) (sR [qB 29 .eql 6 (cI 2),qM 28 29] (.cond (.t 28) (.reg [qM 30 0,qO 31 (.bsl 1 [.c (.str []),.c (.str [97,110,110]),.c (.str [65,110,110,64,98,46,100,101])]),jC 32 30 [.t 30,.t 31],wF 33 2 3,wF 34 1 33,qS 1 34 32]) (sR [qB 36 .eql 6 (cI 3),qM 35 36] (.cond (.t 35) (.reg [qM 37 0,jC 38 34 [.c (.str [110]),.c (.int .i64 61)],qO 39 (.bsl 1 [.c (.str [32,120]),.c (.str [97,32,32,98]),.c (.str [97,34,98]),.t 38]),jC 40 30 [.t 37,.t 39],wF 41 2 3,wF 42 0 41,qS 1 42 40]) (sR [qB 44 .eql 6 (cI 4),qM 43 44] (.cond (.t 43) (.reg [wF 45 4 3,qL 46 45,jC 47 95 [.t 46],qM 48 0,qO 49 (.bsl 1 [.c (.str [97,110,110,64,102,105,114,109,46,100,101]),.c (.str [98,111,64,102,105,114,109,46,100,101]),.c (.str [])]),jC 50 30 [.t 48,.t 49],⟨none,.fz (.t 50),none⟩,qO 51 (.bld [.str [],.str []] [(1,1,.t 50)]),qO 52 (.bsl 2 [.t 51]),qO 53 (.app 42 2 32 (.t 47) (.t 52)),wF 54 4 3,qS 1 54 53]) (sR [qB 56 .eql 6 (cI 5),qM 55 56] (.cond (.t 55) (.drg [⟨none,.fz (.t 64),none⟩,⟨none,.hole 59,none⟩,wF 57 6 3,qO 58 (.ldl 1 false (.t 57)),qO 59 (.fcl 0 33 [.t 58] 9 1),qM 60 0,wF 61 0 3,qO 62 (.ldl 1 false (.t 61)),qO 63 (.bsl 1 [.t 62,.c (.str [103,111,110,101,49]),.c (.str [103,111,110,101,49]),.c (.str [])]),qO 64 (.dcall true 30 [.t 60,.t 63]),qO 65 (.bsl 1 [.t 64]),qO 66 (.app 9 1 16 (.t 59) (.t 65)),wF 67 6 3,qS 1 67 66]) (sR [qB 69 .eql 6 (cI 6),qM 68 69] (.cond (.t 68) (.reg [qM 70 0,jC 71 34 [.c (.str [115]),.c (.int .i64 200)],jC 72 34 [.c (.str [115]),.c (.int .i64 201)],qO 73 (.bsl 1 [.c (.str [32,120]),.c (.str [97,32,32,98]),.t 71,.t 72,.c (.str [97,9,98])]),jC 74 30 [.t 70,.t 73],wF 75 7 3,qS 1 75 74]) (sR [qB 77 .eql 6 (cI 7),qM 76 77] (.cond (.t 76) (.reg [qM 78 0,jC 79 34 [.c (.str [98]),.c (.int .i64 20000)],qB 80 .add 79 (.c (.str [10])),qO 81 (.bsl 1 [.c (.str [120]),.c (.str [97,9,98,10]),.c (.str [255,10]),.t 80]),jC 82 30 [.t 78,.t 81],wF 83 8 3,qS 1 83 82]) (.drg [⟨none,.hole 9,none⟩,wF 7 5 3,qL 8 7,qO 9 (.fcl 0 95 [.t 8] 42 2),wF 10 4 3,qL 11 10,qO 12 (.app 42 2 32 (.t 9) (.t 11)),wF 13 5 3,qS 1 13 12]))))))))))))))))))) (.cut (sR [qO 84 (.ld 9 true (.t 3)),qS 9 4 84] .ret))))
theorem qdB:chkF Tryz.prog Tryz.f37 qdv [.c 4 9 true] 85=true:=by kernel_rfl
structure LtM (N:Nat) (m:Ltr):Prop where
 b1:m.id.length≤30000
 b2:m.fr.1.length≤30000
 b3:m.fr.2.length≤30000
 b4:m.tos.length≤N
 b5:∀ a∈m.tos,a.1.length≤30000∧a.2.length≤30000
 b6:m.ccs.length≤N
 b7:∀ a∈m.ccs,a.1.length≤30000∧a.2.length≤30000
 b8:m.refs.length≤N
 b9:∀ r∈m.refs,r.length≤30000
 b10:m.sub.length≤30000
 b11:m.body.length≤30000
theorem LtM.big {N:Nat} {m:Ltr} (h:LtM N m) (hN:N≤100000):LtB m:=
 ⟨by have:=h.b1;omega,by have:=h.b2;omega,by have:=h.b3;omega,by have:=h.b4;omega,fun a ha=>by have:=h.b5 a ha;omega,by have:=h.b6;omega,fun a ha=>by have:=h.b7 a ha;omega,by have:=h.b8;omega,fun a ha=>by have:=h.b9 a ha;omega,by have:=h.b10;omega,by have:=h.b11;omega⟩
theorem LtM.le {N M:Nat} {m:Ltr} (h:LtM N m) (hN:N≤M):LtM M m:=
 ⟨h.b1,h.b2,h.b3,zB h.b4 hN,h.b5,zB h.b6 hN,h.b7,zB h.b8 hN,h.b9,h.b10,h.b11⟩
section
variable {E:Envt}
theorem qqi (es:List (List PV)) (hn:es.length≤1000000):FCall Tryz.prog E 95 [.sl 2 es] tAdr 2 (·=es):=by
 unfold FCall
 refine qe1 mixed Tryz.func95 qcr ?_
 refine zV ?_
 intro b hb
 refine br ?_ ?_
 ·intro h
  have:=hb h
  refine zS ?_
  exact qiM 2 [] rfl rfl this.symm
 ·intro h
  refine zS ?_
  exact ⟨by omega,qiM 5 es rfl rfl rfl⟩
theorem qsK (l:List Int) (k:Nat) (m:Ltr) (hm:LtM 100 m) (hk:k≤900000) (hl:l.length≤9223372036854775807) :
  qfY Tryz.prog E 37 T (stm l k) [.agg (ltV m)] (fun x cs'=>∃ m' k',x=.agg (ltV m')∧LtM 300 m'∧cs'=stm l k'∧k'≤k+5):=by
 have hM:=hm.le (M:=300) (by omega)
 unfold qfY
 refine qim mixed Tryz.func37 qdB ?_
 refine zV ?_
 simp only [ltV,ZZ,WW,Ze,reduceCtorEq,zd,ze,za,zf,zb]
 refine useS (qdN l k 9 (by omega) hl (by decide)) rfl rfl rfl zE_ ?_
 rintro x cs' ⟨y,rfl,rfl⟩
 generalize qeM y 9=c
 refine zS ?_
 refine br ?_ ?_
 ·intro _
  refine zS ?_
  refine use1 (qdc [105] 80 (by omega) (by simp)) rfl (.inl rfl) ?_
  have g0:(Lib.repeatL [105] 80).length=80:=by rw [Lib.repeatL_length];rfl
  generalize Lib.repeatL [105] 80=r0 at g0 ⊢
  refine zS ?_
  refine use1 (qdc [105] 81 (by omega) (by simp)) rfl (.inl rfl) ?_
  have g1:(Lib.repeatL [105] 81).length=81:=by rw [Lib.repeatL_length];rfl
  generalize Lib.repeatL [105] 81=r1 at g1 ⊢
  refine zS ?_
  refine useS (qbW l (k+1) [[],[97,32,98],[60,120,62],r0,r1] (by omega) hl (by simp) (by simp)) rfl rfl rfl zE_ ?_
  rintro x cs' ⟨u,rfl,hu,rfl⟩
  have hu:u.length≤30000:=by simp only [zo,zu,or_false] at hu;rcases hu with rfl|rfl|rfl|rfl|rfl<;>first|omega|decide
  refine zS ?_
  refine qad zE_ ?_
  refine zS ?_
  exact qd0 (stm l (k+1+1)) rfl ⟨{ m with id:=u },_,rfl,⟨hu,hM.b2,hM.b3,hM.b4,hM.b5,hM.b6,hM.b7,hM.b8,hM.b9,hM.b10,hM.b11⟩,rfl,by omega⟩
 intro _
 refine zS ?_
 refine br ?_ ?_
 ·intro _
  refine zS ?_
  refine useS (qoL l (k+1) [-1,5761440] (by omega) hl (by simp) (by simp)) rfl rfl rfl zE_ ?_
  rintro x cs' ⟨u,rfl,hu,rfl⟩
  refine zS ?_
  refine qad zE_ ?_
  refine zS ?_
  exact qd0 (stm l (k+1+1)) rfl ⟨{ m with at_:=u },_,rfl,⟨hM.b1,hM.b2,hM.b3,hM.b4,hM.b5,hM.b6,hM.b7,hM.b8,hM.b9,hM.b10,hM.b11⟩,rfl,by omega⟩
 intro _
 refine zS ?_
 refine br ?_ ?_
 ·intro _
  refine zS ?_
  refine useS (qbW l (k+1) [[],[97,110,110],[65,110,110,64,98,46,100,101]] (by omega) hl (by simp) (by simp)) rfl rfl rfl zE_ ?_
  rintro x cs' ⟨u,rfl,hu,rfl⟩
  have hu:u.length≤30000:=by simp only [zo,zu,or_false] at hu;rcases hu with rfl|rfl|rfl<;>first|omega|decide
  refine zS ?_
  refine qad zE_ ?_
  refine zS ?_
  exact qd0 (stm l (k+1+1)) rfl ⟨{ m with fr:=(m.fr.1,u) },_,rfl,⟨hM.b1,hM.b2,hu,hM.b4,hM.b5,hM.b6,hM.b7,hM.b8,hM.b9,hM.b10,hM.b11⟩,rfl,by omega⟩
 intro _
 refine zS ?_
 refine br ?_ ?_
 ·intro _
  refine zS ?_
  refine use1 (qdc [110] 61 (by omega) (by simp)) rfl (.inl rfl) ?_
  have g0:(Lib.repeatL [110] 61).length=61:=by rw [Lib.repeatL_length];rfl
  generalize Lib.repeatL [110] 61=r0 at g0 ⊢
  refine zS ?_
  refine useS (qbW l (k+1) [[32,120],[97,32,32,98],[97,34,98],r0] (by omega) hl (by simp) (by simp)) rfl rfl rfl zE_ ?_
  rintro x cs' ⟨u,rfl,hu,rfl⟩
  have hu:u.length≤30000:=by simp only [zo,zu,or_false] at hu;rcases hu with rfl|rfl|rfl|rfl<;>first|omega|decide
  refine zS ?_
  refine qad zE_ ?_
  refine zS ?_
  exact qd0 (stm l (k+1+1)) rfl ⟨{ m with fr:=(u,m.fr.2) },_,rfl,⟨hM.b1,hu,hM.b3,hM.b4,hM.b5,hM.b6,hM.b7,hM.b8,hM.b9,hM.b10,hM.b11⟩,rfl,by omega⟩
 intro _
 refine zS ?_
 refine br ?_ ?_
 ·intro _
  refine zS ?_
  refine useF (qqi (adrE m.tos) (by rw [qaE];have:=hm.b4;omega)) rfl rfl ?_
  rintro es rfl
  refine zS ?_
  refine useS (qbW l (k+1) [[97,110,110,64,102,105,114,109,46,100,101],[98,111,64,102,105,114,109,46,100,101],[]] (by omega) hl (by simp) (by simp)) rfl rfl rfl zE_ ?_
  rintro x cs' ⟨u,rfl,hu,rfl⟩
  have hu:u.length≤30000:=by simp only [zo,zu,or_false] at hu;rcases hu with rfl|rfl|rfl<;>first|omega|decide
  refine zS ?_
  have g4:=hm.b4
  refine ⟨by rw [qaE];omega,?_⟩
  refine qul _ _ (qil (k:=.l 47) rfl) ?_
  refine zS ?_
  exact qd0 (stm l (k+1+1)) rfl ⟨{ m with tos:=m.tos++[([],u)] },_,by simp only [ltV,adrE,zG];rfl,⟨hM.b1,hM.b2,hM.b3,(by simp;omega),(fun a ha=>by rcases zr.1 ha with ha|ha;exact hM.b5 a ha;rw [zD] at ha;subst ha;exact ⟨by simp,hu⟩),hM.b6,hM.b7,hM.b8,hM.b9,hM.b10,hM.b11⟩,rfl,by omega⟩
 intro _
 refine zS ?_
 refine br ?_ ?_
 ·intro _
  refine zS ?_
  refine drg1 (x1:=.sl 1 (strE m.refs)) ?_
  refine zS ?_
  have g8:=hm.b8
  refine ⟨qzs (qjW (strE m.refs) (by rw [qac];omega)),?_⟩
  refine useD (qbW l (k+1) [m.id,[103,111,110,101,49],[103,111,110,101,49],[]] (by omega) hl (by simp) (by simp)) ⟨_,_,m.id,rfl,by simp,rfl⟩ rfl rfl rfl zE_ (fun _=>⟨0,rfl⟩) ?_
  rintro x cs' ⟨u,rfl,hu,rfl⟩
  have hu:u.length≤30000:=by simp only [zo,zu,or_false] at hu;rcases hu with rfl|rfl|rfl|rfl<;>first|exact hM.b1|decide
  refine zS ?_
  refine ⟨by rw [qac];omega,?_⟩
  refine qul _ _ (qil (k:=.l 59) rfl) ?_
  refine zS ?_
  exact qd0 (stm l (k+1+1)) rfl ⟨{ m with refs:=m.refs++[u] },_,by simp only [ltV,qdO];rfl,⟨hM.b1,hM.b2,hM.b3,hM.b4,hM.b5,hM.b6,hM.b7,(by simp;have:=hm.b8;omega),(fun a ha=>by rcases zr.1 ha with ha|ha;exact hM.b9 a ha;rw [zD] at ha;subst ha;exact hu),hM.b10,hM.b11⟩,rfl,by omega⟩
 intro _
 refine zS ?_
 refine br ?_ ?_
 ·intro _
  refine zS ?_
  refine use1 (qdc [115] 200 (by omega) (by simp)) rfl (.inl rfl) ?_
  have g0:(Lib.repeatL [115] 200).length=200:=by rw [Lib.repeatL_length];rfl
  generalize Lib.repeatL [115] 200=r0 at g0 ⊢
  refine zS ?_
  refine use1 (qdc [115] 201 (by omega) (by simp)) rfl (.inl rfl) ?_
  have g1:(Lib.repeatL [115] 201).length=201:=by rw [Lib.repeatL_length];rfl
  generalize Lib.repeatL [115] 201=r1 at g1 ⊢
  refine zS ?_
  refine useS (qbW l (k+1) [[32,120],[97,32,32,98],r0,r1,[97,9,98]] (by omega) hl (by simp) (by simp)) rfl rfl rfl zE_ ?_
  rintro x cs' ⟨u,rfl,hu,rfl⟩
  have hu:u.length≤30000:=by simp only [zo,zu,or_false] at hu;rcases hu with rfl|rfl|rfl|rfl|rfl<;>first|omega|decide
  refine zS ?_
  refine qad zE_ ?_
  refine zS ?_
  exact qd0 (stm l (k+1+1)) rfl ⟨{ m with sub:=u },_,rfl,⟨hM.b1,hM.b2,hM.b3,hM.b4,hM.b5,hM.b6,hM.b7,hM.b8,hM.b9,hu,hM.b11⟩,rfl,by omega⟩
 intro _
 refine zS ?_
 refine br ?_ ?_
 ·intro _
  refine zS ?_
  refine use1 (qdc [98] 20000 (by omega) (by simp)) rfl (.inl rfl) ?_
  have g0:(Lib.repeatL [98] 20000).length=20000:=by rw [Lib.repeatL_length];rfl
  generalize Lib.repeatL [98] 20000=r0 at g0 ⊢
  refine zS ?_
  refine ⟨by simp [g0],?_⟩
  refine useS (qbW l (k+1) [[120],[97,9,98,10],[255,10],r0++[10]] (by omega) hl (by simp) (by simp)) rfl rfl rfl zE_ ?_
  rintro x cs' ⟨u,rfl,hu,rfl⟩
  have hu:u.length≤30000:=by simp only [zo,zu,or_false] at hu;rcases hu with rfl|rfl|rfl|rfl<;>first|decide|(rw [zq,g0];decide)
  refine zS ?_
  refine qad zE_ ?_
  refine zS ?_
  exact qd0 (stm l (k+1+1)) rfl ⟨{ m with body:=u },_,rfl,⟨hM.b1,hM.b2,hM.b3,hM.b4,hM.b5,hM.b6,hM.b7,hM.b8,hM.b9,hM.b10,hu⟩,rfl,by omega⟩
 intro _
 refine zS ?_
 refine drg1 (x1:=.sl 2 (adrE m.ccs)) ?_
 refine zS ?_
 have g4:=hm.b4
 have g6:=hm.b6
 refine ⟨qzs (qqi (adrE m.ccs) (by rw [qaE];omega)),?_⟩
 refine ⟨by rw [qaE,qaE];omega,?_⟩
 refine qul _ _ (qil (k:=.l 9) rfl) ?_
 refine zS ?_
 exact qd0 (stm l (k+1)) rfl ⟨{ m with ccs:=m.ccs++m.tos },_,by simp only [ltV,adrE,zG],⟨hM.b1,hM.b2,hM.b3,hM.b4,hM.b5,(by simp;have:=hm.b4;have:=hm.b6;omega),(fun a ha=>(zr.1 ha).elim (hM.b7 a) (hM.b5 a)),hM.b8,hM.b9,hM.b10,hM.b11⟩,rfl,by omega⟩
end
def qbN:IC:=(sR [qT 62 .lss 61 60] (.seq (.cond (.t 62) .skip (.exit 2)) (.seq (.block 3 (sR [qM 63 0,qO 64 (.bsr 9 1 [.c (.str [103,111,110,101,49]),.c (.str [103,111,110,101,50])]),qM 65 3,qO 66 (.app 9 1 16 (.t 64) (.t 65)),⟨none,.fz (.t 66),none⟩,jC 67 30 [.t 63,.t 66],qM 12 67] (sR [qM 68 12,qM 69 1,qT 70 .neq 68 69,qM 71 70,⟨some 72,.fla 6 (.t 9),(some (71,true))⟩,⟨some 73,.ld 1 false (.t 72),(some (71,true))⟩,⟨some 74,.mov (.t 12),(some (71,true))⟩,⟨some 75,.call 58 [.t 73,.t 74],(some (71,true))⟩,⟨some 76,.not (.t 75),(some (71,true))⟩,qO 77 (.pick (.t 71) (.t 76) (.c (.bool false)))] (jW 77 (.reg [wF 78 6 9,qL 79 78,qM 80 12,⟨none,.fz (.t 80),none⟩,qO 81 (.bsl 1 [.t 80]),qO 82 (.app 9 1 16 (.t 79) (.t 81)),wF 83 6 9,qS 1 83 82]))))) (.cut (.reg [qB 84 .add 61 (cI 1),qM 61 84])))))
def qbO:IC:=(sR [qT 31 .lss 30 29] (.seq (jE 31) (.seq (.block 1 (sR [qM 32 0,jC 33 160 [],jC 34 30 [.t 32,.t 33],⟨none,.fz (.t 34),none⟩,qO 35 (.bld [.str [],.str []] [(1,1,.t 34)]),qO 11 (.alc 42 [.str [],.str []]),qS 2 11 35] (.seq (sR [qM 36 10,wF 37 1 11,qL 38 37,qO 39 (.mpl false (.bool false) (.t 36) (.t 38))] (jW 39 (.exit 1))) (sR [qM 40 10,wF 41 1 11,qL 42 41,⟨none,.mpu (.t 40) (.t 42) (.c (.bool true)),none⟩] (sR [qM 43 0,jC 44 28 [.t 43,.c (.int .i64 3)]] (.cond (.t 44) (.reg [wF 45 5 9,qL 46 45,qO 47 (.ld 2 true (.t 11)),qO 48 (.bsl 2 [.t 47]),qO 49 (.app 42 2 32 (.t 46) (.t 48)),wF 50 5 9,qS 1 50 49]) (.reg [wF 51 4 9,qL 52 51,qO 53 (.ld 2 true (.t 11)),qO 54 (.bsl 2 [.t 53]),qO 55 (.app 42 2 32 (.t 52) (.t 54)),wF 56 4 9,qS 1 56 55]))))))) (.cut (.reg [qB 57 .add 30 (cI 1),qM 30 57])))))
abbrev qeE:IC:=(sR [qO 8 (.alc 45 [.str [],.int .i64 0,.str [],.str [],.nl 2,.nl 2,.nl 1,.str [],.str []])] (sR [qM 13 1,qM 14 2,qM 15 0,jC 16 160 [],jC 17 30 [.t 15,.t 16],⟨none,.fz (.t 17),none⟩,qO 18 (.bld [.str [],.str []] [(1,1,.t 17)]),qM 19 0,jC 20 161 [.t 19],⟨none,.fz (.t 20),none⟩,qO 21 (.bld [.str [],.int .i64 0,.str [],.str [],.nl 2,.nl 2,.nl 1,.str [],.str []] [(0,1,.t 13),(1,1,.t 14),(2,2,.t 18),(8,1,.t 20)]),qO 9 (.alc 45 [.str [],.int .i64 0,.str [],.str [],.nl 2,.nl 2,.nl 1,.str [],.str []]),qS 9 9 21] (sR [qM 22 0,qO 23 (.bsl 1 [.c (.str []),.c (.str []),.c (.str [65,110,110,32,76,101,101]),.c (.str [195,137,97])]),jC 24 30 [.t 22,.t 23],wF 25 2 9,wF 26 0 25,qS 1 26 24] (sR [qO 27 (.mkm 9 4),qM 10 27] (.seq (sR [qM 28 0,jC 29 31 [.t 28,.c (.int .i64 0),.c (.int .i64 3)],jI 30 0] (.block 0 (.loop qbO))) (.seq (sR [qM 58 0,⟨none,.re,none⟩,qO 59 (.bsl 1 [.c (.int .i64 0),.c (.int .i64 0),.c (.int .i64 1),.c (.int .i64 1),.c (.int .i64 2)]),jC 60 26 [.t 58,.t 59],jI 61 0] (.block 2 (.loop qbN))) (sR [qM 85 0,⟨none,.re,none⟩,qO 86 (.bsl 1 [.c (.str []),.c (.str [76,117,110,99,104]),.c (.str [82,101,58,32,76,117,110,99,104]),.c (.str [82,69,58,32,70,119,100,58,32,108,117,110,99,104]),.c (.str [76,101,103,97,108,32,97,100,118,105,99,101]),.c (.str [82,101,58,32,108,101,103,97,108,32,32,97,100,118,105,99,101]),.c (.str [79,116,104,101,114])]),jC 87 30 [.t 85,.t 86],wF 88 7 9,qS 1 88 87] (sR [wF 89 7 9,qL 90 89,jC 91 162 [.t 90],jC 92 109 [.t 91,.c (.str [32])],wF 93 7 9,qS 1 93 92] (sR [qO 94 (.ld 9 true (.t 9)),qS 9 8 94] .ret)))))))))
theorem qeJ:chkF Tryz.prog Tryz.f94 qeE [.c 8 9 true] 95=true:=by kernel_rfl
def cT (q:Nat):List AdT→AV
 |[]=>.p (.nl 2)
 |_ :: _=>.row (.l q)
def oT (q:Nat):List AdT→Objs
 |[]=>[]
 |a :: r=>[(.l q,.row (adrE (a :: r)) tAdr 2 true)]
def pT:List AdT→PV
 |[]=>.nl 2
 |a :: r=>.sl 2 (adrE (a :: r))
abbrev qzw:Nat:=9
def cSt (q:Nat):List (List UInt8)→AV
 |[]=>.p (.nl 1)
 |_ :: _=>.row (.l q)
def oSt (q:Nat):List (List UInt8)→Objs
 |[]=>[]
 |a :: r=>[(.l q,.row (strE (a :: r)) qzw 1 true)]
def pSt:List (List UInt8)→PV
 |[]=>.nl 1
 |a :: r=>.sl 1 (strE (a :: r))
def nmA:List (List UInt8):=[[],[],[65,110,110,32,76,101,101],[195,137,97]]
theorem qyq:∀ s∈nmA,s.length≤30000:=by decide
def sjA:List (List UInt8):=[[],[76,117,110,99,104],[82,101,58,32,76,117,110,99,104],[82,69,58,32,70,119,100,58,32,108,117,110,99,104],[76,101,103,97,108,32,97,100,118,105,99,101],[82,101,58,32,108,101,103,97,108,32,32,97,100,118,105,99,101],[79,116,104,101,114]]
theorem qzF:∀ s∈sjA,s.length≤100∧s.all (fun b=>decide (b.toNat < 128))=true∧(Lib.fields s).length≤1000∧(Lib.join (Lib.fields s) [32]).length≤30000:=by decide +kernel
def gnA:List (List UInt8):=[[103,111,110,101,49],[103,111,110,101,50]]
set_option maxHeartbeats 4000000 in
set_option maxRecDepth 100000 in
theorem quR (l:List Int) (k:Nat) (id:List UInt8) (at_:Int) (ids:List (List UInt8)) (hid:id.length≤100) (hids:ids.length≤100) (hib:∀ s∈ids,s.length≤100) (hk:k≤800000) (hl:l.length≤9223372036854775807) :
  qfY Tryz.prog E6 94 T (stm l k) [.str id,int at_,.sl 1 (strE ids)] (fun x cs'=>∃ m k',x=.agg (ltV m)∧LtM 10 m∧cs'=stm l k'∧k'≤k+100):=by
 unfold qfY
 refine qim mixed Tryz.func94 qeJ ?_
 refine zV ?_
 refine use1 qha rfl (.inl rfl) ?_
 refine zS ?_
 refine useS (qbW l k peA (by omega) hl (by decide) (by decide)) rfl rfl rfl zE_ ?_
 rintro x cs' ⟨f,rfl,hf,rfl⟩
 have hf:=qlC f hf
 refine zS ?_
 refine useS (qy6 l (k+1) (by omega) hl) rfl rfl rfl zE_ ?_
 rintro x cs' ⟨bd,k1,rfl,hbd,rfl,hk1⟩
 refine zS ?_
 refine useS (qbW l k1 nmA (by omega) hl (by decide) (by decide)) rfl rfl rfl zE_ ?_
 rintro x cs' ⟨nm,rfl,hnm,rfl⟩
 have hnm:=qyq nm hnm
 refine zS ?_
 refine useS (qjU l (k1+1) 0 3 (by omega) hl (by decide) (by decide) (by decide)) rfl rfl rfl zE_ ?_
 rintro x cs' ⟨z,rfl,hz0,hz3,rfl⟩
 refine zS ?_
 refine qae (fun n fr L=>∃ (i k':Nat) (W:List (List UInt8)) (kv:List (List UInt8×PV)) (ts cc:List AdT),i≤3∧n=3 - i∧k'≤k1+2+4 * i∧qkL kv W∧ts.length≤i∧cc.length≤i∧(∀ a∈ts,a.1.length≤30000∧a.2.length≤30000)∧(∀ a∈cc,a.1.length≤30000∧a.2.length≤30000)∧fr=(.adr (.b 0) 0::.p (.str id)::oo::.p (.sl 1 (strE ids))::oo::oo::oo::oo::.adr (.l 8) 0::.adr (.l 9) 0::.mp (.l 27)::oE (oB (.p (int z)::.p (int (i:Nat))::oG [])))∧L=([(.b 0,.box ((stm l (k')).map .p) T),(.l 8,.box [.p (.str []),.p (int 0),.p (.str []),.p (.str []),.p (.nl 2),.p (.nl 2),.p (.nl 1),.p (.str []),.p (.str [])] qa4),(.l 9,.box [.p (.str id),.p (int at_),.p (.str nm),.p (.str f),cT 55 (ts),cT 49 (cc),.p (.nl 1),.p (.str []),.p (.str bd)] qa4),(.l 27,.map (kv) 9 4)]++(oT 55 (ts)++oT 49 (cc)))) 3 _ ([(.b 0,.box ((stm l (k1+1+1)).map .p) T),(.l 8,.box [.p (.str []),.p (int 0),.p (.str []),.p (.str []),.p (.nl 2),.p (.nl 2),.p (.nl 1),.p (.str []),.p (.str [])] qa4),(.l 9,.box [.p (.str id),.p (int at_),.p (.str nm),.p (.str f),cT 55 ([]),cT 49 ([]),.p (.nl 1),.p (.str []),.p (.str bd)] qa4),(.l 27,.map ([]) 9 4)]++(oT 55 ([])++oT 49 ([]))) zF_ (by simp only [ZZ,WW,Ze,reduceCtorEq,zd,ze,za,zf,zb,cT,oT]) ⟨0,k1+1+1,[],[],[],[],by omega,by omega,by omega,qg5,by simp,by simp,by simp,by simp,rfl,rfl⟩ ?_
 rintro n fr L ⟨i,k',W,kv,ts,cc,hi3,rfl,hk',hkv,ht1,hc1,ht2,hc2,rfl,rfl⟩
 simp only [qbO,ZZ,WW,Ze,reduceCtorEq,zd,ze,za,zf,zb]
 refine br ?_ ?_
 ·intro h
  have hlt:(i:Int) < z:=of_decide_eq_true h
  rcases ts with _|⟨t0,tr⟩<;>rcases cc with _|⟨c0,cr⟩
  ·simp only [cT,oT,ZZ,WW,Ze,reduceCtorEq,zd,ze,za,zf,zb]
   refine use1 qha rfl (.inl rfl) ?_
   refine zS ?_
   refine useS (qbW l k' peA (by omega) hl (by decide) (by decide)) rfl rfl rfl zE_ ?_
   rintro x cs' ⟨g,rfl,hg,rfl⟩
   have hg:=qlC g hg
   simp only [ZZ,WW,Ze,reduceCtorEq,zd,ze,za,zf,zb,hkv g]
   refine br ?_ ?_
   ·intro _
    refine zS ?_
    refine qad zE_ ?_
    refine zS ?_
    refine ⟨qam (by omega) (by omega),qab (3 - (i+1)) _ ([(.b 0,.box ((stm l (k'+1)).map .p) T),(.l 8,.box [.p (.str []),.p (int 0),.p (.str []),.p (.str []),.p (.nl 2),.p (.nl 2),.p (.nl 1),.p (.str []),.p (.str [])] qa4),(.l 9,.box [.p (.str id),.p (int at_),.p (.str nm),.p (.str f),cT 55 ([]),cT 49 ([]),.p (.nl 1),.p (.str []),.p (.str bd)] qa4),(.l 27,.map (kv) 9 4)]++(oT 55 ([])++oT 49 ([]))) (by omega) zF_ (by simp only [ZZ,WW,Ze,reduceCtorEq,zd,ze,za,zf,zb,cT,oT,adrE,adC,zG]) ⟨i+1,k'+1,W,kv,[],[],by omega,rfl,by omega,hkv,(by simp only [zq,zn,zx] at *;omega),(by simp only [zq,zn,zx] at *;omega),ht2,hc2,rfl,rfl⟩⟩
   intro _
   refine zS ?_
   refine useS (qgs l (k'+1) 3 (by omega) hl (by decide)) rfl rfl rfl zE_ ?_
   rintro x cs' ⟨b,rfl,rfl⟩
   refine zS ?_
   refine br ?_ ?_
   ·intro _
    simp only [ZZ,WW,Ze,reduceCtorEq,zd,ze,za,zf,zb,qaE,zn]
    refine qad zE_ ?_
    refine zS ?_
    refine ⟨qam (by omega) (by omega),qab (3 - (i+1)) _ ([(.b 0,.box ((stm l (k'+1+1)).map .p) T),(.l 8,.box [.p (.str []),.p (int 0),.p (.str []),.p (.str []),.p (.nl 2),.p (.nl 2),.p (.nl 1),.p (.str []),.p (.str [])] qa4),(.l 9,.box [.p (.str id),.p (int at_),.p (.str nm),.p (.str f),cT 55 ([]),cT 49 (([])++[([],g)]),.p (.nl 1),.p (.str []),.p (.str bd)] qa4),(.l 27,.map (mpS kv g (.bool true)) 9 4)]++(oT 55 ([])++oT 49 (([])++[([],g)]))) (by omega) zF_ (by simp only [ZZ,WW,Ze,reduceCtorEq,zd,ze,za,zf,zb,cT,oT,adrE,adC,zG]) ⟨i+1,k'+1+1,W++[g],mpS kv g (.bool true),[],([])++[([],g)],by omega,rfl,by omega,qbf hkv g,(by simp only [zq,zn,zx] at *;omega),(by simp only [zq,zn,zx] at *;omega),ht2,(fun a ha=>by rcases zr.1 ha with ha|ha;exact hc2 a ha;rw [zD] at ha;subst ha;exact ⟨by simp,show g.length≤30000 by omega⟩),rfl,rfl⟩⟩
   ·intro _
    simp only [ZZ,WW,Ze,reduceCtorEq,zd,ze,za,zf,zb,qaE,zn]
    refine qad zE_ ?_
    refine zS ?_
    refine ⟨qam (by omega) (by omega),qab (3 - (i+1)) _ ([(.b 0,.box ((stm l (k'+1+1)).map .p) T),(.l 8,.box [.p (.str []),.p (int 0),.p (.str []),.p (.str []),.p (.nl 2),.p (.nl 2),.p (.nl 1),.p (.str []),.p (.str [])] qa4),(.l 9,.box [.p (.str id),.p (int at_),.p (.str nm),.p (.str f),cT 55 (([])++[([],g)]),cT 49 ([]),.p (.nl 1),.p (.str []),.p (.str bd)] qa4),(.l 27,.map (mpS kv g (.bool true)) 9 4)]++(oT 55 (([])++[([],g)])++oT 49 ([]))) (by omega) zF_ (by simp only [ZZ,WW,Ze,reduceCtorEq,zd,ze,za,zf,zb,cT,oT,adrE,adC,zG]) ⟨i+1,k'+1+1,W++[g],mpS kv g (.bool true),([])++[([],g)],[],by omega,rfl,by omega,qbf hkv g,(by simp only [zq,zn,zx] at *;omega),(by simp only [zq,zn,zx] at *;omega),(fun a ha=>by rcases zr.1 ha with ha|ha;exact ht2 a ha;rw [zD] at ha;subst ha;exact ⟨by simp,show g.length≤30000 by omega⟩),hc2,rfl,rfl⟩⟩
  ·simp only [cT,oT,ZZ,WW,Ze,reduceCtorEq,zd,ze,za,zf,zb]
   simp only [zn] at hc1
   refine use1 qha rfl (.inl rfl) ?_
   refine zS ?_
   refine useS (qbW l k' peA (by omega) hl (by decide) (by decide)) rfl rfl rfl zE_ ?_
   rintro x cs' ⟨g,rfl,hg,rfl⟩
   have hg:=qlC g hg
   simp only [ZZ,WW,Ze,reduceCtorEq,zd,ze,za,zf,zb,hkv g]
   refine br ?_ ?_
   ·intro _
    refine zS ?_
    refine qad zE_ ?_
    refine zS ?_
    refine ⟨qam (by omega) (by omega),qab (3 - (i+1)) _ ([(.b 0,.box ((stm l (k'+1)).map .p) T),(.l 8,.box [.p (.str []),.p (int 0),.p (.str []),.p (.str []),.p (.nl 2),.p (.nl 2),.p (.nl 1),.p (.str []),.p (.str [])] qa4),(.l 9,.box [.p (.str id),.p (int at_),.p (.str nm),.p (.str f),cT 55 ([]),cT 49 (c0 :: cr),.p (.nl 1),.p (.str []),.p (.str bd)] qa4),(.l 27,.map (kv) 9 4)]++(oT 55 ([])++oT 49 (c0 :: cr))) (by omega) zF_ (by simp only [ZZ,WW,Ze,reduceCtorEq,zd,ze,za,zf,zb,cT,oT,adrE,adC,zG]) ⟨i+1,k'+1,W,kv,[],c0 :: cr,by omega,rfl,by omega,hkv,(by simp only [zq,zn,zx] at *;omega),(by simp only [zq,zn,zx] at *;omega),ht2,hc2,rfl,rfl⟩⟩
   intro _
   refine zS ?_
   refine useS (qgs l (k'+1) 3 (by omega) hl (by decide)) rfl rfl rfl zE_ ?_
   rintro x cs' ⟨b,rfl,rfl⟩
   refine zS ?_
   refine br ?_ ?_
   ·intro _
    simp only [ZZ,WW,Ze,reduceCtorEq,zd,ze,za,zf,zb,qaE,zn]
    ((with_reducible and_intros)<;>try exact sc_)
    refine qad zE_ ?_
    refine zS ?_
    refine ⟨qam (by omega) (by omega),qab (3 - (i+1)) _ ([(.b 0,.box ((stm l (k'+1+1)).map .p) T),(.l 8,.box [.p (.str []),.p (int 0),.p (.str []),.p (.str []),.p (.nl 2),.p (.nl 2),.p (.nl 1),.p (.str []),.p (.str [])] qa4),(.l 9,.box [.p (.str id),.p (int at_),.p (.str nm),.p (.str f),cT 55 ([]),cT 49 ((c0 :: cr)++[([],g)]),.p (.nl 1),.p (.str []),.p (.str bd)] qa4),(.l 27,.map (mpS kv g (.bool true)) 9 4)]++(oT 55 ([])++oT 49 ((c0 :: cr)++[([],g)]))) (by omega) zF_ (by simp only [ZZ,WW,Ze,reduceCtorEq,zd,ze,za,zf,zb,cT,oT,adrE,adC,zG]) ⟨i+1,k'+1+1,W++[g],mpS kv g (.bool true),[],(c0 :: cr)++[([],g)],by omega,rfl,by omega,qbf hkv g,(by simp only [zq,zn,zx] at *;omega),(by simp only [zq,zn,zx] at *;omega),ht2,(fun a ha=>by rcases zr.1 ha with ha|ha;exact hc2 a ha;rw [zD] at ha;subst ha;exact ⟨by simp,show g.length≤30000 by omega⟩),rfl,rfl⟩⟩
   ·intro _
    simp only [ZZ,WW,Ze,reduceCtorEq,zd,ze,za,zf,zb,qaE,zn]
    refine qad zE_ ?_
    refine zS ?_
    refine ⟨qam (by omega) (by omega),qab (3 - (i+1)) _ ([(.b 0,.box ((stm l (k'+1+1)).map .p) T),(.l 8,.box [.p (.str []),.p (int 0),.p (.str []),.p (.str []),.p (.nl 2),.p (.nl 2),.p (.nl 1),.p (.str []),.p (.str [])] qa4),(.l 9,.box [.p (.str id),.p (int at_),.p (.str nm),.p (.str f),cT 55 (([])++[([],g)]),cT 49 (c0 :: cr),.p (.nl 1),.p (.str []),.p (.str bd)] qa4),(.l 27,.map (mpS kv g (.bool true)) 9 4)]++(oT 55 (([])++[([],g)])++oT 49 (c0 :: cr))) (by omega) zF_ (by simp only [ZZ,WW,Ze,reduceCtorEq,zd,ze,za,zf,zb,cT,oT,adrE,adC,zG]) ⟨i+1,k'+1+1,W++[g],mpS kv g (.bool true),([])++[([],g)],c0 :: cr,by omega,rfl,by omega,qbf hkv g,(by simp only [zq,zn,zx] at *;omega),(by simp only [zq,zn,zx] at *;omega),(fun a ha=>by rcases zr.1 ha with ha|ha;exact ht2 a ha;rw [zD] at ha;subst ha;exact ⟨by simp,show g.length≤30000 by omega⟩),hc2,rfl,rfl⟩⟩
  ·simp only [cT,oT,ZZ,WW,Ze,reduceCtorEq,zd,ze,za,zf,zb]
   simp only [zn] at ht1
   refine use1 qha rfl (.inl rfl) ?_
   refine zS ?_
   refine useS (qbW l k' peA (by omega) hl (by decide) (by decide)) rfl rfl rfl zE_ ?_
   rintro x cs' ⟨g,rfl,hg,rfl⟩
   have hg:=qlC g hg
   simp only [ZZ,WW,Ze,reduceCtorEq,zd,ze,za,zf,zb,hkv g]
   refine br ?_ ?_
   ·intro _
    refine zS ?_
    refine qad zE_ ?_
    refine zS ?_
    refine ⟨qam (by omega) (by omega),qab (3 - (i+1)) _ ([(.b 0,.box ((stm l (k'+1)).map .p) T),(.l 8,.box [.p (.str []),.p (int 0),.p (.str []),.p (.str []),.p (.nl 2),.p (.nl 2),.p (.nl 1),.p (.str []),.p (.str [])] qa4),(.l 9,.box [.p (.str id),.p (int at_),.p (.str nm),.p (.str f),cT 55 (t0 :: tr),cT 49 ([]),.p (.nl 1),.p (.str []),.p (.str bd)] qa4),(.l 27,.map (kv) 9 4)]++(oT 55 (t0 :: tr)++oT 49 ([]))) (by omega) zF_ (by simp only [ZZ,WW,Ze,reduceCtorEq,zd,ze,za,zf,zb,cT,oT,adrE,adC,zG]) ⟨i+1,k'+1,W,kv,t0 :: tr,[],by omega,rfl,by omega,hkv,(by simp only [zq,zn,zx] at *;omega),(by simp only [zq,zn,zx] at *;omega),ht2,hc2,rfl,rfl⟩⟩
   intro _
   refine zS ?_
   refine useS (qgs l (k'+1) 3 (by omega) hl (by decide)) rfl rfl rfl zE_ ?_
   rintro x cs' ⟨b,rfl,rfl⟩
   refine zS ?_
   refine br ?_ ?_
   ·intro _
    simp only [ZZ,WW,Ze,reduceCtorEq,zd,ze,za,zf,zb,qaE,zn]
    refine qad zE_ ?_
    refine zS ?_
    refine ⟨qam (by omega) (by omega),qab (3 - (i+1)) _ ([(.b 0,.box ((stm l (k'+1+1)).map .p) T),(.l 8,.box [.p (.str []),.p (int 0),.p (.str []),.p (.str []),.p (.nl 2),.p (.nl 2),.p (.nl 1),.p (.str []),.p (.str [])] qa4),(.l 9,.box [.p (.str id),.p (int at_),.p (.str nm),.p (.str f),cT 55 (t0 :: tr),cT 49 (([])++[([],g)]),.p (.nl 1),.p (.str []),.p (.str bd)] qa4),(.l 27,.map (mpS kv g (.bool true)) 9 4)]++(oT 55 (t0 :: tr)++oT 49 (([])++[([],g)]))) (by omega) zF_ (by simp only [ZZ,WW,Ze,reduceCtorEq,zd,ze,za,zf,zb,cT,oT,adrE,adC,zG]) ⟨i+1,k'+1+1,W++[g],mpS kv g (.bool true),t0 :: tr,([])++[([],g)],by omega,rfl,by omega,qbf hkv g,(by simp only [zq,zn,zx] at *;omega),(by simp only [zq,zn,zx] at *;omega),ht2,(fun a ha=>by rcases zr.1 ha with ha|ha;exact hc2 a ha;rw [zD] at ha;subst ha;exact ⟨by simp,show g.length≤30000 by omega⟩),rfl,rfl⟩⟩
   ·intro _
    simp only [ZZ,WW,Ze,reduceCtorEq,zd,ze,za,zf,zb,qaE,zn]
    ((with_reducible and_intros)<;>try exact sc_)
    refine qad zE_ ?_
    refine zS ?_
    refine ⟨qam (by omega) (by omega),qab (3 - (i+1)) _ ([(.b 0,.box ((stm l (k'+1+1)).map .p) T),(.l 8,.box [.p (.str []),.p (int 0),.p (.str []),.p (.str []),.p (.nl 2),.p (.nl 2),.p (.nl 1),.p (.str []),.p (.str [])] qa4),(.l 9,.box [.p (.str id),.p (int at_),.p (.str nm),.p (.str f),cT 55 ((t0 :: tr)++[([],g)]),cT 49 ([]),.p (.nl 1),.p (.str []),.p (.str bd)] qa4),(.l 27,.map (mpS kv g (.bool true)) 9 4)]++(oT 55 ((t0 :: tr)++[([],g)])++oT 49 ([]))) (by omega) zF_ (by simp only [ZZ,WW,Ze,reduceCtorEq,zd,ze,za,zf,zb,cT,oT,adrE,adC,zG]) ⟨i+1,k'+1+1,W++[g],mpS kv g (.bool true),(t0 :: tr)++[([],g)],[],by omega,rfl,by omega,qbf hkv g,(by simp only [zq,zn,zx] at *;omega),(by simp only [zq,zn,zx] at *;omega),(fun a ha=>by rcases zr.1 ha with ha|ha;exact ht2 a ha;rw [zD] at ha;subst ha;exact ⟨by simp,show g.length≤30000 by omega⟩),hc2,rfl,rfl⟩⟩
  ·simp only [cT,oT,ZZ,WW,Ze,reduceCtorEq,zd,ze,za,zf,zb]
   simp only [zn] at ht1
   simp only [zn] at hc1
   refine use1 qha rfl (.inl rfl) ?_
   refine zS ?_
   refine useS (qbW l k' peA (by omega) hl (by decide) (by decide)) rfl rfl rfl zE_ ?_
   rintro x cs' ⟨g,rfl,hg,rfl⟩
   have hg:=qlC g hg
   simp only [ZZ,WW,Ze,reduceCtorEq,zd,ze,za,zf,zb,hkv g]
   refine br ?_ ?_
   ·intro _
    refine zS ?_
    refine qad zE_ ?_
    refine zS ?_
    refine ⟨qam (by omega) (by omega),qab (3 - (i+1)) _ ([(.b 0,.box ((stm l (k'+1)).map .p) T),(.l 8,.box [.p (.str []),.p (int 0),.p (.str []),.p (.str []),.p (.nl 2),.p (.nl 2),.p (.nl 1),.p (.str []),.p (.str [])] qa4),(.l 9,.box [.p (.str id),.p (int at_),.p (.str nm),.p (.str f),cT 55 (t0 :: tr),cT 49 (c0 :: cr),.p (.nl 1),.p (.str []),.p (.str bd)] qa4),(.l 27,.map (kv) 9 4)]++(oT 55 (t0 :: tr)++oT 49 (c0 :: cr))) (by omega) zF_ (by simp only [ZZ,WW,Ze,reduceCtorEq,zd,ze,za,zf,zb,cT,oT,adrE,adC,zG]) ⟨i+1,k'+1,W,kv,t0 :: tr,c0 :: cr,by omega,rfl,by omega,hkv,(by simp only [zq,zn,zx] at *;omega),(by simp only [zq,zn,zx] at *;omega),ht2,hc2,rfl,rfl⟩⟩
   intro _
   refine zS ?_
   refine useS (qgs l (k'+1) 3 (by omega) hl (by decide)) rfl rfl rfl zE_ ?_
   rintro x cs' ⟨b,rfl,rfl⟩
   refine zS ?_
   refine br ?_ ?_
   ·intro _
    simp only [ZZ,WW,Ze,reduceCtorEq,zd,ze,za,zf,zb,qaE,zn]
    ((with_reducible and_intros)<;>try exact sc_)
    refine qad zE_ ?_
    refine zS ?_
    refine ⟨qam (by omega) (by omega),qab (3 - (i+1)) _ ([(.b 0,.box ((stm l (k'+1+1)).map .p) T),(.l 8,.box [.p (.str []),.p (int 0),.p (.str []),.p (.str []),.p (.nl 2),.p (.nl 2),.p (.nl 1),.p (.str []),.p (.str [])] qa4),(.l 9,.box [.p (.str id),.p (int at_),.p (.str nm),.p (.str f),cT 55 (t0 :: tr),cT 49 ((c0 :: cr)++[([],g)]),.p (.nl 1),.p (.str []),.p (.str bd)] qa4),(.l 27,.map (mpS kv g (.bool true)) 9 4)]++(oT 55 (t0 :: tr)++oT 49 ((c0 :: cr)++[([],g)]))) (by omega) zF_ (by simp only [ZZ,WW,Ze,reduceCtorEq,zd,ze,za,zf,zb,cT,oT,adrE,adC,zG]) ⟨i+1,k'+1+1,W++[g],mpS kv g (.bool true),t0 :: tr,(c0 :: cr)++[([],g)],by omega,rfl,by omega,qbf hkv g,(by simp only [zq,zn,zx] at *;omega),(by simp only [zq,zn,zx] at *;omega),ht2,(fun a ha=>by rcases zr.1 ha with ha|ha;exact hc2 a ha;rw [zD] at ha;subst ha;exact ⟨by simp,show g.length≤30000 by omega⟩),rfl,rfl⟩⟩
   ·intro _
    simp only [ZZ,WW,Ze,reduceCtorEq,zd,ze,za,zf,zb,qaE,zn]
    ((with_reducible and_intros)<;>try exact sc_)
    refine qad zE_ ?_
    refine zS ?_
    refine ⟨qam (by omega) (by omega),qab (3 - (i+1)) _ ([(.b 0,.box ((stm l (k'+1+1)).map .p) T),(.l 8,.box [.p (.str []),.p (int 0),.p (.str []),.p (.str []),.p (.nl 2),.p (.nl 2),.p (.nl 1),.p (.str []),.p (.str [])] qa4),(.l 9,.box [.p (.str id),.p (int at_),.p (.str nm),.p (.str f),cT 55 ((t0 :: tr)++[([],g)]),cT 49 (c0 :: cr),.p (.nl 1),.p (.str []),.p (.str bd)] qa4),(.l 27,.map (mpS kv g (.bool true)) 9 4)]++(oT 55 ((t0 :: tr)++[([],g)])++oT 49 (c0 :: cr))) (by omega) zF_ (by simp only [ZZ,WW,Ze,reduceCtorEq,zd,ze,za,zf,zb,cT,oT,adrE,adC,zG]) ⟨i+1,k'+1+1,W++[g],mpS kv g (.bool true),(t0 :: tr)++[([],g)],c0 :: cr,by omega,rfl,by omega,qbf hkv g,(by simp only [zq,zn,zx] at *;omega),(by simp only [zq,zn,zx] at *;omega),(fun a ha=>by rcases zr.1 ha with ha|ha;exact ht2 a ha;rw [zD] at ha;subst ha;exact ⟨by simp,show g.length≤30000 by omega⟩),hc2,rfl,rfl⟩⟩
 intro h
 clear h hkv
 refine zS ?_
 rw [qm9]
 refine ⟨(.adr (.b 0) 0::.p (.str id)::oo::.p (.sl 1 (strE ids))::oo::oo::oo::oo::.adr (.l 8) 0::.adr (.l 9) 0::oF (oE (.adr (.b 0) 0::oF (oC [])))),[(.b 0,.box ((stm l (k')).map .p) T),(.l 8,.box [.p (.str []),.p (int 0),.p (.str []),.p (.str []),.p (.nl 2),.p (.nl 2),.p (.nl 1),.p (.str []),.p (.str [])] qa4),(.l 9,.box [.p (.str id),.p (int at_),.p (.str nm),.p (.str f),.p (pT ts),.p (pT cc),.p (.nl 1),.p (.str []),.p (.str bd)] qa4)],?_,?_⟩
 ·rcases ts with _|⟨t0,tr⟩<;>rcases cc with _|⟨c0,cr⟩
  ·exact qer zF_ (by simp only [ZZ,WW,Ze,reduceCtorEq,zd,ze,za,zf,zb,cT,oT,pT])
  ·exact ReOk.trans (qil (k:=.l 49) rfl) (by simp only [ZZ,WW,Ze,reduceCtorEq,zd,ze,za,zf,zb,cT,oT];exact qer zF_ (by simp only [ZZ,WW,Ze,reduceCtorEq,zd,ze,za,zf,zb,pT]))
  ·exact ReOk.trans (qil (k:=.l 55) rfl) (by simp only [ZZ,WW,Ze,reduceCtorEq,zd,ze,za,zf,zb,cT,oT];exact qer zF_ (by simp only [ZZ,WW,Ze,reduceCtorEq,zd,ze,za,zf,zb,pT]))
  ·exact ReOk.trans (qil (k:=.l 55) rfl) (by simp only [ZZ,WW,Ze,reduceCtorEq,zd,ze,za,zf,zb,cT,oT];exact ReOk.trans (qil (k:=.l 49) rfl) (by simp only [ZZ,WW,Ze,reduceCtorEq,zd,ze,za,zf,zb];exact qer zF_ (by simp only [ZZ,WW,Ze,reduceCtorEq,zd,ze,za,zf,zb,pT])))
 refine zS ?_
 refine useS (qoL l k' [0,0,1,1,2] (by omega) hl (by simp) (by simp)) rfl rfl rfl zE_ ?_
 rintro x cs' ⟨y,rfl,hy,rfl⟩
 have hy:0≤y∧y≤2:=by simp at hy;omega
 refine zS ?_
 refine qae (fun n fr L=>∃ (j q:Nat) (rf:List (List UInt8)),j≤2∧n=2 - j∧q≤k1+15+j∧rf.length≤j∧(∀ r∈rf,r.length≤30000)∧fr=(.adr (.b 0) 0::.p (.str id)::oo::.p (.sl 1 (strE ids))::oo::oo::oo::oo::.adr (.l 8) 0::.adr (.l 9) 0::oF (oE (oB (.p (int y)::.p (int (j:Nat))::oF (oo::[])))))∧L=([(.b 0,.box ((stm l (q)).map .p) T),(.l 8,.box [.p (.str []),.p (int 0),.p (.str []),.p (.str []),.p (.nl 2),.p (.nl 2),.p (.nl 1),.p (.str []),.p (.str [])] qa4),(.l 9,.box [.p (.str id),.p (int at_),.p (.str nm),.p (.str f),.p (pT ts),.p (pT cc),cSt 82 (rf),.p (.str []),.p (.str bd)] qa4)]++oSt 82 (rf))) 2 _ ([(.b 0,.box ((stm l (k'+1)).map .p) T),(.l 8,.box [.p (.str []),.p (int 0),.p (.str []),.p (.str []),.p (.nl 2),.p (.nl 2),.p (.nl 1),.p (.str []),.p (.str [])] qa4),(.l 9,.box [.p (.str id),.p (int at_),.p (.str nm),.p (.str f),.p (pT ts),.p (pT cc),cSt 82 ([]),.p (.str []),.p (.str bd)] qa4)]++oSt 82 ([])) zF_ (by simp only [ZZ,WW,Ze,reduceCtorEq,zd,ze,za,zf,zb,cSt,oSt]) ⟨0,k'+1,[],by omega,by omega,by omega,by simp,by simp,rfl,rfl⟩ ?_
 rintro n fr L ⟨j,q,rf,hj2,rfl,hq,hr1,hr2,rfl,rfl⟩
 simp only [qbN,ZZ,WW,Ze,reduceCtorEq,zd,ze,za,zf,zb]
 refine br ?_ ?_
 ·intro h
  have hlt:(j:Int) < y:=of_decide_eq_true h
  rcases rf with _|⟨r0,rr⟩
  ·simp only [cSt,oSt,ZZ,WW,Ze,reduceCtorEq,zd,ze,za,zf,zb]
   simp only [qac,ZZ,WW,Ze,reduceCtorEq,zd,ze,za,zf,zb]
   ((with_reducible and_intros)<;>try exact sc_)
   refine useS (qbW l q (gnA++ids) (by omega) hl (by simp [gnA]) (by simp [gnA];omega)) rfl rfl rfl zE_ ?_
   rintro x cs' ⟨r,rfl,hr,rfl⟩
   have hr:r.length≤30000:=by rcases zr.1 hr with hr|hr;(simp only [gnA,zo,zu,or_false] at hr;rcases hr with rfl|rfl<;>decide);have:=hib r hr;omega
   refine zS ?_
   refine useG (fun _=>up6 (qbk ([]) r (by simp only [zn,zx] at *;omega))) rfl (.inr rfl) ?_
   refine zS ?_
   refine br ?_ ?_
   ·intro _
    refine zS ?_
    refine qad zE_ ?_
    refine zS ?_
    refine ⟨qam (by omega) (by omega),qab (2 - (j+1)) _ ([(.b 0,.box ((stm l (q+1)).map .p) T),(.l 8,.box [.p (.str []),.p (int 0),.p (.str []),.p (.str []),.p (.nl 2),.p (.nl 2),.p (.nl 1),.p (.str []),.p (.str [])] qa4),(.l 9,.box [.p (.str id),.p (int at_),.p (.str nm),.p (.str f),.p (pT ts),.p (pT cc),cSt 82 (([])++[r]),.p (.str []),.p (.str bd)] qa4)]++oSt 82 (([])++[r])) (by omega) zF_ (by simp only [ZZ,WW,Ze,reduceCtorEq,zd,ze,za,zf,zb,cSt,oSt,strE,zG]) ⟨j+1,q+1,([])++[r],by omega,rfl,by omega,(by simp only [zq,zn,zx] at *;omega),(fun a ha=>by rcases zr.1 ha with ha|ha;exact hr2 a ha;rw [zD] at ha;subst ha;exact hr),rfl,rfl⟩⟩
   ·intro _
    refine zS ?_
    refine qad zE_ ?_
    refine zS ?_
    refine ⟨qam (by omega) (by omega),qab (2 - (j+1)) _ ([(.b 0,.box ((stm l (q+1)).map .p) T),(.l 8,.box [.p (.str []),.p (int 0),.p (.str []),.p (.str []),.p (.nl 2),.p (.nl 2),.p (.nl 1),.p (.str []),.p (.str [])] qa4),(.l 9,.box [.p (.str id),.p (int at_),.p (.str nm),.p (.str f),.p (pT ts),.p (pT cc),cSt 82 ([]),.p (.str []),.p (.str bd)] qa4)]++oSt 82 ([])) (by omega) zF_ (by simp only [ZZ,WW,Ze,reduceCtorEq,zd,ze,za,zf,zb,cSt,oSt,strE,zG]) ⟨j+1,q+1,[],by omega,rfl,by omega,(by simp only [zq,zn,zx] at *;omega),hr2,rfl,rfl⟩⟩
  ·simp only [cSt,oSt,ZZ,WW,Ze,reduceCtorEq,zd,ze,za,zf,zb]
   simp only [zn] at hr1
   simp only [qac,ZZ,WW,Ze,reduceCtorEq,zd,ze,za,zf,zb]
   ((with_reducible and_intros)<;>try exact sc_)
   refine useS (qbW l q (gnA++ids) (by omega) hl (by simp [gnA]) (by simp [gnA];omega)) rfl rfl rfl zE_ ?_
   rintro x cs' ⟨r,rfl,hr,rfl⟩
   have hr:r.length≤30000:=by rcases zr.1 hr with hr|hr;(simp only [gnA,zo,zu,or_false] at hr;rcases hr with rfl|rfl<;>decide);have:=hib r hr;omega
   refine zS ?_
   refine useG (fun _=>up6 (qbk (r0 :: rr) r (by simp only [zn,zx] at *;omega))) rfl (.inr rfl) ?_
   refine zS ?_
   refine br ?_ ?_
   ·intro _
    simp only [ZZ,WW,Ze,reduceCtorEq,zd,ze,za,zf,zb,qac,zn]
    ((with_reducible and_intros)<;>try exact sc_)
    refine qad zE_ ?_
    refine zS ?_
    refine ⟨qam (by omega) (by omega),qab (2 - (j+1)) _ ([(.b 0,.box ((stm l (q+1)).map .p) T),(.l 8,.box [.p (.str []),.p (int 0),.p (.str []),.p (.str []),.p (.nl 2),.p (.nl 2),.p (.nl 1),.p (.str []),.p (.str [])] qa4),(.l 9,.box [.p (.str id),.p (int at_),.p (.str nm),.p (.str f),.p (pT ts),.p (pT cc),cSt 82 ((r0 :: rr)++[r]),.p (.str []),.p (.str bd)] qa4)]++oSt 82 ((r0 :: rr)++[r])) (by omega) zF_ (by simp only [ZZ,WW,Ze,reduceCtorEq,zd,ze,za,zf,zb,cSt,oSt,strE,zG]) ⟨j+1,q+1,(r0 :: rr)++[r],by omega,rfl,by omega,(by simp only [zq,zn,zx] at *;omega),(fun a ha=>by rcases zr.1 ha with ha|ha;exact hr2 a ha;rw [zD] at ha;subst ha;exact hr),rfl,rfl⟩⟩
   ·intro _
    refine zS ?_
    refine qad zE_ ?_
    refine zS ?_
    refine ⟨qam (by omega) (by omega),qab (2 - (j+1)) _ ([(.b 0,.box ((stm l (q+1)).map .p) T),(.l 8,.box [.p (.str []),.p (int 0),.p (.str []),.p (.str []),.p (.nl 2),.p (.nl 2),.p (.nl 1),.p (.str []),.p (.str [])] qa4),(.l 9,.box [.p (.str id),.p (int at_),.p (.str nm),.p (.str f),.p (pT ts),.p (pT cc),cSt 82 (r0 :: rr),.p (.str []),.p (.str bd)] qa4)]++oSt 82 (r0 :: rr)) (by omega) zF_ (by simp only [ZZ,WW,Ze,reduceCtorEq,zd,ze,za,zf,zb,cSt,oSt,strE,zG]) ⟨j+1,q+1,r0 :: rr,by omega,rfl,by omega,(by simp only [zq,zn,zx] at *;omega),hr2,rfl,rfl⟩⟩
 intro h
 clear h
 refine zS ?_
 rw [qm9]
 refine ⟨(.adr (.b 0) 0::oC (oB (oo::(.adr (.l 8) 0::.adr (.l 9) 0::oG (oD (oB (oo::(.adr (.b 0) 0::oD (oo::[]))))))))),[(.b 0,.box ((stm l (q)).map .p) T),(.l 8,.box [.p (.str []),.p (int 0),.p (.str []),.p (.str []),.p (.nl 2),.p (.nl 2),.p (.nl 1),.p (.str []),.p (.str [])] qa4),(.l 9,.box [.p (.str id),.p (int at_),.p (.str nm),.p (.str f),.p (pT ts),.p (pT cc),.p (pSt rf),.p (.str []),.p (.str bd)] qa4)],?_,?_⟩
 ·rcases rf with _|⟨r0,rr⟩
  ·exact qer zF_ (by simp only [ZZ,WW,Ze,reduceCtorEq,zd,ze,za,zf,zb,cSt,oSt,pSt])
  ·exact ReOk.trans (qil (k:=.l 82) rfl) (by simp only [ZZ,WW,Ze,reduceCtorEq,zd,ze,za,zf,zb,cSt,oSt];exact qer zF_ (by simp only [ZZ,WW,Ze,reduceCtorEq,zd,ze,za,zf,zb,pSt]))
 refine zS ?_
 refine useS (qbW l q sjA (by omega) hl (by decide) (by decide)) rfl rfl rfl zE_ ?_
 rintro x cs' ⟨s,rfl,hs,rfl⟩
 obtain ⟨s1,s2,s3,s4⟩:=qzF s hs
 refine zS ?_
 refine use1 (qsP s (by omega) s2) rfl (.inl rfl) ?_
 refine zS ?_
 refine use1 (qoM (Lib.fields s) [32] (by omega) (by omega)) rfl (.inl rfl) ?_
 rcases ts with _|⟨t0,tr⟩<;>rcases cc with _|⟨c0,cr⟩<;>rcases rf with _|⟨r0,rr⟩
 ·simp only [ZZ,WW,Ze,reduceCtorEq,zd,ze,za,zf,zb,pT,pSt]
  exact qd0 (stm l (q+1)) rfl ⟨⟨id,at_,(nm,f),[],[],[],Lib.join (Lib.fields s) [32],bd⟩,_,rfl,⟨zB hid (by decide),hnm,zB hf (by decide),zB ht1 (by omega),ht2,zB hc1 (by omega),hc2,zB hr1 (by omega),hr2,s4,zB hbd (by decide)⟩,rfl,by omega⟩
 ·simp only [ZZ,WW,Ze,reduceCtorEq,zd,ze,za,zf,zb,pT,pSt]
  exact qd0 (stm l (q+1)) rfl ⟨⟨id,at_,(nm,f),[],[],r0 :: rr,Lib.join (Lib.fields s) [32],bd⟩,_,rfl,⟨zB hid (by decide),hnm,zB hf (by decide),zB ht1 (by omega),ht2,zB hc1 (by omega),hc2,zB hr1 (by omega),hr2,s4,zB hbd (by decide)⟩,rfl,by omega⟩
 ·simp only [ZZ,WW,Ze,reduceCtorEq,zd,ze,za,zf,zb,pT,pSt]
  exact qd0 (stm l (q+1)) rfl ⟨⟨id,at_,(nm,f),[],c0 :: cr,[],Lib.join (Lib.fields s) [32],bd⟩,_,rfl,⟨zB hid (by decide),hnm,zB hf (by decide),zB ht1 (by omega),ht2,zB hc1 (by omega),hc2,zB hr1 (by omega),hr2,s4,zB hbd (by decide)⟩,rfl,by omega⟩
 ·simp only [ZZ,WW,Ze,reduceCtorEq,zd,ze,za,zf,zb,pT,pSt]
  exact qd0 (stm l (q+1)) rfl ⟨⟨id,at_,(nm,f),[],c0 :: cr,r0 :: rr,Lib.join (Lib.fields s) [32],bd⟩,_,rfl,⟨zB hid (by decide),hnm,zB hf (by decide),zB ht1 (by omega),ht2,zB hc1 (by omega),hc2,zB hr1 (by omega),hr2,s4,zB hbd (by decide)⟩,rfl,by omega⟩
 ·simp only [ZZ,WW,Ze,reduceCtorEq,zd,ze,za,zf,zb,pT,pSt]
  exact qd0 (stm l (q+1)) rfl ⟨⟨id,at_,(nm,f),t0 :: tr,[],[],Lib.join (Lib.fields s) [32],bd⟩,_,rfl,⟨zB hid (by decide),hnm,zB hf (by decide),zB ht1 (by omega),ht2,zB hc1 (by omega),hc2,zB hr1 (by omega),hr2,s4,zB hbd (by decide)⟩,rfl,by omega⟩
 ·simp only [ZZ,WW,Ze,reduceCtorEq,zd,ze,za,zf,zb,pT,pSt]
  exact qd0 (stm l (q+1)) rfl ⟨⟨id,at_,(nm,f),t0 :: tr,[],r0 :: rr,Lib.join (Lib.fields s) [32],bd⟩,_,rfl,⟨zB hid (by decide),hnm,zB hf (by decide),zB ht1 (by omega),ht2,zB hc1 (by omega),hc2,zB hr1 (by omega),hr2,s4,zB hbd (by decide)⟩,rfl,by omega⟩
 ·simp only [ZZ,WW,Ze,reduceCtorEq,zd,ze,za,zf,zb,pT,pSt]
  exact qd0 (stm l (q+1)) rfl ⟨⟨id,at_,(nm,f),t0 :: tr,c0 :: cr,[],Lib.join (Lib.fields s) [32],bd⟩,_,rfl,⟨zB hid (by decide),hnm,zB hf (by decide),zB ht1 (by omega),ht2,zB hc1 (by omega),hc2,zB hr1 (by omega),hr2,s4,zB hbd (by decide)⟩,rfl,by omega⟩
 ·simp only [ZZ,WW,Ze,reduceCtorEq,zd,ze,za,zf,zb,pT,pSt]
  exact qd0 (stm l (q+1)) rfl ⟨⟨id,at_,(nm,f),t0 :: tr,c0 :: cr,r0 :: rr,Lib.join (Lib.fields s) [32],bd⟩,_,rfl,⟨zB hid (by decide),hnm,zB hf (by decide),zB ht1 (by omega),ht2,zB hc1 (by omega),hc2,zB hr1 (by omega),hr2,s4,zB hbd (by decide)⟩,rfl,by omega⟩
end Go.Proofs.YtekhobchfhhofaaGreatDoor
