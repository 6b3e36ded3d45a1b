import Derived.Test.YtekhobchfhhofaaGreatDoorZ20
set_option linter.unusedVariables false
set_option linter.unusedSimpArgs false
set_option linter.defProp false
namespace Go.Proofs.YtekhobchfhhofaaGreatDoor
open Nat renaming reduceAdd→zd,reduceEqDiff→zb,reduceLT→zf,reduceLeDiff→za,reduceMul→ze
open List renaming mem_append→zr,mem_cons→zo,mem_singleton→zD,not_mem_nil→zu
open Bool renaming false_eq_true→zp
open Go.RowKit
def qbP:IC:=(sR [qT 41 .lss 40 39] (.seq (jE 41) (.seq (.block 1 (sR [qM 42 40,qX 43 9 38 40,qO 44 (.ld 9 true (.t 43)),qO 10 (.alc 45 [.str [],.int .i64 0,.str [],.str [],.nl 2,.nl 2,.nl 1,.str [],.str []]),qM 9 42,qS 9 10 44] (sR [qO 46 (.ld 4 true (.t 4)),qO 47 (.ld 9 true (.t 10)),jC 48 11 [.t 46,.t 47],qM 45 48,qO 49 (.ext 0 (.t 45)),qO 50 (.ext 1 (.t 45)),qO 11 (.alc 47 [.str [],.int .i64 0,.int .i64 0]),qS 3 11 49,qM 12 50] (sR [qO 52 (.ld 4 true (.t 4)),qO 53 (.ld 9 true (.t 10)),jC 54 12 [.t 52,.t 53],qM 51 54,qO 55 (.ext 0 (.t 51)),qO 56 (.ext 1 (.t 51)),qM 13 55,qM 14 56] (.seq (.seq (.drg [qO 57 (.ld 4 true (.t 4)),qO 58 (.pcall 0 9 [.t 57]),qO 59 (.ld 9 true (.t 10)),qO 60 (.pcall 1 13 [.t 59]),qO 61 (.bsl 1 [.t 58,.t 60]),qO 62 (.pcall 2 8 [.t 61]),qM 15 62]) (sR [qM 63 15,qB 64 .neq 63 (cI 0)] (jW 64 (.seq (sR [qM 65 12,qM 66 15,qT 67 .neq 65 66,qM 68 67,⟨some 69,.mov (.t 14),(some (68,false))⟩,⟨some 70,.mov (.t 15),(some (68,false))⟩,⟨some 71,.bin .neq (.t 69) (.t 70),(some (68,false))⟩,qO 72 (.pick (.t 68) (.c (.bool true)) (.t 71))] (jW 72 (sR [qO 2 (.mov (.c (.bool false)))] .ret))) (.exit 1))))) (.seq (.drg [qM 73 12,qB 74 .neq 73 (cI 0),qM 75 74,⟨some 76,.mov (.t 14),(some (75,false))⟩,⟨some 77,.bin .neq (.t 76) (cI 0),(some (75,false))⟩,qO 78 (.pick (.t 75) (.c (.bool true)) (.t 77)),qM 79 78,⟨some 80,.ld 3 true (.t 11),(some (79,false))⟩,⟨some 81,.ld 4 true (.t 4),(some (79,false))⟩,⟨some 82,.ld 9 true (.t 10),(some (79,false))⟩,⟨some 83,.pcall 0 14 [.t 81,.t 82],(some (79,false))⟩,⟨some 84,.eqa true [.s,.i,.i] (.t 80) (.t 83),(some (79,false))⟩,qO 85 (.pick (.t 79) (.c (.bool true)) (.t 84)),qM 86 85,⟨some 87,.mov (.t 13),(some (86,false))⟩,⟨some 88,.ld 4 true (.t 4),(some (86,false))⟩,⟨some 89,.ld 9 true (.t 10),(some (86,false))⟩,⟨some 90,.pcall 1 16 [.t 88,.t 89],(some (86,false))⟩,⟨some 91,.pcall 2 15 [.t 87,.t 90],(some (86,false))⟩,⟨some 92,.not (.t 91),(some (86,false))⟩,qO 93 (.pick (.t 86) (.c (.bool true)) (.t 92)),qM 94 93,⟨some 95,.mov (.t 8),(some (94,false))⟩,⟨some 96,.bin .eql (.t 95) (cI 0),(some (94,false))⟩,⟨some 97,.mov (.t 96),(some (94,false))⟩,⟨some 98,.mov (.t 6),(some (97,true))⟩,⟨some 99,.mov (.t 9),(some (97,true))⟩,⟨some 100,.ixa 3 (.t 98) (.t 99),(some (97,true))⟩,⟨some 101,.ld 3 true (.t 100),(some (97,true))⟩,⟨some 102,.ld 3 true (.t 11),(some (97,true))⟩,⟨some 103,.eqa true [.s,.i,.i] (.t 101) (.t 102),(some (97,true))⟩,⟨some 104,.pick (.t 97) (.t 103) (.c (.bool false)),(some (94,false))⟩,qO 105 (.pick (.t 94) (.c (.bool true)) (.t 104))]) (jW 105 (sR [qO 2 (.mov (.c (.bool false)))] .ret)))))))) (.cut (.reg [qB 106 .add 40 (cI 1),qM 40 106])))))
abbrev qeG:IC:=(sR [qO 2 (.mov (.c (.bool false)))] (sR [qM 16 0,qO 17 (.bld [.nl 1,.int .i64 0] [(0,1,.t 16)]),qO 18 (.box 25 (.t 17)),qM 3 18] (sR [qM 19 3,jC 20 5 [.t 19],qM 21 3,jC 22 6 [.t 21,.c (.int .i64 5)],qO 4 (.alc 30 [.nl 3,.nl 3,.nl 1,.nl 1]),qS 4 4 20,qM 5 22] (sR [qO 24 (.ld 4 true (.t 4)),qM 25 5,⟨none,.fz (.t 25),none⟩,jC 26 7 [.t 24,.t 25],qM 23 26,qO 27 (.ext 0 (.t 23)),qO 28 (.ext 1 (.t 23)),qM 6 27,qM 7 28] (sR [qO 29 (.ld 4 true (.t 4)),jC 30 9 [.t 29],qM 31 5,jC 32 10 [.t 31],qO 33 (.bsl 1 [.t 30,.t 32]),jC 34 8 [.t 33],qM 8 34] (.seq (sR [qM 35 7,qM 36 8,qT 37 .neq 35 36] (jW 37 (sR [qO 2 (.mov (.c (.bool false)))] .ret))) (.seq (sR [qM 38 5,qN 39 38,jI 40 0] (.block 0 (.loop qbP))) (sR [jC 107 17 [],qM 108 107,⟨some 109,.mov (.t 8),(some (108,true))⟩,⟨some 110,.bin .neq (.t 109) (cI 0),(some (108,true))⟩,⟨some 111,.mov (.t 110),(some (108,true))⟩,⟨some 112,.mov (.t 6),(some (111,false))⟩,⟨some 113,.len (.t 112),(some (111,false))⟩,⟨some 114,.mov (.t 5),(some (111,false))⟩,⟨some 115,.len (.t 114),(some (111,false))⟩,⟨some 116,.bin .eql (.t 113) (.t 115),(some (111,false))⟩,⟨some 117,.pick (.t 111) (.c (.bool true)) (.t 116),(some (108,true))⟩,qO 118 (.pick (.t 108) (.t 117) (.c (.bool false))),qM 2 118] .ret))))))))
theorem qeL:chkF Tryz.prog Tryz.f3 qeG [.t 2] 119=true:=by kernel_rfl
theorem qzx:∀ t∈tS,t.length≤25000:=by decide +kernel
theorem qzT:∀ s∈pS,s.length≤1000000:=by decide +kernel
theorem qAl:∀ s∈dS,s.length≤1000000:=by decide +kernel
theorem qzr:∀ s∈xS,s.length≤1000000:=by decide +kernel
theorem CircOk.CB {P D:List Par} {Ts X:List (List UInt8)} (h:CircOk P D Ts X):CB P D Ts X:=by
 obtain ⟨h1,h2,h3,h4,⟨T0,hT,h5⟩,⟨X0,hX,h6⟩⟩:=h
 have t0:T0.length≤3∧∀ t∈T0,t.length≤25000:=by
  simp only [zo,zu,or_false] at hT
  rcases hT with rfl|rfl|rfl
  ·exact ⟨by decide,by decide +kernel⟩
  ·exact ⟨by decide,by decide +kernel⟩
  ·exact ⟨by decide,by simp⟩
 have x0:X0.length≤1∧∀ t∈X0,t.length≤1000000:=by
  simp only [zo,zu,or_false] at hX
  rcases hX with rfl|rfl
  ·exact ⟨by decide,by decide +kernel⟩
  ·exact ⟨by decide,by simp⟩
 refine ⟨by omega,fun p hp=>qzT _ (h2 p hp).1,by omega,fun p hp=>qAl _ (h4 p hp).1,?_,?_,?_,?_⟩
 ·rcases h5 with rfl|⟨t,ht,rfl⟩
  ·omega
  ·simp;omega
 ·rcases h5 with rfl|⟨t,ht,rfl⟩
  ·exact t0.2
  ·intro x hx
   rcases zr.1 hx with hx|hx
   ·exact t0.2 x hx
   ·rw [zD] at hx;subst hx;exact qzx _ ht
 ·rcases h6 with rfl|⟨t,ht,rfl⟩
  ·omega
  ·simp;omega
 ·rcases h6 with rfl|⟨t,ht,rfl⟩
  ·exact x0.2
  ·intro x hx
   rcases zr.1 hx with hx|hx
   ·exact x0.2 x hx
   ·rw [zD] at hx;subst hx;exact qzr _ ht
set_option maxHeartbeats 8000000 in
set_option maxRecDepth 100000 in
theorem qkQ (z:List Int) (hl:z.length≤9223372036854775807):PCall Tryz.prog E6 3 [ints z] (·=.bool true):=by
 refine qag mixed Tryz.func3 qeL ?_
 refine zV ?_
 simp only [ints,ZZ,WW,Ze,reduceCtorEq,zd,ze,za,zf,zb]
 refine useS (k:=.l 18) (quZ z 0 (by omega) hl) rfl rfl rfl zE_ ?_
 rintro x cs' ⟨P,D,Ts,X,k1,hC,rfl,rfl,hk1⟩
 have hB:=hC.CB
 simp only [qyZ,cirV]
 refine zS ?_
 refine qu3 (k:=.l 18) (qoZ z k1 5 (by omega) (by omega) hl) rfl rfl rfl zE_ ?_
 rintro es cs' ⟨u,k2,rfl,hu,hub,rfl,hk2⟩
 have hM:∀ m∈u,LtB m:=fun m hm=>(hub m hm).big (by omega)
 have hCS:=qw2 P D Ts X u hB (by omega) hM
 have hCF:=qmS P D Ts X hB
 simp only [cirV] at hCS hCF
 refine zS ?_
 refine use1 hCS rfl (.inl rfl) ?_
 refine zS ?_
 refine use1 (up6 hCF) rfl (.inl rfl) ?_
 refine zS ?_
 refine use1 (up6 (qmj u hM)) rfl (.inl rfl) ?_
 refine zS ?_
 refine use1 (qwP [_,_] (by simp)) rfl (.inl rfl) ?_
 rw [show qaf [cirF P D Ts X,ltsF u]=qmL P D Ts X u from rfl]
 refine zS ?_
 refine br (fun h=>by simp at h) ?_
 intro _
 have hCE:qmL P D Ts X u=0→(if qmL P D Ts X u=0 then cldE P D Ts X u else [])=cldE P D Ts X u:=fun h=>if_pos h
 have hCN:¬ qmL P D Ts X u=0→(if qmL P D Ts X u=0 then cldE P D Ts X u else [])=[]:=fun h=>if_neg h
 clear hCS
 generalize (if qmL P D Ts X u=0 then cldE P D Ts X u else [])=CE at *
 generalize qmL P D Ts X u=e at *
 simp only [ZZ,WW,Ze,reduceCtorEq,zd,ze,za,zf,zb,qaS]
 refine qae (fun n fr L=>∃ (k:Nat),k≤u.length∧n=u.length - k∧fr=(oo::oo::oo::oo::.adr (.l 4) 0::.p (.sl 9 (ltE u))::.p (.sl 3 CE)::.p (int e)::.p (int e)::oE (oD (oC (oo::(.p (.sl 9 (ltE u))::.p (int (u.length:Nat))::.p (int (k:Nat))::oG (oD (oC (oB []))))))))∧L=[(.l 4,.box [.p (.sl 3 (parE P)),.p (.sl 3 (parE D)),.p (.sl 1 (strE Ts)),.p (.sl 1 (strE X))] qa0)]) (u.length) _ _ (by simp only [ZZ,WW,Ze,reduceCtorEq,zd,ze,za,zf,zb,qaS];try trivial) zF_ ⟨0,by omega,by omega,rfl,rfl⟩ ?_
 rintro n fr L ⟨k,hk,rfl,rfl,rfl⟩
 simp only [qbP,ZZ,WW,Ze,reduceCtorEq,zd,ze,za,zf,zb]
 refine br ?_ ?_
 ·intro h
  have hlt:k < u.length:=by have:=of_decide_eq_true h;omega
  obtain ⟨m,hx⟩:∃ x,u[k]?=some x:=⟨_,List.getElem?_eq_getElem hlt⟩
  have hxm:=List.mem_of_getElem? hx
  have hm:=hM m hxm
  have hg:=qf4 hx
  simp only [ltV] at hg
  have hCL:=qzq P D Ts X m hB hm
  have hOU:=qqe P D Ts X m hB hm
  have hOO:=qmP P D Ts X m hB hm
  have hLF:=qio m hm
  simp only [cirV,ltV] at hCL hOU hOO hLF
  simp only [ZZ,WW,Ze,reduceCtorEq,zd,ze,za,zf,zb,hg,qaS]
  ((with_reducible and_intros)<;>try exact sc_)
  by_cases h0:oneF P D Ts X m=0
  ·obtain ⟨hz1,hz2⟩:=qk4 h0
   have hCO:=qu1 P D Ts X m hB hm hz2
   rw [if_pos h0,h0] at hCL hOU
   simp only [cirV,ltV,cldV] at hCL hCO
   have hol:=qlF P D X m (ptsS m).length
   have hpl:=qjh hm
   refine use1 hCL rfl (.inl rfl) ?_
   refine zS ?_
   refine use1 hOU rfl (.inl rfl) ?_
   refine zS ?_
   refine drg3 (x1:=int (cirF P D Ts X)) (x2:=int (letF m)) (x3:=int 0) ?_
   refine zS ?_
   ((repeat' (with_reducible apply And.intro))<;>try (first|exact usep (up6 hCF) rfl (.inl rfl)|exact usep (up6 hLF) rfl (.inl rfl)|(rw [← h0];exact usep (qwP [_,_] (by simp)) rfl (.inl rfl))|(exact sc_)))
   refine br (fun h=>by simp at h) ?_
   intro _
   have hEQ:=quV (E:=E6) (qhb P D X m (ptsS m).length) (qhb P D X m (ptsS m).length) (by omega)
   refine zS ?_
   refine drg3 (x1:=.agg [.str m.id,int (qkW P D Ts X m).1,int (qkW P D Ts X m).2]) (x2:=.sl 1 (strE (qhb P D X m (ptsS m).length))) (x3:=.bool true) ?_
   by_cases ha:e=0
   ·have hcg:=qwo (P:=P) (D:=D) (Ts:=Ts) (X:=X) hx
    have hcl:=qok P D Ts X u
    rw [← hCE ha] at hcg hcl
    have hd:decide (e=0)=true:=decide_eq_true ha
    simp only [ZZ,WW,Ze,reduceCtorEq,zd,ze,za,zf,zb,hcg,hcl,hd,decide_true,Bool.not_true,Bool.or_self,Bool.not_false,Bool.and_self,Bool.false_or,Bool.or_false,Bool.true_and,true_implies,zp,false_implies,true_and]
    ((repeat' (with_reducible apply And.intro))<;>try (first|exact usep hCO rfl (.inl rfl)|exact usep hOO rfl (.inl rfl)|exact usep (hEQ.mono fun x h=>by rw [h];simp) rfl (.inl rfl)|(exact sc_)))
    refine qad zE_ ?_
    refine zS ?_
    ((with_reducible and_intros)<;>try exact sc_)
    refine qab (u.length - (k+1)) _ _ (by omega) zF_ zF_ ⟨k+1,by omega,rfl,rfl,rfl⟩
   ·have hd:decide (e=0)=false:=decide_eq_false ha
    have hcg:CE.getD k []=[]:=by rw [hCN ha];rfl
    simp only [ZZ,WW,Ze,reduceCtorEq,zd,ze,za,zf,zb,hd,hcg,List.take_nil,Bool.false_and,decide_true,Bool.not_true,Bool.or_self,Bool.not_false,Bool.and_self,Bool.false_or,Bool.or_false,Bool.true_and,true_implies,zp,false_implies,true_and]
    ((repeat' (with_reducible apply And.intro))<;>try (first|exact usep hCO rfl (.inl rfl)|exact usep hOO rfl (.inl rfl)|exact usep (hEQ.mono fun x h=>by rw [h];simp) rfl (.inl rfl)|(exact sc_)))
    refine qad zE_ ?_
    refine zS ?_
    ((with_reducible and_intros)<;>try exact sc_)
    refine qab (u.length - (k+1)) _ _ (by omega) zF_ zF_ ⟨k+1,by omega,rfl,rfl,rfl⟩
  ·rw [if_neg h0] at hCL hOU
   refine use1 hCL rfl (.inl rfl) ?_
   refine zS ?_
   refine use1 hOU rfl (.inl rfl) ?_
   refine zS ?_
   refine drg3 (x1:=int (cirF P D Ts X)) (x2:=int (letF m)) (x3:=int (oneF P D Ts X m)) ?_
   refine zS ?_
   ((repeat' (with_reducible apply And.intro))<;>try (first|exact usep (up6 hCF) rfl (.inl rfl)|exact usep (up6 hLF) rfl (.inl rfl)|exact usep (qwP [_,_] (by simp)) rfl (.inl rfl)|(exact sc_)))
   refine br ?_ (fun h=>absurd h (by simp [h0]))
   intro _
   simp only [ZZ,WW,Ze,reduceCtorEq,zd,ze,za,zf,zb,decide_true,Bool.not_true,Bool.or_self,Bool.not_false,Bool.and_self,Bool.false_or,Bool.or_false,Bool.true_and,true_implies,zp,false_implies,true_and]
   refine qad zE_ ?_
   refine zS ?_
   ((with_reducible and_intros)<;>try exact sc_)
   refine qab (u.length - (k+1)) _ _ (by omega) zF_ zF_ ⟨k+1,by omega,rfl,rfl,rfl⟩
 intro h
 have hge:u.length≤k:=by have:=of_decide_eq_false h;omega
 refine zS ?_
 refine use1 (up6 qnU) rfl (.inl rfl) ?_
 simp only [ZZ,WW,Ze,reduceCtorEq,zd,ze,za,zf,zb,qaS]
 by_cases ha:e=0
 ·have hcl:=qok P D Ts X u
  rw [← hCE ha] at hcl
  simp [hcl]
 ·simp [ha]
theorem qjk (a0:Option Addr) (len0 cap0:Nat) (z0:List Int) (w:World) (h0:qwT .i64 w a0 len0 cap0 z0) (he:E6.ok w∧∀ b,E6.bl b→b < w.heap.size) :
  Calls Tryz.prog 3 #[.slice a0 len0 cap0] w fun e w'=>e=.returned (.bool true)∧Below w.heap.size w w':=
 qxl qkQ a0 len0 cap0 z0 w h0 he.1 he.2
end Go.Proofs.YtekhobchfhhofaaGreatDoor
