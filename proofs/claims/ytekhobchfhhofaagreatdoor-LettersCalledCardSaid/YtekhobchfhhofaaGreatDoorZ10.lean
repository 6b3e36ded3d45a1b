import Derived.Test.YtekhobchfhhofaaGreatDoorZ9
import Derived.Sort.Walk0
set_option linter.unusedVariables false
set_option linter.unusedSimpArgs false
set_option linter.defProp false
namespace Go.Proofs.YtekhobchfhhofaaGreatDoor
open Nat renaming le_trans→zB,reduceAdd→zd,reduceEqDiff→zb,reduceLT→zf,reduceLeDiff→za,reduceMul→ze
open List renaming drop_eq_nil_of_le→zU,getD→zy,getElem?_eq_getElem→zh,getElem?_eq_some_iff→zm,getElem?_map→zE,getElem?_of_mem→zW,getElem?_range→ye,length_cons→zn,mem_of_getElem?→zl,range→zz,take_length→ya,take_succ_eq_append_getElem→zI
open Bool renaming not_eq_true'→yb
open Go.RowKit
def qcz:IC:=(sR [qT 14 .lss 13 12] (.seq (jE 14) (.seq (.block 1 (sR [qM 15 13,qX 16 1 11 13,qL 17 16,qM 3 15,qM 4 17] (sR [qM 18 4,jC 19 165 [.t 18],qM 5 19] (sR [qM 20 5,jC 21 109 [.t 20,.c (.str [32])],qM 22 4,qT 23 .eql 21 22,qM 24 23,⟨some 25,.mov (.t 5),(some (24,true))⟩,⟨some 26,.len (.t 25),(some (24,true))⟩,⟨some 27,.call 166 [.t 26,.c (.int .i64 1),.c (.int .i64 8)],(some (24,true))⟩,qO 28 (.pick (.t 24) (.t 27) (.c (.bool false))),qM 29 28,⟨some 30,.mov (.t 4),(some (29,true))⟩,⟨some 31,.sln (.t 30),(some (29,true))⟩,⟨some 32,.bin .leq (.t 31) (cI 60),(some (29,true))⟩,qO 33 (.pick (.t 29) (.t 32) (.c (.bool false))),qM 34 33,⟨some 35,.mov (.t 4),(some (34,true))⟩,⟨some 36,.call 110 [.t 35],(some (34,true))⟩,qO 37 (.pick (.t 34) (.t 36) (.c (.bool false))),qM 6 37] (sR [qM 38 6,qO 39 (.not (.t 38)),jC 40 99 [.t 39,.c (.int .i64 3)],qM 41 3,qB 42 .gtr 41 (cI 0),qM 43 42,⟨some 44,.mov (.t 4),(some (43,true))⟩,⟨some 45,.mov (.t 0),(some (43,true))⟩,⟨some 46,.mov (.t 3),(some (43,true))⟩,⟨some 47,.mx (.t 46) (cI 1),(some (43,true))⟩,⟨some 48,.bin .sub (.t 47) (cI 1),(some (43,true))⟩,⟨some 49,.ixa 1 (.t 45) (.t 48),(some (43,true))⟩,⟨some 50,.ld 1 false (.t 49),(some (43,true))⟩,⟨some 51,.bin .leq (.t 44) (.t 50),(some (43,true))⟩,qO 52 (.pick (.t 43) (.t 51) (.c (.bool false))),jC 53 99 [.t 52,.c (.int .i64 7)],qO 54 (.bsl 1 [.t 40,.t 53]),jC 55 38 [.t 54],qM 7 55] (sR [qM 56 7,qB 57 .neq 56 (cI 0)] (jW 57 (sR [qM 58 7,qM 2 58] .ret)))))))) (.reg [qB 59 .add 13 (cI 1),qM 13 59]))))
abbrev qf5:IC:=(sR [jI 2 0] (.seq (sR [qM 8 0,qN 9 8,qB 10 .gtr 9 (cI 200)] (jW 10 (sR [jI 2 2] .ret))) (.seq (sR [qM 11 0,qN 12 11,jI 13 0] (.block 0 (.loop qcz))) (sR [jI 2 0] .ret))))
theorem qgd:chkF Tryz.prog Tryz.f98 qf5 [.t 2] 60=true:=by kernel_rfl
def qcE:IC:=(sR [qT 12 .lss 11 10] (.seq (jE 12) (.seq (.block 1 (sR [qM 13 11,qX 14 1 9 11,qL 15 14,qM 3 13,qM 4 15] (sR [qM 16 4,jC 17 108 [.t 16],qM 5 17] (.seq (sR [qM 18 5,jC 19 109 [.t 18,.c (.str [32])],qM 20 4,qT 21 .neq 19 20,qM 22 21,⟨some 23,.mov (.t 5),(some (22,false))⟩,⟨some 24,.len (.t 23),(some (22,false))⟩,⟨some 25,.bin .lss (.t 24) (cI 1),(some (22,false))⟩,qO 26 (.pick (.t 22) (.c (.bool true)) (.t 25)),qM 27 26,⟨some 28,.mov (.t 5),(some (27,false))⟩,⟨some 29,.len (.t 28),(some (27,false))⟩,⟨some 30,.bin .gtr (.t 29) (cI 8),(some (27,false))⟩,qO 31 (.pick (.t 27) (.c (.bool true)) (.t 30)),qM 32 31,⟨some 33,.mov (.t 4),(some (32,false))⟩,⟨some 34,.sln (.t 33),(some (32,false))⟩,⟨some 35,.bin .gtr (.t 34) (cI 60),(some (32,false))⟩,qO 36 (.pick (.t 32) (.c (.bool true)) (.t 35)),qM 37 36,⟨some 38,.mov (.t 4),(some (37,false))⟩,⟨some 39,.call 110 [.t 38],(some (37,false))⟩,⟨some 40,.not (.t 39),(some (37,false))⟩,qO 41 (.pick (.t 37) (.c (.bool true)) (.t 40))] (jW 41 (sR [jI 2 3] .ret))) (sR [qM 42 3,qB 43 .gtr 42 (cI 0),qM 44 43,⟨some 45,.mov (.t 4),(some (44,true))⟩,⟨some 46,.mov (.t 0),(some (44,true))⟩,⟨some 47,.mov (.t 3),(some (44,true))⟩,⟨some 48,.bin .sub (.t 47) (cI 1),(some (44,true))⟩,⟨some 49,.ixa 1 (.t 46) (.t 48),(some (44,true))⟩,⟨some 50,.ld 1 false (.t 49),(some (44,true))⟩,⟨some 51,.bin .leq (.t 45) (.t 50),(some (44,true))⟩,qO 52 (.pick (.t 44) (.t 51) (.c (.bool false)))] (jW 52 (sR [jI 2 7] .ret))))))) (.reg [qB 53 .add 11 (cI 1),qM 11 53]))))
abbrev qf9:IC:=(sR [jI 2 0] (.seq (sR [qM 6 0,qN 7 6,qB 8 .gtr 7 (cI 200)] (jW 8 (sR [jI 2 2] .ret))) (.seq (sR [qM 9 0,qN 10 9,jI 11 0] (.block 0 (.loop qcE))) (sR [jI 2 0] .ret))))
theorem qgh:chkF Tryz.prog Tryz.f44 qf9 [.t 2] 54=true:=by kernel_rfl
def qdU:IC:=(sR [qT 17 .lss 16 15] (.seq (jE 17) (.seq (.block 1 (sR [qX 18 1 14 16,qL 19 18,qM 8 19] (sR [qM 20 5,qM 21 8,qO 22 (.bin .add (.c (.str [32])) (.t 21)),qB 23 .add 22 (.c (.str [32])),jC 24 131 [.t 20,.t 23]] (jW 24 (.reg [qM 25 6,qM 26 8,qO 27 (.bsl 1 [.t 26]),qO 28 (.app 9 1 16 (.t 25) (.t 27)),qM 6 28]))))) (.cut (.reg [qB 29 .add 16 (cI 1),qM 16 29])))))
abbrev qjp:IC:=(sR [qO 4 (.mov (.c (.nl 1)))] (sR [qM 9 1,jC 10 165 [.t 9],jC 11 109 [.t 10,.c (.str [32])],qO 12 (.bin .add (.c (.str [32])) (.t 11)),qB 13 .add 12 (.c (.str [32])),qM 5 13] (sR [qO 6 (.nilr 9 1)] (.seq (sR [qM 14 0,qN 15 14,jI 16 0] (.block 0 (.loop qdU))) (sR [qM 30 6,qM 4 30] .ret)))))
theorem qjE:chkF Tryz.prog Tryz.f103 qjp [.t 4] 31=true:=by kernel_rfl
def qdu:IC:=(sR [qT 17 .lss 16 15] (.seq (jE 17) (.seq (.block 1 (sR [qX 18 1 14 16,qL 19 18,qM 8 19] (sR [qM 20 5,qM 21 8,qO 22 (.bin .add (.c (.str [32])) (.t 21)),qB 23 .add 22 (.c (.str [32])),jC 24 131 [.t 20,.t 23]] (jW 24 (.reg [qM 25 6,qM 26 8,qO 27 (.bsl 1 [.t 26]),qO 28 (.app 9 1 16 (.t 25) (.t 27)),qM 6 28]))))) (.cut (.reg [qB 29 .add 16 (cI 1),qM 16 29])))))
abbrev qh7:IC:=(sR [qO 4 (.mov (.c (.nl 1)))] (sR [qM 9 1,jC 10 108 [.t 9],jC 11 109 [.t 10,.c (.str [32])],qO 12 (.bin .add (.c (.str [32])) (.t 11)),qB 13 .add 12 (.c (.str [32])),qM 5 13] (sR [qO 6 (.nilr 9 1)] (.seq (sR [qM 14 0,qN 15 14,jI 16 0] (.block 0 (.loop qdu))) (sR [qM 30 6,qM 4 30] .ret)))))
theorem qij:chkF Tryz.prog Tryz.f67 qh7 [.t 4] 31=true:=by kernel_rfl
def qaV (l:List (List UInt8)):List UInt8:=Lib.join l [32]
theorem qtX (m:Nat):∀ l:List (List UInt8),(∀ x∈l,x.length≤m)→Lib.lens l≤l.length * m
 |[],_=>by simp [Lib.lens]
 |x :: r,h=>by
  have:=qtX m r (fun y hy=>h y (by simp [hy]))
  have:=h x (by simp)
  simp only [Lib.lens,List.map_cons,List.sum_cons,zn,Nat.succ_mul] at *
  omega
theorem qv1 (l:List (List UInt8)) (m:Nat) (h:∀ x∈l,x.length≤m):(qaV l).length≤l.length * (m+1):=by
 cases l with
 |nil=>simp [qaV,Lib.join_nil]
 |cons x r=>
  have:=qtX m (x :: r) h
  rw [qaV,Lib.join_length,Nat.mul_add]
  simp only [zn,List.length_nil] at *
  omega
theorem qsU (t:List UInt8):∀ x∈qbg t,x.length≤t.length:=by
 intro x hx
 simp only [qbg,List.mem_map,qsV] at hx
 obtain ⟨p,_,rfl⟩:=hx
 rw [qvU]
 exact Sp.part_len t p.1 p.2
theorem qld (t:List UInt8) (ht:t.length≤25000):(qbg t).length≤25001∧(qaV (qbg t)).length≤900000000:=by
 have h1:=qr9 t
 have h2:=qv1 (qbg t) t.length (qsU t)
 have h3:(qbg t).length * (t.length+1)≤25001 * 25001:=Nat.mul_le_mul (by omega) (by omega)
 omega
theorem qb3 {E:Envt} (l:List (List UInt8)) (hl:l.length≤1000000000) (hlen:(qaV l).length≤1000000000):PCall Tryz.prog E 109 [.sl 1 (strE l),.str [32]] (·=.str (qaV l)):=qoM l [32] hl hlen
def leS (x y:List UInt8):Bool:=bytesLess x y || decide (x=y)
def qyB (t:List UInt8):Bool:=((decide (qaV (qbg t)=t) && inE (qbg t).length 1 8) && decide ((t.length:Int)≤60)) && Lib.validD t
def qi9 (ts:List (List UInt8)) (k:Nat):Int:=
 if qyB (ts.getD k [])=false then 3 else if (decide (0 < k) && leS (ts.getD k []) (ts.getD (k - 1) []))=true then 7 else 0
def qfn (ts:List (List UInt8)):Int:=if 200 < ts.length then 2 else qaf ((zz ts.length).map (qi9 ts))
theorem qo3 (ts:List (List UInt8)) {k:Nat} (h:k < ts.length):((zz ts.length).map (qi9 ts))[k]?=some (qi9 ts k):=by
 rw [zE,ye h];rfl
section
theorem qoV (ts:List (List UInt8)) (hl:ts.length≤1000000) (hb:∀ t∈ts,t.length≤25000):PCall Tryz.prog E0 98 [strs ts] (·=int (qfn ts)):=by
 refine qag mixed Tryz.func98 qgd ?_
 refine zV ?_
 rw [qbh]
 simp only [ZZ,WW,Ze,reduceCtorEq,zd,ze,za,zf,zb,qac]
 refine br ?_ ?_
 ·intro h
  refine zS ?_
  have:=of_decide_eq_true h
  rw [qfn,if_pos (by omega)]
 intro h
 have hle:¬ 200 < ts.length:=by have:=of_decide_eq_false h;omega
 refine zS ?_
 rw [show qfn ts=qaf ((zz ts.length).map (qi9 ts)) from by rw [qfn,if_neg hle]]
 have hget:=fun {k:Nat} (h:k < ts.length)=>qaK _ k _ (qo3 ts h)
 generalize hG:(zz ts.length).map (qi9 ts)=G at *
 have hGl:G.length=ts.length:=by rw [← hG];simp
 refine qae (fun n fr L=>∃ (k:Nat),k≤ts.length∧n=ts.length - k∧(qaf G=qaf (G.drop k))∧fr=(.p (.sl 1 (strE ts))::oD (oB (.p (.sl 1 (strE ts))::.p (int (ts.length:Nat))::.p (int (k:Nat))::oF (oD (oC (oB []))))))∧L=[]) (ts.length) _ [] (by simp only [ZZ,WW,Ze,reduceCtorEq,zd,ze,za,zf,zb,qac];try trivial) zF_ ⟨0,by omega,by omega,by simp,rfl,rfl⟩ ?_
 rintro n fr L ⟨k,hk,rfl,hf,rfl,rfl⟩
 simp only [qcz,ZZ,WW,Ze,reduceCtorEq,zd,ze,za,zf,zb]
 refine br ?_ ?_
 ·intro h
  have hlt:k < ts.length:=by have:=of_decide_eq_true h;omega
  obtain ⟨t,ht⟩:∃ t,ts[k]?=some t:=⟨_,zh hlt⟩
  obtain ⟨u,hu⟩:∃ u,ts[k - 1]?=some u:=⟨_,zh (by omega)⟩
  have hg:=qaD ht
  have hg2:=qaD hu
  have htd:ts.getD k []=t:=by simp [zy,ht]
  have hud:ts.getD (k - 1) []=u:=by simp [zy,hu]
  have hbt:=hb t (zl ht)
  have hW:=qld t hbt
  have hd:=hget hlt
  simp only [ZZ,WW,Ze,reduceCtorEq,zd,ze,za,zf,zb,hg,qac]
  ((with_reducible and_intros)<;>try exact sc_)
  refine use1 (qr5 t (by omega)) rfl (.inl rfl) ?_
  rw [qbh]
  simp only [ZZ,WW,Ze,reduceCtorEq,zd,ze,za,zf,zb,qac]
  refine use1 (qb3 (qbg t) (by omega) (zB hW.2 (by decide))) rfl (.inl rfl) ?_
  simp only [ZZ,WW,Ze,reduceCtorEq,zd,ze,za,zf,zb,qac]
  refine useG (fun _=>qq8 _ _ _) rfl (.inl rfl) ?_
  refine zS ?_
  refine useG (fun _=>qlm t (by omega)) rfl (.inl rfl) ?_
  refine zS ?_
  generalize hform:(decide (qaV (qbg t)=t) && inE (qbg t).length 1 8 && decide ((t.length:Int)≤60) && Lib.validD t)=b
  have he:qi9 ts k=if b=false then 3 else if (decide (0 < k) && leS t u)=true then 7 else 0:=by rw [qi9,htd,hud,qyB,hform]
  have hn1:(max (k:Int) 1 - 1).toNat=k - 1:=by omega
  have he2:qaf [qap (!b) 3,qap (decide (0 < (k:Int)) && (bytesLess t u || decide (t=u))) 7]=qi9 ts k:=by
   rw [he]
   have:decide (0 < (k:Int))=decide (0 < k):=by simp
   rw [this]
   unfold leS
   cases b<;>cases hx:(decide (0 < k) && (bytesLess t u || decide (t=u)))<;>simp [qaf,qap]
  clear hform
  refine use1 (qbC _ _) rfl (.inl rfl) ?_
  simp only [ZZ,WW,Ze,reduceCtorEq,zd,ze,za,zf,zb,hn1,hg2,qac]
  ((with_reducible and_intros)<;>try exact sc_)
  refine use1 (qbC _ _) rfl (.inl rfl) ?_
  refine zS ?_
  refine use1 (qbv [qap (!b) 3,qap (decide (0 < (k:Int)) && (bytesLess t u || decide (t=u))) 7] (by simp)) rfl (.inl rfl) ?_
  rw [he2]
  refine zS ?_
  refine br ?_ ?_
  ·intro h7
   have:¬ qi9 ts k=0:=by simpa using h7
   refine zS ?_
   rw [hf,hd,if_neg this]
  intro h7
  have:qi9 ts k=0:=by simpa using h7
  refine zS ?_
  refine ⟨qam (by omega) (by omega),?_⟩
  refine qab (ts.length - (k+1)) _ [] (by omega) zF_ zF_ ⟨k+1,by omega,rfl,by rw [hf,hd,if_pos this],rfl,rfl⟩
 ·intro h
  have hge:ts.length≤k:=by have:=of_decide_eq_false h;omega
  refine zS ?_
  rw [hf,zU (by omega)]
  rfl
theorem qoK (ts:List (List UInt8)) (hl:ts.length≤1000000) (hb:∀ t∈ts,t.length≤25000):PCall Tryz.prog E0 44 [strs ts] (·=int (qfn ts)):=by
 refine qag mixed Tryz.func44 qgh ?_
 refine zV ?_
 rw [qbh]
 simp only [ZZ,WW,Ze,reduceCtorEq,zd,ze,za,zf,zb,qac]
 refine br ?_ ?_
 ·intro h
  refine zS ?_
  have:=of_decide_eq_true h
  rw [qfn,if_pos (by omega)]
 intro h
 have hle:¬ 200 < ts.length:=by have:=of_decide_eq_false h;omega
 refine zS ?_
 rw [show qfn ts=qaf ((zz ts.length).map (qi9 ts)) from by rw [qfn,if_neg hle]]
 have hget:=fun {k:Nat} (h:k < ts.length)=>qaK _ k _ (qo3 ts h)
 generalize hG:(zz ts.length).map (qi9 ts)=G at *
 have hGl:G.length=ts.length:=by rw [← hG];simp
 refine qae (fun n fr L=>∃ (k:Nat),k≤ts.length∧n=ts.length - k∧(qaf G=qaf (G.drop k))∧fr=(.p (.sl 1 (strE ts))::oD (.p (.sl 1 (strE ts))::.p (int (ts.length:Nat))::.p (int (k:Nat))::oF (oD (oB []))))∧L=[]) (ts.length) _ [] (by simp only [ZZ,WW,Ze,reduceCtorEq,zd,ze,za,zf,zb,qac];try trivial) zF_ ⟨0,by omega,by omega,by simp,rfl,rfl⟩ ?_
 rintro n fr L ⟨k,hk,rfl,hf,rfl,rfl⟩
 simp only [qcE,ZZ,WW,Ze,reduceCtorEq,zd,ze,za,zf,zb]
 refine br ?_ ?_
 ·intro h
  have hlt:k < ts.length:=by have:=of_decide_eq_true h;omega
  obtain ⟨t,ht⟩:∃ t,ts[k]?=some t:=⟨_,zh hlt⟩
  obtain ⟨u,hu⟩:∃ u,ts[k - 1]?=some u:=⟨_,zh (by omega)⟩
  have hg:=qaD ht
  have hg2:=qaD hu
  have htd:ts.getD k []=t:=by simp [zy,ht]
  have hud:ts.getD (k - 1) []=u:=by simp [zy,hu]
  have hbt:=hb t (zl ht)
  have hW:=qld t hbt
  have hd:=hget hlt
  simp only [ZZ,WW,Ze,reduceCtorEq,zd,ze,za,zf,zb,hg,qac]
  ((with_reducible and_intros)<;>try exact sc_)
  refine use1 (qns t (by omega)) rfl (.inl rfl) ?_
  rw [qbh]
  simp only [ZZ,WW,Ze,reduceCtorEq,zd,ze,za,zf,zb,qac]
  refine use1 (qb3 (qbg t) (by omega) (zB hW.2 (by decide))) rfl (.inl rfl) ?_
  simp only [ZZ,WW,Ze,reduceCtorEq,zd,ze,za,zf,zb,qac]
  ((with_reducible and_intros)<;>try exact sc_)
  refine useG (fun _=>qlm t (by omega)) rfl (.inl rfl) ?_
  refine zS ?_
  generalize hform:(decide (qaV (qbg t)=t) && inE (qbg t).length 1 8 && decide ((t.length:Int)≤60) && Lib.validD t)=b
  have he:qi9 ts k=if b=false then 3 else if (decide (0 < k) && leS t u)=true then 7 else 0:=by rw [qi9,htd,hud,qyB,hform]
  have hn1:((k:Int) - 1).toNat=k - 1:=by omega
  refine ⟨fun h=>by rw [h];rfl,?_⟩
  refine br ?_ ?_
  ·intro hx
   have:b=false:=by
    rw [← hform]
    cases hb1:decide (qaV (qbg t)=t)<;>cases hb2:Lib.validD t<;>simp [inE] at *<;>simp_all<;>omega
   refine zS ?_
   rw [hf,hd,he,if_pos this]
   rfl
  intro hx
  have hb0:b=true:=by
   rw [← hform]
   cases hb1:decide (qaV (qbg t)=t)<;>cases hb2:Lib.validD t<;>simp [inE] at *<;>simp_all<;>omega
  rw [if_neg (by rw [hb0];simp)] at he
  simp only [ZZ,WW,Ze,reduceCtorEq,zd,ze,za,zf,zb,hn1,hg2,qac]
  ((with_reducible and_intros)<;>try exact sc_)
  refine br ?_ ?_
  ·intro h7
   have:(decide (0 < k) && leS t u)=true:=by simpa [leS] using h7
   refine zS ?_
   rw [hf,hd,he,if_pos this]
   rfl
  intro h7
  have:¬ (decide (0 < k) && leS t u)=true:=by simpa [leS] using h7
  refine zS ?_
  refine ⟨qam (by omega) (by omega),?_⟩
  refine qab (ts.length - (k+1)) _ [] (by omega) zF_ zF_ ⟨k+1,by omega,rfl,by rw [hf,hd,he,if_neg this];rfl,rfl,rfl⟩
 ·intro h
  have hge:ts.length≤k:=by have:=of_decide_eq_false h;omega
  refine zS ?_
  rw [hf,zU (by omega)]
  rfl
def qiu (s x:List UInt8):Bool:=decide (0≤Lib.index s (32 :: (x++[32])))
def qew (ts:List (List UInt8)) (t:List UInt8):List (List UInt8):=ts.filter (qiu (32 :: (qaV (qbg t)++[32])))
theorem qvN (ts:List (List UInt8)) (t:List UInt8) (hl:ts.length≤1000000) (hb:∀ x∈ts,x.length≤25000) (ht:t.length≤25000):PCall Tryz.prog E0 103 [strs ts,.str t] (·=strs (qew ts t)):=by
 rw [qbh (qew ts t)]
 refine qnV (e:=tStr) ?_
 unfold FCall
 refine qe1 mixed Tryz.func103 qjE ?_
 refine zV ?_
 have hW:=qld t ht
 refine use1 (qr5 t (by omega)) rfl (.inl rfl) ?_
 rw [qbh,qbh]
 refine zS ?_
 refine use1 (qb3 (qbg t) (by omega) (zB hW.2 (by decide))) rfl (.inl rfl) ?_
 simp only [ZZ,WW,Ze,reduceCtorEq,zd,ze,za,zf,zb,qac]
 refine ⟨by simp;omega,by simp;omega,?_⟩
 have hJ:(32 :: (qaV (qbg t)++[32])).length≤900000002:=by simp;omega
 have hF:qew ts t=ts.filter (qiu (32 :: (qaV (qbg t)++[32]))):=rfl
 rw [hF]
 generalize (32 :: (qaV (qbg t)++[32]):List UInt8)=s at hJ ⊢
 refine qae (fun n fr L=>∃ (k:Nat) (l:List (List UInt8)),k≤ts.length∧n=ts.length - k∧(l=(ts.take k).filter (qiu s))∧fr=(oC (oo::(.p (.str s)::.row (.l 6)::oC (oB (oo::(.p (.sl 1 (strE ts))::.p (int (ts.length:Nat))::.p (int (k:Nat))::oD (oC (oB []))))))))∧L=[(.l 6,.row (strE l) tStr 1 true)]) (ts.length) _ _ zF_ zF_ ⟨0,[],by omega,by omega,by simp,rfl,rfl⟩ ?_
 rintro n fr L ⟨k,l,hk,rfl,hl2,rfl,rfl⟩
 simp only [qdU,ZZ,WW,Ze,reduceCtorEq,zd,ze,za,zf,zb]
 refine br ?_ ?_
 ·intro h
  have hlt:k < ts.length:=by have:=of_decide_eq_true h;omega
  obtain ⟨x,hx⟩:∃ x,ts[k]?=some x:=⟨_,zh hlt⟩
  have hg:=qaD hx
  have hbx:=hb x (zl hx)
  have hlk:l.length≤ts.length:=by rw [hl2];exact zB (List.length_filter_le _ _) (by simp;omega)
  have hnx:(ts.take (k+1)).filter (qiu s)=if qiu s x=true then l++[x] else l:=by
   rw [zI hlt,List.filter_append,← hl2,(zm.1 hx).2]
   cases hm:qiu s x<;>simp [hm]
  simp only [ZZ,WW,Ze,reduceCtorEq,zd,ze,za,zf,zb,hg,qac]
  ((with_reducible and_intros)<;>try exact sc_)
  refine use1 (qgt s (32 :: (x++[32])) (by omega)) rfl (.inl rfl) ?_
  refine zS ?_
  refine br ?_ ?_
  ·intro hm
   have hm:qiu s x=true:=hm
   simp only [ZZ,WW,Ze,reduceCtorEq,zd,ze,za,zf,zb,qac]
   refine ⟨by omega,?_⟩
   refine qad zE_ ?_
   refine zS ?_
   refine ⟨qam (by omega) (by omega),?_⟩
   rw [qal,← qdO]
   refine qab (ts.length - (k+1)) _ _ (by omega) zF_ zF_ ⟨k+1,l++[x],by omega,rfl,by rw [hnx,if_pos hm],rfl,rfl⟩
  ·intro hm
   have hm:qiu s x=false:=hm
   refine zS ?_
   refine qad zE_ ?_
   refine zS ?_
   refine ⟨qam (by omega) (by omega),?_⟩
   refine qab (ts.length - (k+1)) _ _ (by omega) zF_ zF_ ⟨k+1,l,by omega,rfl,by rw [hnx,if_neg (by simp [hm])],rfl,rfl⟩
 ·intro h
  have hge:k=ts.length:=by have:=of_decide_eq_false h;omega
  subst hge
  rw [ya] at hl2
  subst hl2
  refine zS ?_
  exact qiM 6 _ rfl rfl rfl
theorem qsN (ts:List (List UInt8)) (t:List UInt8) (hl:ts.length≤1000000) (hb:∀ x∈ts,x.length≤25000) (ht:t.length≤25000):PCall Tryz.prog E0 67 [strs ts,.str t] (·=strs (qew ts t)):=by
 rw [qbh (qew ts t)]
 refine qnV (e:=tStr) ?_
 unfold FCall
 refine qe1 mixed Tryz.func67 qij ?_
 refine zV ?_
 have hW:=qld t ht
 refine use1 (qns t (by omega)) rfl (.inl rfl) ?_
 rw [qbh,qbh]
 refine zS ?_
 refine use1 (qb3 (qbg t) (by omega) (zB hW.2 (by decide))) rfl (.inl rfl) ?_
 simp only [ZZ,WW,Ze,reduceCtorEq,zd,ze,za,zf,zb,qac]
 refine ⟨by simp;omega,by simp;omega,?_⟩
 have hJ:(32 :: (qaV (qbg t)++[32])).length≤900000002:=by simp;omega
 have hF:qew ts t=ts.filter (qiu (32 :: (qaV (qbg t)++[32]))):=rfl
 rw [hF]
 generalize (32 :: (qaV (qbg t)++[32]):List UInt8)=s at hJ ⊢
 refine qae (fun n fr L=>∃ (k:Nat) (l:List (List UInt8)),k≤ts.length∧n=ts.length - k∧(l=(ts.take k).filter (qiu s))∧fr=(oC (oo::(.p (.str s)::.row (.l 6)::oC (oB (oo::(.p (.sl 1 (strE ts))::.p (int (ts.length:Nat))::.p (int (k:Nat))::oD (oC (oB []))))))))∧L=[(.l 6,.row (strE l) tStr 1 true)]) (ts.length) _ _ zF_ zF_ ⟨0,[],by omega,by omega,by simp,rfl,rfl⟩ ?_
 rintro n fr L ⟨k,l,hk,rfl,hl2,rfl,rfl⟩
 simp only [qdu,ZZ,WW,Ze,reduceCtorEq,zd,ze,za,zf,zb]
 refine br ?_ ?_
 ·intro h
  have hlt:k < ts.length:=by have:=of_decide_eq_true h;omega
  obtain ⟨x,hx⟩:∃ x,ts[k]?=some x:=⟨_,zh hlt⟩
  have hg:=qaD hx
  have hbx:=hb x (zl hx)
  have hlk:l.length≤ts.length:=by rw [hl2];exact zB (List.length_filter_le _ _) (by simp;omega)
  have hnx:(ts.take (k+1)).filter (qiu s)=if qiu s x=true then l++[x] else l:=by
   rw [zI hlt,List.filter_append,← hl2,(zm.1 hx).2]
   cases hm:qiu s x<;>simp [hm]
  simp only [ZZ,WW,Ze,reduceCtorEq,zd,ze,za,zf,zb,hg,qac]
  ((with_reducible and_intros)<;>try exact sc_)
  refine use1 (qgt s (32 :: (x++[32])) (by omega)) rfl (.inl rfl) ?_
  refine zS ?_
  refine br ?_ ?_
  ·intro hm
   have hm:qiu s x=true:=hm
   simp only [ZZ,WW,Ze,reduceCtorEq,zd,ze,za,zf,zb,qac]
   refine ⟨by omega,?_⟩
   refine qad zE_ ?_
   refine zS ?_
   refine ⟨qam (by omega) (by omega),?_⟩
   rw [qal,← qdO]
   refine qab (ts.length - (k+1)) _ _ (by omega) zF_ zF_ ⟨k+1,l++[x],by omega,rfl,by rw [hnx,if_pos hm],rfl,rfl⟩
  ·intro hm
   have hm:qiu s x=false:=hm
   refine zS ?_
   refine qad zE_ ?_
   refine zS ?_
   refine ⟨qam (by omega) (by omega),?_⟩
   refine qab (ts.length - (k+1)) _ _ (by omega) zF_ zF_ ⟨k+1,l,by omega,rfl,by rw [hnx,if_neg (by simp [hm])],rfl,rfl⟩
 ·intro h
  have hge:k=ts.length:=by have:=of_decide_eq_false h;omega
  subst hge
  rw [ya] at hl2
  subst hl2
  refine zS ?_
  exact qiM 6 _ rfl rfl rfl
end
abbrev qgJ:IC:=(sR [jI 4 0] (sR [qM 5 0,jC 6 166 [.t 5,.c (.int .i64 1),.c (.int .i64 3)],qO 7 (.not (.t 6)),qM 8 7,⟨some 9,.mov (.t 1),(some (8,false))⟩,⟨some 10,.call 166 [.t 9,.c (.int .i64 1),.c (.int .i64 4)],(some (8,false))⟩,⟨some 11,.not (.t 10),(some (8,false))⟩,qO 12 (.pick (.t 8) (.c (.bool true)) (.t 11)),jC 13 99 [.t 12,.c (.int .i64 4)],qM 4 13] .ret))
theorem qgT:chkF Tryz.prog Tryz.f164 qgJ [.t 4] 14=true:=by kernel_rfl
abbrev qgI:IC:=(sR [jI 2 0] (sR [qM 3 0,jC 4 163 [.t 3],qO 5 (.not (.t 4)),jC 6 99 [.t 5,.c (.int .i64 3)],qM 2 6] .ret))
theorem qgS:chkF Tryz.prog Tryz.f100 qgI [.t 2] 7=true:=by kernel_rfl
def qcd:IC:=(sR [qT 12 .lss 11 10] (.seq (jE 12) (.seq (.block 1 (sR [qM 13 11,qX 14 3 9 11,qO 15 (.ld 3 true (.t 14)),qO 4 (.alc 70 [.str [],.int .i64 0,.int .i64 0]),qM 3 13,qS 3 4 15] (.seq (.drg [wF 16 0 4,qL 17 16,qO 18 (.pcall 0 163 [.t 17]),qO 19 (.not (.t 18)),qO 20 (.pcall 1 99 [.t 19,.c (.int .i64 3)]),qM 21 3,qB 22 .gtr 21 (cI 0),qM 23 22,⟨some 24,.fla 0 (.t 4),(some (23,true))⟩,⟨some 25,.ld 1 false (.t 24),(some (23,true))⟩,⟨some 26,.mov (.t 0),(some (23,true))⟩,⟨some 27,.mov (.t 3),(some (23,true))⟩,⟨some 28,.mx (.t 27) (cI 1),(some (23,true))⟩,⟨some 29,.bin .sub (.t 28) (cI 1),(some (23,true))⟩,⟨some 30,.ixa 3 (.t 26) (.t 29),(some (23,true))⟩,⟨some 31,.fla 0 (.t 30),(some (23,true))⟩,⟨some 32,.ld 1 false (.t 31),(some (23,true))⟩,⟨some 33,.bin .leq (.t 25) (.t 32),(some (23,true))⟩,qO 34 (.pick (.t 23) (.t 33) (.c (.bool false))),qO 35 (.pcall 2 99 [.t 34,.c (.int .i64 7)]),wF 36 1 4,qL 37 36,wF 38 2 4,qL 39 38,qO 40 (.pcall 3 164 [.t 37,.t 39]),qO 41 (.bsl 1 [.t 20,.t 35,.t 40]),qO 42 (.pcall 4 38 [.t 41]),qM 5 42]) (sR [qM 43 5,qB 44 .neq 43 (cI 0)] (jW 44 (sR [qM 45 5,qM 2 45] .ret)))))) (.reg [qB 46 .add 11 (cI 1),qM 11 46]))))
abbrev qfy:IC:=(sR [jI 2 0] (.seq (sR [qM 6 0,qN 7 6,qB 8 .gtr 7 (cI 200)] (jW 8 (sR [jI 2 2] .ret))) (.seq (sR [qM 9 0,qN 10 9,jI 11 0] (.block 0 (.loop qcd))) (sR [jI 2 0] .ret))))
theorem qfN:chkF Tryz.prog Tryz.f96 qfy [.t 2] 47=true:=by kernel_rfl
def qcf:IC:=(sR [qT 11 .lss 10 9] (.seq (jE 11) (.seq (.block 1 (sR [qM 12 10,qX 13 3 8 10,qO 14 (.ld 3 true (.t 13)),qO 4 (.alc 70 [.str [],.int .i64 0,.int .i64 0]),qM 3 12,qS 3 4 14] (.block 2 (sR [wF 16 0 4,qL 17 16,jC 18 45 [.t 17],qO 19 (.not (.t 18)),qM 15 19] (.cond (.t 15) (sR [jI 2 3] .ret) (.seq (.drg [qM 21 3,qB 22 .gtr 21 (cI 0),qM 23 22,⟨some 24,.fla 0 (.t 4),(some (23,true))⟩,⟨some 25,.ld 1 false (.t 24),(some (23,true))⟩,⟨some 26,.mov (.t 0),(some (23,true))⟩,⟨some 27,.mov (.t 3),(some (23,true))⟩,⟨some 28,.bin .sub (.t 27) (cI 1),(some (23,true))⟩,⟨some 29,.ixa 3 (.t 26) (.t 28),(some (23,true))⟩,⟨some 30,.fla 0 (.t 29),(some (23,true))⟩,⟨some 31,.ld 1 false (.t 30),(some (23,true))⟩,⟨some 32,.bin .leq (.t 25) (.t 31),(some (23,true))⟩,qO 33 (.pick (.t 23) (.t 32) (.c (.bool false))),qM 20 33]) (.cond (.t 20) (sR [jI 2 7] .ret) (sR [wF 35 1 4,qL 36 35,qB 37 .lss 36 (cI 1),qM 38 37,⟨some 39,.fla 1 (.t 4),(some (38,false))⟩,⟨some 40,.ld 1 false (.t 39),(some (38,false))⟩,⟨some 41,.bin .gtr (.t 40) (cI 3),(some (38,false))⟩,qO 42 (.pick (.t 38) (.c (.bool true)) (.t 41)),qM 43 42,⟨some 44,.fla 2 (.t 4),(some (43,false))⟩,⟨some 45,.ld 1 false (.t 44),(some (43,false))⟩,⟨some 46,.bin .lss (.t 45) (cI 1),(some (43,false))⟩,qO 47 (.pick (.t 43) (.c (.bool true)) (.t 46)),qM 48 47,⟨some 49,.fla 2 (.t 4),(some (48,false))⟩,⟨some 50,.ld 1 false (.t 49),(some (48,false))⟩,⟨some 51,.bin .gtr (.t 50) (cI 4),(some (48,false))⟩,qO 52 (.pick (.t 48) (.c (.bool true)) (.t 51)),qM 34 52] (jW 34 (sR [jI 2 4] .ret)))))))))) (.reg [qB 53 .add 10 (cI 1),qM 10 53]))))
abbrev qfA:IC:=(sR [jI 2 0] (.seq (sR [qM 5 0,qN 6 5,qB 7 .gtr 6 (cI 200)] (jW 7 (sR [jI 2 2] .ret))) (.seq (sR [qM 8 0,qN 9 8,jI 10 0] (.block 0 (.loop qcf))) (sR [jI 2 0] .ret))))
theorem qfP:chkF Tryz.prog Tryz.f42 qfA [.t 2] 54=true:=by kernel_rfl
def qbX:IC:=(sR [qT 14 .lss 13 12] (.seq (jE 14) (.seq (.block 1 (sR [qX 15 3 11 13,qO 16 (.ld 3 true (.t 15)),qO 5 (.alc 72 [.str [],.int .i64 0,.int .i64 0]),qS 3 5 16] (.seq (.seq (.drg [wF 17 0 5,qL 18 17,qO 19 (.bin .add (.c (.str [120,64])) (.t 18)),qO 20 (.pcall 0 100 [.t 19]),qM 21 3,wF 22 0 5,qL 23 22,qO 24 (.mpl false (.bool false) (.t 21) (.t 23)),qO 25 (.pcall 1 99 [.t 24,.c (.int .i64 6)]),wF 26 1 5,qL 27 26,wF 28 2 5,qL 29 28,qO 30 (.pcall 2 164 [.t 27,.t 29]),qO 31 (.bsl 1 [.t 20,.t 25,.t 30]),qO 32 (.pcall 3 38 [.t 31]),qM 6 32]) (sR [qM 33 6,qB 34 .neq 33 (cI 0)] (jW 34 (sR [qM 35 6,qM 2 35] .ret)))) (.reg [qM 36 3,wF 37 0 5,qL 38 37,⟨none,.mpu (.t 36) (.t 38) (.c (.bool true)),none⟩])))) (.reg [qB 39 .add 13 (cI 1),qM 13 39]))))
abbrev qe4:IC:=(sR [jI 2 0] (.seq (sR [qM 7 0,qN 8 7,qB 9 .gtr 8 (cI 100)] (jW 9 (sR [jI 2 2] .ret))) (sR [qO 10 (.mkm 9 4),qM 3 10] (.seq (sR [qM 11 0,qN 12 11,jI 13 0] (.block 0 (.loop qbX))) (sR [jI 2 0] .ret)))))
theorem qfc:chkF Tryz.prog Tryz.f97 qe4 [.t 2] 40=true:=by kernel_rfl
def qb0:IC:=(sR [qT 11 .lss 10 9] (.seq (jE 11) (.seq (.block 1 (sR [qM 12 10,qX 13 3 8 10,qO 14 (.ld 3 true (.t 13)),qO 4 (.alc 72 [.str [],.int .i64 0,.int .i64 0]),qM 3 12,qS 3 4 14] (.block 2 (sR [wF 16 0 4,qL 17 16,qO 18 (.bin .add (.c (.str [120,64])) (.t 17)),jC 19 45 [.t 18],qO 20 (.not (.t 19)),qM 15 20] (.cond (.t 15) (sR [jI 2 3] .ret) (sR [qM 22 0,qM 23 3,qO 24 (.vsl 3 (.t 22) none (some (.t 23))),qO 25 (.mkf 107 [.t 4]),jC 26 106 [.t 24,.t 25],qM 21 26] (.cond (.t 21) (sR [jI 2 6] .ret) (sR [wF 28 1 4,qL 29 28,qB 30 .lss 29 (cI 1),qM 31 30,⟨some 32,.fla 1 (.t 4),(some (31,false))⟩,⟨some 33,.ld 1 false (.t 32),(some (31,false))⟩,⟨some 34,.bin .gtr (.t 33) (cI 3),(some (31,false))⟩,qO 35 (.pick (.t 31) (.c (.bool true)) (.t 34)),qM 36 35,⟨some 37,.fla 2 (.t 4),(some (36,false))⟩,⟨some 38,.ld 1 false (.t 37),(some (36,false))⟩,⟨some 39,.bin .lss (.t 38) (cI 1),(some (36,false))⟩,qO 40 (.pick (.t 36) (.c (.bool true)) (.t 39)),qM 41 40,⟨some 42,.fla 2 (.t 4),(some (41,false))⟩,⟨some 43,.ld 1 false (.t 42),(some (41,false))⟩,⟨some 44,.bin .gtr (.t 43) (cI 4),(some (41,false))⟩,qO 45 (.pick (.t 41) (.c (.bool true)) (.t 44)),qM 27 45] (jW 27 (sR [jI 2 4] .ret)))))))))) (.reg [qB 46 .add 10 (cI 1),qM 10 46]))))
abbrev qe7:IC:=(sR [jI 2 0] (.seq (sR [qM 5 0,qN 6 5,qB 7 .gtr 6 (cI 100)] (jW 7 (sR [jI 2 2] .ret))) (.seq (sR [qM 8 0,qN 9 8,jI 10 0] (.block 0 (.loop qb0))) (sR [jI 2 0] .ret))))
theorem qff:chkF Tryz.prog Tryz.f43 qe7 [.t 2] 47=true:=by kernel_rfl
def qck:IC:=(sR [qO 2 (.box 72 (.t 0)),qO 3 (.mov (.c (.bool false)))] (sR [wF 4 0 2,qL 5 4,wF 6 0 1,qL 7 6,qT 8 .eql 5 7,qM 3 8] .ret))
theorem qeA:chkF Tryz.prog Tryz.f107 qck [.t 3] 9=true:=by kernel_rfl
def qaT:IC:=(sR [qT 9 .lss 8 7] (.seq (jE 9) (.seq (.block 1 (sR [qM 10 8,qM 5 10] (sR [qM 11 1,qM 12 0,qM 13 5,qX 14 3 12 13,qO 15 (.ld 3 true (.t 14)),qO 16 (.callv (.t 11) [.t 15])] (jW 16 (sR [qM 17 5,qM 4 17] .ret))))) (.reg [qB 18 .add 8 (cI 1),qM 8 18]))))
abbrev qbS:IC:=(sR [jI 4 0] (.seq (sR [qM 6 0,qN 7 6,jI 8 0] (.block 0 (.loop qaT))) (sR [jI 4 (-1)] .ret)))
theorem qbU:chkF Tryz.prog Tryz.f170 qbS [.t 4] 19=true:=by kernel_rfl
abbrev qbE:IC:=(sR [qO 4 (.mov (.c (.bool false)))] (sR [qM 5 0,qM 6 1,jC 7 170 [.t 5,.t 6],qB 8 .geq 7 (cI 0),qM 4 8] .ret))
theorem qbF:chkF Tryz.prog Tryz.f106 qbE [.t 4] 9=true:=by kernel_rfl
def parE (l:List Par):List (List PV):=l.map par
theorem qay (l:List Par):(parE l).length=l.length:=by simp [parE]
theorem qct {l:List Par} {k:Nat} {x:Par} (h:l[k]?=some x):(parE l).getD k []=[.str x.1,int x.2.1,int x.2.2]:=qa5 h
def p00:Par:=([],0,0)
def qsu (p:Par):Bool:=inE p.2.1 1 3 && inE p.2.2 1 4
def qhV (p:Par):Int:=qap (!qsu p) 4
section
variable {E:Envt}
theorem qkB (a b:Int):PCall Tryz.prog E 164 [int a,int b] (·=int (qhV ([],a,b))):=by
 refine qag mixed Tryz.func164 qgT ?_
 refine zV ?_
 refine use1 (qq8 _ _ _) rfl (.inl rfl) ?_
 refine zS ?_
 refine useG (fun _=>qq8 _ _ _) rfl (.inl rfl) ?_
 refine zS ?_
 ((with_reducible and_intros)<;>try exact sc_)
 refine use1 (qbC _ _) rfl (.inl rfl) ?_
 refine zS ?_
 unfold qhV qsu
 congr 2
 cases inE a 1 3<;>cases inE b 1 4<;>rfl
end
theorem qkz (s:List UInt8) (hs:s.length≤1000000000):PCall Tryz.prog E0 100 [.str s] (·=int (qap (!qcN s) 3)):=by
 refine qag mixed Tryz.func100 qgS ?_
 refine zV ?_
 refine use1 (qml s hs) rfl (.inl rfl) ?_
 refine zS ?_
 refine use1 (qbC _ _) rfl (.inl rfl) ?_
 simp only [ZZ,WW,Ze,reduceCtorEq,zd,ze,za,zf,zb]
def ordB (l:List Par) (k:Nat):Bool:=decide (0 < k) && leS (l.getD k p00).1 (l.getD (k - 1) p00).1
def qbl (l:List Par) (k:Nat):Int:=qaf [qap (!qcN (l.getD k p00).1) 3,qap (ordB l k) 7,qhV (l.getD k p00)]
def qb8 (l:List Par):Int:=if 200 < l.length then 2 else qaf ((zz l.length).map (qbl l))
theorem qeO {n:Nat} (f:Nat→Int) {k:Nat} (h:k < n):((zz n).map f)[k]?=some (f k):=by
 rw [zE,ye h];rfl
theorem qmT (l:List Par) (hl:l.length≤1000000) (hb:∀ p∈l,p.1.length≤1000000):PCall Tryz.prog E0 96 [.sl 3 (parE l)] (·=int (qb8 l)):=by
 refine qag mixed Tryz.func96 qfN ?_
 refine zV ?_
 simp only [ZZ,WW,Ze,reduceCtorEq,zd,ze,za,zf,zb,qay]
 refine br ?_ ?_
 ·intro h
  refine zS ?_
  have:=of_decide_eq_true h
  rw [qb8,if_pos (by omega)]
 intro h
 have hle:¬ 200 < l.length:=by have:=of_decide_eq_false h;omega
 refine zS ?_
 rw [show qb8 l=qaf ((zz l.length).map (qbl l)) from by rw [qb8,if_neg hle]]
 have hget:=fun {k:Nat} (h:k < l.length)=>qaK _ k _ (qeO (qbl l) h)
 generalize hG:(zz l.length).map (qbl l)=G at *
 have hGl:G.length=l.length:=by rw [← hG];simp
 refine qae (fun n fr L=>∃ (k:Nat),k≤l.length∧n=l.length - k∧(qaf G=qaf (G.drop k))∧fr=(.p (.sl 3 (parE l))::oD (.p (.sl 3 (parE l))::.p (int (l.length:Nat))::.p (int (k:Nat))::oF (oB (oo::[]))))∧L=[]) (l.length) _ [] (by simp only [ZZ,WW,Ze,reduceCtorEq,zd,ze,za,zf,zb,qay];try trivial) zF_ ⟨0,by omega,by omega,by simp,rfl,rfl⟩ ?_
 rintro n fr L ⟨k,hk,rfl,hf,rfl,rfl⟩
 simp only [qcd,ZZ,WW,Ze,reduceCtorEq,zd,ze,za,zf,zb]
 refine br ?_ ?_
 ·intro h
  have hlt:k < l.length:=by have:=of_decide_eq_true h;omega
  obtain ⟨x,hx⟩:∃ x,l[k]?=some x:=⟨_,zh hlt⟩
  obtain ⟨y,hy⟩:∃ y,l[k - 1]?=some y:=⟨_,zh (by omega)⟩
  have hg:=qct hx
  have hg2:=qct hy
  have hxd:l.getD k p00=x:=by simp [zy,hx]
  have hyd:l.getD (k - 1) p00=y:=by simp [zy,hy]
  have hbx:=hb x (zl hx)
  have hd:=hget hlt
  have hn1:(max (k:Int) 1 - 1).toNat=k - 1:=by omega
  have he:qaf [qap (!qcN x.1) 3,qap (decide (0 < (k:Int)) && (bytesLess x.1 y.1 || decide (x.1=y.1))) 7,qhV ([],x.2.1,x.2.2)]=qbl l k:=by
   rw [qbl,ordB,hxd,hyd,leS]
   have:decide (0 < (k:Int))=decide (0 < k):=by simp
   rw [this]
   rfl
  simp only [ZZ,WW,Ze,reduceCtorEq,zd,ze,za,zf,zb,hg,qay]
  ((with_reducible and_intros)<;>try exact sc_)
  refine drg5 (x1:=.bool (qcN x.1)) (x2:=int (qap (!qcN x.1) 3)) (x3:=int (qap (decide (0 < (k:Int)) && (bytesLess x.1 y.1 || decide (x.1=y.1))) 7)) (x4:=int (qhV ([],x.2.1,x.2.2))) (x5:=int (qbl l k)) ?_
  simp only [ZZ,WW,Ze,reduceCtorEq,zd,ze,za,zf,zb,hn1,hg2,qay]
  ((repeat' (with_reducible apply And.intro))<;>try (first|exact usep (qml x.1 (by omega)) rfl (.inl rfl)|exact usep (qbC _ _) rfl (.inl rfl)|exact usep (qkB _ _) rfl (.inl rfl)|(rw [← he];exact usep (qbv [_,_,_] (by simp)) rfl (.inl rfl))|(exact sc_)))
  refine br ?_ ?_
  ·intro h7
   have:¬ qbl l k=0:=by simpa using h7
   refine zS ?_
   rw [hf,hd,if_neg this]
  intro h7
  have:qbl l k=0:=by simpa using h7
  refine zS ?_
  refine ⟨qam (by omega) (by omega),?_⟩
  refine qab (l.length - (k+1)) _ [] (by omega) zF_ zF_ ⟨k+1,by omega,rfl,by rw [hf,hd,if_pos this],rfl,rfl⟩
 ·intro h
  have hge:l.length≤k:=by have:=of_decide_eq_false h;omega
  refine zS ?_
  rw [hf,zU (by omega)]
  rfl
theorem qtY (a b:Int):(((decide (a < 1) || decide (3 < a)) || decide (b < 1)) || decide (4 < b))=!(inE a 1 3 && inE b 1 4):=by
 unfold inE
 by_cases h1:a < 1<;>by_cases h2:3 < a<;>by_cases h3:b < 1<;>by_cases h4:4 < b<;>simp [h1,h2,h3,h4]<;>omega
theorem qmO (l:List Par) (hl:l.length≤1000000) (hb:∀ p∈l,p.1.length≤1000000):PCall Tryz.prog E0 42 [.sl 3 (parE l)] (·=int (qb8 l)):=by
 refine qag mixed Tryz.func42 qfP ?_
 refine zV ?_
 simp only [ZZ,WW,Ze,reduceCtorEq,zd,ze,za,zf,zb,qay]
 refine br ?_ ?_
 ·intro h
  refine zS ?_
  have:=of_decide_eq_true h
  rw [qb8,if_pos (by omega)]
 intro h
 have hle:¬ 200 < l.length:=by have:=of_decide_eq_false h;omega
 refine zS ?_
 rw [show qb8 l=qaf ((zz l.length).map (qbl l)) from by rw [qb8,if_neg hle]]
 have hget:=fun {k:Nat} (h:k < l.length)=>qaK _ k _ (qeO (qbl l) h)
 generalize hG:(zz l.length).map (qbl l)=G at *
 have hGl:G.length=l.length:=by rw [← hG];simp
 refine qae (fun n fr L=>∃ (k:Nat),k≤l.length∧n=l.length - k∧(qaf G=qaf (G.drop k))∧fr=(.p (.sl 3 (parE l))::oC (oB (oo::(.p (.sl 3 (parE l))::.p (int (l.length:Nat))::.p (int (k:Nat))::oF (oD (oB (oo::[])))))))∧L=[]) (l.length) _ [] (by simp only [ZZ,WW,Ze,reduceCtorEq,zd,ze,za,zf,zb,qay];try trivial) zF_ ⟨0,by omega,by omega,by simp,rfl,rfl⟩ ?_
 rintro n fr L ⟨k,hk,rfl,hf,rfl,rfl⟩
 simp only [qcf,ZZ,WW,Ze,reduceCtorEq,zd,ze,za,zf,zb]
 refine br ?_ ?_
 ·intro h
  have hlt:k < l.length:=by have:=of_decide_eq_true h;omega
  obtain ⟨x,hx⟩:∃ x,l[k]?=some x:=⟨_,zh hlt⟩
  obtain ⟨y,hy⟩:∃ y,l[k - 1]?=some y:=⟨_,zh (by omega)⟩
  have hg:=qct hx
  have hg2:=qct hy
  have hxd:l.getD k p00=x:=by simp [zy,hx]
  have hyd:l.getD (k - 1) p00=y:=by simp [zy,hy]
  have hbx:=hb x (zl hx)
  have hd:=hget hlt
  have hn1:((k:Int) - 1).toNat=k - 1:=by omega
  have he:qbl l k=qaf [qap (!qcN x.1) 3,qap (decide (0 < k) && (bytesLess x.1 y.1 || decide (x.1=y.1))) 7,qhV x]:=by
   rw [qbl,ordB,hxd,hyd,leS]
  simp only [ZZ,WW,Ze,reduceCtorEq,zd,ze,za,zf,zb,hg,qay]
  ((with_reducible and_intros)<;>try exact sc_)
  refine use1 (qjV x.1 (by omega)) rfl (.inl rfl) ?_
  refine zS ?_
  refine br ?_ ?_
  ·intro hm
   have hm:qcN x.1=false:=by rwa [yb] at hm
   have he:qbl l k=3:=by rw [he,hm];rfl
   refine zS ?_
   rw [hf,hd,he]
   rfl
  intro hm
  have hm:qcN x.1=true:=by rwa [Bool.not_eq_false'] at hm
  refine zS ?_
  refine drg0 ?_
  simp only [ZZ,WW,Ze,reduceCtorEq,zd,ze,za,zf,zb,hn1,hg2,qay]
  ((with_reducible and_intros)<;>try exact sc_)
  refine br ?_ ?_
  ·intro ho
   have ho:(decide (0 < k) && (bytesLess x.1 y.1 || decide (x.1=y.1)))=true:=by simpa using ho
   have he:qbl l k=7:=by rw [he,hm,ho];rfl
   refine zS ?_
   rw [hf,hd,he]
   rfl
  intro ho
  have ho:(decide (0 < k) && (bytesLess x.1 y.1 || decide (x.1=y.1)))=false:=by
   have:decide (0 < (k:Int))=decide (0 < k):=by simp
   rwa [this] at ho
  have he:qbl l k=qhV x:=by rw [he,hm,ho];simp [qaf,qap];exact fun h=>h.symm
  refine zS ?_
  ((with_reducible and_intros)<;>try exact sc_)
  rw [qtY]
  refine br ?_ ?_
  ·intro hk
   have he:qbl l k=4:=by rw [he,qhV,qsu,qap,if_pos hk]
   refine zS ?_
   rw [hf,hd,he]
   rfl
  ·intro hk
   have he:qbl l k=0:=by rw [he,qhV,qsu,qap,if_neg (by rw [hk];simp)]
   refine zS ?_
   refine ⟨qam (by omega) (by omega),?_⟩
   refine qab (l.length - (k+1)) _ [] (by omega) zF_ zF_ ⟨k+1,by omega,rfl,by rw [hf,hd,if_pos he],rfl,rfl⟩
 ·intro h
  have hge:l.length≤k:=by have:=of_decide_eq_false h;omega
  refine zS ?_
  rw [hf,zU (by omega)]
  rfl
def xAt (s:List UInt8):List UInt8:=120 :: 64 :: s
def qik (l:List Par) (k:Nat):Bool:=(l.take k).any (fun p=>decide (p.1=(l.getD k p00).1))
def qbm (l:List Par) (k:Nat):Int:=qaf [qap (!qcN (xAt (l.getD k p00).1)) 3,qap (qik l k) 6,qhV (l.getD k p00)]
def qbu (l:List Par):Int:=if 100 < l.length then 2 else qaf ((zz l.length).map (qbm l))
theorem qtH (l:List Par) (k:Nat) (s:List UInt8):decide (s∈(l.take k).map (·.1))=(l.take k).any (fun p=>decide (p.1=s)):=by
 rw [Bool.eq_iff_iff,decide_eq_true_iff,List.any_eq_true,List.mem_map]
 simp
theorem qlX (l:List Par) (hl:l.length≤1000000) (hb:∀ p∈l,p.1.length≤1000000):PCall Tryz.prog E0 97 [.sl 3 (parE l)] (·=int (qbu l)):=by
 refine qag mixed Tryz.func97 qfc ?_
 refine zV ?_
 simp only [ZZ,WW,Ze,reduceCtorEq,zd,ze,za,zf,zb,qay]
 refine br ?_ ?_
 ·intro h
  refine zS ?_
  have:=of_decide_eq_true h
  rw [qbu,if_pos (by omega)]
 intro h
 have hle:¬ 100 < l.length:=by have:=of_decide_eq_false h;omega
 refine zS ?_
 rw [show qbu l=qaf ((zz l.length).map (qbm l)) from by rw [qbu,if_neg hle]]
 have hget:=fun {k:Nat} (h:k < l.length)=>qaK _ k _ (qeO (qbm l) h)
 generalize hG:(zz l.length).map (qbm l)=G at *
 have hGl:G.length=l.length:=by rw [← hG];simp
 refine qae (fun n fr L=>∃ (k:Nat) (kv:List (List UInt8×PV)),k≤l.length∧n=l.length - k∧(qaf G=qaf (G.drop k))∧(qkL kv ((l.take k).map (·.1)))∧fr=(oo::oo::oo::.mp (.l 10)::oC (oB (oo::(.p (.sl 3 (parE l))::.p (int (l.length:Nat))::.p (int (k:Nat))::oE (oD (oB []))))))∧L=[(.l 10,.map kv 9 4)]) (l.length) _ _ (by simp only [ZZ,WW,Ze,reduceCtorEq,zd,ze,za,zf,zb,qay];try trivial) zF_ ⟨0,[],by omega,by omega,by simp,qg5,rfl,rfl⟩ ?_
 rintro n fr L ⟨k,kv,hk,rfl,hf,hkv,rfl,rfl⟩
 simp only [qbX,ZZ,WW,Ze,reduceCtorEq,zd,ze,za,zf,zb]
 refine br ?_ ?_
 ·intro h
  have hlt:k < l.length:=by have:=of_decide_eq_true h;omega
  obtain ⟨x,hx⟩:∃ x,l[k]?=some x:=⟨_,zh hlt⟩
  have hg:=qct hx
  have hxd:l.getD k p00=x:=by simp [zy,hx]
  have hbx:=hb x (zl hx)
  have hd:=hget hlt
  have hsn:mpD kv x.1 (.bool false)=.bool (qik l k):=by
   rw [hkv x.1,qik,hxd,← qtH]
  have he:qaf [qap (!qcN (xAt x.1)) 3,qap (qik l k) 6,qhV ([],x.2.1,x.2.2)]=qbm l k:=by
   rw [qbm,hxd];rfl
  simp only [ZZ,WW,Ze,reduceCtorEq,zd,ze,za,zf,zb,hg,qay]
  ((with_reducible and_intros)<;>try exact sc_)
  refine drg4 (x1:=int (qap (!qcN (xAt x.1)) 3)) (x2:=int (qap (qik l k) 6)) (x3:=int (qhV ([],x.2.1,x.2.2))) (x4:=int (qbm l k)) ?_
  simp only [ZZ,WW,Ze,reduceCtorEq,zd,ze,za,zf,zb,hsn,qay]
  ((repeat' (with_reducible apply And.intro))<;>try (first|(simp;omega)|exact usep (qkz (xAt x.1) (by simp [xAt];omega)) rfl (.inl rfl)|exact usep (qbC _ _) rfl (.inl rfl)|exact usep (qkB _ _) rfl (.inl rfl)|(rw [← he];exact usep (qbv [_,_,_] (by simp)) rfl (.inl rfl))|(exact sc_)))
  refine br ?_ ?_
  ·intro h7
   have:¬ qbm l k=0:=by simpa using h7
   refine zS ?_
   rw [hf,hd,if_neg this]
  intro h7
  have:qbm l k=0:=by simpa using h7
  refine zS ?_
  refine ⟨qam (by omega) (by omega),?_⟩
  refine qab (l.length - (k+1)) _ _ (by omega) zF_ zF_ ⟨k+1,mpS kv x.1 (.bool true),by omega,rfl,by rw [hf,hd,if_pos this],by rw [zI hlt,List.map_append,(zm.1 hx).2];exact qbf hkv x.1,rfl,rfl⟩
 ·intro h
  have hge:l.length≤k:=by have:=of_decide_eq_false h;omega
  refine zS ?_
  rw [hf,zU (by omega)]
  rfl
theorem qoR {E:Envt} (l:List Par) (f:FuncId) (ps:List PV) (q:Par→Bool) (hl:l.length≤1000000000) (hfn:Unit→fnB Tryz.prog f=true) (hps:Zl [] (ps.map .p)=true) (hf:∀ x∈l,PCall Tryz.prog E f (.agg (par x) :: ps) (·=.bool (q x))) (hn:∀ x,Zbh [] (.p (.agg (par x)) :: ps.map .p)=some (.agg (par x) :: ps)) (hr:∀ x,Zbj (.p (.agg (par x)) :: ps.map .p)=true):PCall Tryz.prog E 170 [.sl 3 (parE l),.clo f ps] (·=int (idxF q l)):=by
 refine qag mixed Tryz.func170 qbU ?_
 refine zV ?_
 simp only [ZZ,WW,Ze,reduceCtorEq,zd,ze,za,zf,zb,qay]
 refine qae (fun n fr L=>∃ (k:Nat),k≤l.length∧n=l.length - k∧(∀ x∈l.take k,q x=false)∧fr=(.p (.sl 3 (parE l))::.p (.clo f ps)::oC (oo::(.p (int (l.length:Nat))::.p (int (k:Nat))::oD (oB []))))∧L=[]) (l.length) _ [] (by simp only [qay,ZZ,WW,Ze,reduceCtorEq,zd,ze,za,zf,zb];try trivial) zF_ ⟨0,by omega,by omega,by simp,rfl,rfl⟩ ?_
 rintro n fr L ⟨k,hk,rfl,hno,rfl,rfl⟩
 simp only [qaT,ZZ,WW,Ze,reduceCtorEq,zd,ze,za,zf,zb]
 refine br ?_ ?_
 ·intro h
  have hlt:k < l.length:=by have:=of_decide_eq_true h;omega
  obtain ⟨x,hx⟩:∃ x,l[k]?=some x:=⟨_,zh hlt⟩
  have hg:=qct hx
  simp only [ZZ,WW,Ze,reduceCtorEq,zd,ze,za,zf,zb,hg,qay,hfn ()]
  refine ⟨⟨by omega,by omega⟩,by omega,hps,?_⟩
  refine use1 (hf x (zl hx)) (hn x) (.inl (hr x)) ?_
  refine zS ?_
  refine br ?_ ?_
  ·intro hq
   refine zS ?_
   rw [qle hx hq hno]
  ·intro hq
   refine zS ?_
   ((with_reducible and_intros)<;>try exact sc_)
   refine qab (l.length - (k+1)) _ [] (by omega) zF_ zF_ ⟨k+1,by omega,rfl,by rw [zI hlt];intro y hy;rcases List.mem_append.1 hy with hy|hy;exact hno y hy;rw [List.mem_singleton] at hy;rw [hy,(zm.1 hx).2];exact hq,rfl,rfl⟩
 ·intro h
  have hge:l.length≤k:=by have:=of_decide_eq_false h;omega
  rw [List.take_of_length_le hge] at hno
  refine zS ?_
  rw [qjx hno]
theorem qk1 {E:Envt} (l:List Par) (f:FuncId) (ps:List PV) (q:Par→Bool) (hl:l.length≤1000000000) (hfn:Unit→fnB Tryz.prog f=true) (hps:Zl [] (ps.map .p)=true) (hf:∀ x∈l,PCall Tryz.prog E f (.agg (par x) :: ps) (·=.bool (q x))) (hn:∀ x,Zbh [] (.p (.agg (par x)) :: ps.map .p)=some (.agg (par x) :: ps)) (hr:∀ x,Zbj (.p (.agg (par x)) :: ps.map .p)=true):PCall Tryz.prog E 106 [.sl 3 (parE l),.clo f ps] (·=.bool (l.any q)):=by
 refine qag mixed Tryz.func106 qbF ?_
 refine zV ?_
 refine use1 (qoR l f ps q hl hfn hps hf hn hr) rfl (.inl rfl) ?_
 refine zS ?_
 rw [qlf]
theorem qkZ {E:Envt} (x y:Par):PCall Tryz.prog E 107 [.agg (par x),.ptr (par y)] (·=.bool (decide (x.1=y.1))):=by
 simp only [par]
 refine qag mixed Tryz.func107 qeA ?_
 simp only [a0,l0,OS.ao,XX,Nat.reduceSub,qck,ZZ,WW,Ze,reduceCtorEq,zd,ze,za,zf,zb]
theorem qmm (l:List Par) (hl:l.length≤1000000) (hb:∀ p∈l,p.1.length≤1000000):PCall Tryz.prog E0 43 [.sl 3 (parE l)] (·=int (qbu l)):=by
 refine qag mixed Tryz.func43 qff ?_
 refine zV ?_
 simp only [ZZ,WW,Ze,reduceCtorEq,zd,ze,za,zf,zb,qay]
 refine br ?_ ?_
 ·intro h
  refine zS ?_
  have:=of_decide_eq_true h
  rw [qbu,if_pos (by omega)]
 intro h
 have hle:¬ 100 < l.length:=by have:=of_decide_eq_false h;omega
 refine zS ?_
 rw [show qbu l=qaf ((zz l.length).map (qbm l)) from by rw [qbu,if_neg hle]]
 have hget:=fun {k:Nat} (h:k < l.length)=>qaK _ k _ (qeO (qbm l) h)
 generalize hG:(zz l.length).map (qbm l)=G at *
 have hGl:G.length=l.length:=by rw [← hG];simp
 refine qae (fun n fr L=>∃ (k:Nat),k≤l.length∧n=l.length - k∧(qaf G=qaf (G.drop k))∧fr=(.p (.sl 3 (parE l))::oC (oB (oo::(.p (.sl 3 (parE l))::.p (int (l.length:Nat))::.p (int (k:Nat))::oF (oC [])))))∧L=[]) (l.length) _ [] (by simp only [ZZ,WW,Ze,reduceCtorEq,zd,ze,za,zf,zb,qay];try trivial) zF_ ⟨0,by omega,by omega,by simp,rfl,rfl⟩ ?_
 rintro n fr L ⟨k,hk,rfl,hf,rfl,rfl⟩
 simp only [qb0,ZZ,WW,Ze,reduceCtorEq,zd,ze,za,zf,zb]
 refine br ?_ ?_
 ·intro h
  have hlt:k < l.length:=by have:=of_decide_eq_true h;omega
  obtain ⟨x,hx⟩:∃ x,l[k]?=some x:=⟨_,zh hlt⟩
  have hg:=qct hx
  have hxd:l.getD k p00=x:=by simp [zy,hx]
  have hbx:=hb x (zl hx)
  have hd:=hget hlt
  have he:qbm l k=qaf [qap (!qcN (xAt x.1)) 3,qap (qik l k) 6,qhV x]:=by rw [qbm,hxd]
  simp only [ZZ,WW,Ze,reduceCtorEq,zd,ze,za,zf,zb,hg,qay]
  ((repeat' (with_reducible apply And.intro))<;>try (first|(simp;omega)|(exact sc_)))
  refine use1 (qjV (xAt x.1) (by simp [xAt];omega)) rfl (.inl rfl) ?_
  refine zS ?_
  refine br ?_ ?_
  ·intro hm
   have hm:qcN (xAt x.1)=false:=by rwa [yb] at hm
   have he:qbm l k=3:=by rw [he,hm];rfl
   refine zS ?_
   rw [hf,hd,he]
   rfl
  intro hm
  have hm:qcN (xAt x.1)=true:=by rwa [Bool.not_eq_false'] at hm
  have htk:(parE l).take k=parE (l.take k):=by simp [parE,List.map_take]
  simp only [ZZ,WW,Ze,reduceCtorEq,zd,ze,za,zf,zb,qay,htk]
  refine ⟨⟨by omega,by omega⟩,?_⟩
  refine use1 (qk1 (l.take k) 107 [.ptr (par x)] (fun p=>decide (p.1=x.1)) (by simp;omega) (fun _=>by kernel_rfl) rfl (fun y _=>qkZ y x) (fun _=>rfl) (fun _=>rfl)) rfl (.inr rfl) ?_
  have htw:(l.take k).any (fun p=>decide (p.1=x.1))=qik l k:=by rw [qik,hxd]
  rw [htw]
  refine zS ?_
  refine br ?_ ?_
  ·intro ho
   have he:qbm l k=6:=by rw [he,hm,ho];rfl
   refine zS ?_
   rw [hf,hd,he]
   rfl
  intro ho
  have he:qbm l k=qhV x:=by rw [he,hm,ho];simp [qaf,qap];exact fun h=>h.symm
  refine zS ?_
  ((with_reducible and_intros)<;>try exact sc_)
  rw [qtY]
  refine br ?_ ?_
  ·intro hk
   have he:qbm l k=4:=by rw [he,qhV,qsu,qap,if_pos hk]
   refine zS ?_
   rw [hf,hd,he]
   rfl
  ·intro hk
   have he:qbm l k=0:=by rw [he,qhV,qsu,qap,if_neg (by rw [hk];simp)]
   refine zS ?_
   refine ⟨qam (by omega) (by omega),?_⟩
   refine qab (l.length - (k+1)) _ [] (by omega) zF_ zF_ ⟨k+1,by omega,rfl,by rw [hf,hd,if_pos he],rfl,rfl⟩
 ·intro h
  have hge:l.length≤k:=by have:=of_decide_eq_false h;omega
  refine zS ?_
  rw [hf,zU (by omega)]
  rfl
abbrev qix:IC:=(sR [qO 2 (.box 70 (.t 0)),jI 4 0] (sR [wF 5 0 2,qL 6 5,qM 7 1,jC 8 80 [.t 6,.t 7],qM 4 8] .ret))
theorem qiP:chkF Tryz.prog Tryz.f181 qix [.t 4] 9=true:=by kernel_rfl
def qaG:IC:=(.seq (sR [qM 15 9,qM 16 10,qT 17 .lss 15 16] (jE 17)) (.block 1 (sR [qM 18 9,qM 19 10,qT 20 .add 18 19,qO 21 (.cvi .u64 (.t 20)),qB 22 .shr 21 (.c (.int .u64 1)),qO 23 (.cvi .i64 (.t 22)),qM 11 23] (sR [qM 24 2,qM 25 0,qM 26 11,qX 27 3 25 26,qO 28 (.ld 3 true (.t 27)),qM 29 1,qO 30 (.callv (.t 24) [.t 28,.t 29]),qB 31 .lss 30 (cI 0)] (.cond (.t 31) (.reg [qM 32 11,qB 33 .add 32 (cI 1),qM 9 33]) (.reg [qM 34 11,qM 10 34]))))))
abbrev qbb:IC:=(sR [jI 6 0,qO 7 (.mov (.c (.bool false)))] (sR [qM 12 0,qN 13 12,qM 8 13] (sR [qM 14 8,jI 9 0,qM 10 14] (.seq (.block 0 (.loop qaG)) (sR [qM 35 9,qM 36 9,qM 37 8,qT 38 .lss 36 37,qM 39 38,⟨some 40,.mov (.t 2),(some (39,true))⟩,⟨some 41,.mov (.t 0),(some (39,true))⟩,⟨some 42,.mov (.t 9),(some (39,true))⟩,⟨some 43,.ixa 3 (.t 41) (.t 42),(some (39,true))⟩,⟨some 44,.ld 3 true (.t 43),(some (39,true))⟩,⟨some 45,.mov (.t 1),(some (39,true))⟩,⟨some 46,.callv (.t 40) [.t 44,.t 45],(some (39,true))⟩,⟨some 47,.bin .eql (.t 46) (cI 0),(some (39,true))⟩,qO 48 (.pick (.t 39) (.t 47) (.c (.bool false))),qM 6 35,qM 7 48] .ret)))))
theorem qbd:chkF Tryz.prog Tryz.f180 qbb [.t 6,.t 7] 49=true:=by kernel_rfl
abbrev qka:IC:=(sR [qO 4 (.alc 70 [.str [],.int .i64 0,.int .i64 0]),qO 5 (.mov (.c (.bool false)))] (sR [qM 9 0,qM 10 1,jC 11 180 [.t 9,.t 10,.f 181],qM 8 11,qO 12 (.ext 0 (.t 8)),qO 13 (.ext 1 (.t 8)),qM 6 12,qM 7 13] (.seq (sR [qM 14 7,qO 15 (.not (.t 14))] (jW 15 (sR [qO 16 (.bld [.str [],.int .i64 0,.int .i64 0] []),qS 3 4 16,qO 5 (.mov (.c (.bool false)))] .ret))) (sR [qM 17 0,qM 18 6,qX 19 3 17 18,qO 20 (.ld 3 true (.t 19)),qS 3 4 20,qO 5 (.mov (.c (.bool true)))] .ret))))
theorem qkk:chkF Tryz.prog Tryz.f122 qka [.c 4 3 true,.t 5] 21=true:=by kernel_rfl
abbrev cb:=Lib.compareBytes
abbrev qyF:FuncId:=181
theorem qu4 {a b:UInt8}:(a < b)=(a.toNat < b.toNat):=by rw [UInt8.lt_iff_toNat_lt]
theorem qzv {a b:UInt8} (h:a.toNat=b.toNat):a=b:=UInt8.toNat.inj h
theorem qqV:∀ a b:List UInt8,cb a b=- cb b a
 |[],[]=>rfl
 |[],_ :: _=>rfl
 |_ :: _,[]=>rfl
 |a :: xs,b :: bs=>by
  have ih:=qqV xs bs
  simp only [cb,Lib.compareBytes,qu4] at ih ⊢
  split
  ·rw [if_neg (by omega)];try (split<;>first|rfl|omega)
  ·split
   ·rfl
   ·exact ih
theorem qhu:∀ a b:List UInt8,cb a b=0↔a=b
 |[],[]=>by simp [cb,Lib.compareBytes]
 |[],_ :: _=>by simp [cb,Lib.compareBytes]
 |_ :: _,[]=>by simp [cb,Lib.compareBytes]
 |a :: xs,b :: bs=>by
  have ih:=qhu xs bs
  simp only [cb,Lib.compareBytes,qu4] at ih ⊢
  split
  ·rename_i h;constructor
   ·intro e;omega
   ·intro e;cases e;omega
  ·split
   ·rename_i h;constructor
    ·intro e;omega
    ·intro e;cases e;omega
   ·rename_i h1 h2
    have:a=b:=qzv (by omega)
    rw [ih,this]
    simp
theorem qut:∀ a b:List UInt8,bytesLess a b=decide (cb a b < 0)
 |[],[]=>by simp [cb,Lib.compareBytes,bytesLess,Op.bytesLess]
 |[],_ :: _=>by simp [cb,Lib.compareBytes,bytesLess,Op.bytesLess]
 |_ :: _,[]=>by simp [cb,Lib.compareBytes,bytesLess,Op.bytesLess]
 |a :: xs,b :: bs=>by
  have ih:=qut xs bs
  simp only [bytesLess] at ih
  simp only [cb,Lib.compareBytes,bytesLess,Op.bytesLess,ih]
  by_cases h:a < b
  ·simp [h]
  ·by_cases h2:b < a
   ·have:¬ a=b:=by intro e;subst e;exact h h2
    simp [h,h2,this]
   ·have:a=b:=qzv (by rw [qu4] at h h2;omega)
    subst this
    simp [h]
theorem qjL:∀ {a b c:List UInt8},cb a b < 0→cb b c < 0→cb a c < 0
 |[],[],_,h,_=>by simp [cb,Lib.compareBytes] at h
 |[],_ :: _,[],_,h=>by simp [cb,Lib.compareBytes] at h
 |[],_ :: _,_ :: _,_,_=>by simp [cb,Lib.compareBytes]
 |_ :: _,[],_,h,_=>by simp [cb,Lib.compareBytes] at h
 |_ :: _,_ :: _,[],_,h=>by simp [cb,Lib.compareBytes] at h
 |a :: xs,b :: bs,c :: cs,h1,h2=>by
  have ih:=@qjL xs bs cs
  simp only [cb,Lib.compareBytes,qu4] at ih h1 h2 ⊢
  split
  ·omega
  ·split at h1
   ·split at h2
    ·omega
    ·split at h2
     ·omega
     ·omega
   ·split at h1
    ·omega
    ·split at h2
     ·omega
     ·split at h2
      ·omega
      ·rw [if_neg (by omega)]
       exact ih h1 h2
def qku (l:List Par):Prop:=∀ (i j:Nat) (p q:Par),i < j→l[i]?=some p→l[j]?=some q→cb p.1 q.1 < 0
theorem qaI:∀ {l:List Int},qaf l=0→∀ x∈l,x=0
 |[],_,x,hx=>by cases hx
 |e :: r,h,x,hx=>by
  simp only [qaf] at h
  split at h
  ·rename_i he
   rcases List.mem_cons.1 hx with rfl|hx
   ·exact he
   ·exact qaI h x hx
  ·rename_i he;exact absurd h he
theorem qqA {l:List Par} (h:qb8 l=0):l.length≤200∧∀ k,k < l.length→qbl l k=0:=by
 unfold qb8 at h
 split at h
 ·cases h
 ·exact ⟨by omega,fun k hk=>qaI h _ (zl (qeO (qbl l) hk))⟩
theorem qfm {b:Bool} {e:Int} (he:e≠0) (h:qap b e=0):b=false:=by
 unfold qap at h
 cases b
 ·rfl
 ·simp at h;exact absurd h he
theorem qnW {l:List Par} (h:qb8 l=0):qku l:=by
 obtain ⟨_,hE⟩:=qqA h
 have adj:∀ k p q,l[k]?=some p→l[k+1]?=some q→cb p.1 q.1 < 0:=by
  intro k p q hp hq
  have hk:k+1 < l.length:=(zm.1 hq).1
  have h1:=hE (k+1) hk
  have h2:=qfm (by decide) (qaI h1 (qap (ordB l (k+1)) 7) (by simp))
  simp only [ordB,leS,zy,hq,Nat.add_sub_cancel,hp,Option.getD_some] at h2
  rw [qut] at h2
  simp at h2
  have h3:=qqV q.1 p.1
  have h4:=qhu q.1 p.1
  have:cb q.1 p.1≠0:=fun e=>h2.2 (h4.1 e)
  have h5:0≤cb q.1 p.1:=h2.1
  omega
 unfold qku
 intro i j p q hij
 induction j generalizing q with
 |zero=>omega
 |succ j ih=>
  intro hp hq
  by_cases e:i=j
  ·subst e;exact adj i p q hp hq
  ·have hj:j < l.length:=by have:=(zm.1 hq).1;omega
   obtain ⟨r,hr⟩:∃ r,l[j]?=some r:=⟨_,zh hj⟩
   exact qjL (ih r (by omega) hp hr) (adj j r q hr hq)
theorem qrq {E:Envt} (x:Par) (m:List UInt8):PCall Tryz.prog E 181 [.agg (par x),.str m] (·=int (cb x.1 m)):=by
 simp only [par]
 refine qag mixed Tryz.func181 qiP ?_
 refine zV ?_
 refine use1 (qsQ x.1 m) rfl (.inl rfl) ?_
 simp only [ZZ,WW,Ze,reduceCtorEq,zd,ze,za,zf,zb]
set_option maxRecDepth 100000 in
theorem qsR {E:Envt} (l:List Par) (m:List UInt8) (hl:l.length≤1000000) (hs:qku l):PCall Tryz.prog E 180 [.sl 3 (parE l),.str m,.clo qyF []] (fun y=>∃ (i:Nat) (b:Bool),y=.tup [int i,.bool b]∧(b=true→∃ p,l[i]?=some p∧p.1=m)∧(b=false→∀ p∈l,p.1≠m)):=by
 have hfn:fnB Tryz.prog qyF=true:=by kernel_rfl
 refine qag mixed Tryz.func180 qbd ?_
 refine zV ?_
 simp only [ZZ,WW,Ze,reduceCtorEq,zd,ze,za,zf,zb,qay]
 refine qae (fun n fr L=>∃ (i:Nat) (j:Nat),j - i=n∧(i≤j)∧(j≤l.length)∧(∀ a p,a < i→l[a]?=some p→cb p.1 m < 0)∧(∀ a p,j≤a→l[a]?=some p→0≤cb p.1 m)∧fr=(.p (.sl 3 (parE l))::.p (.str m)::.p (.clo qyF [])::oC (oo::(.p (int (l.length:Nat))::.p (int (i:Nat))::.p (int (j:Nat))::oF (oC (oB [])))))∧L=[]) ((l.length) - 0) _ [] (by simp only [ZZ,WW,Ze,reduceCtorEq,zd,ze,za,zf,zb,qay];try trivial) (trivial) ⟨0,l.length,rfl,by omega,by omega,fun a p h=>absurd h (by omega),fun a p h hp=>absurd (zm.1 hp).1 (by omega),rfl,rfl⟩ ?_
 rintro n fr L ⟨i,j,rfl,hij,hjn,hlo,hhi,rfl,rfl⟩
 simp only [qaG,ZZ,WW,Ze,reduceCtorEq,zd,ze,za,zf,zb]
 refine br ?_ ?_
 ·intro h
  have hlt:i < j:=by have:=of_decide_eq_true h;omega
  have hm:((IntKind.u64.wrap ((i:Int)+j)).fdiv (2 ^ min (Int.toNat 1) IntKind.u64.bits))=(((i+j) / 2:Nat):Int):=by
   have e1:IntKind.u64.wrap ((i:Int)+j)=((i+j:Nat):Int):=by simp [IntKind.wrap,IntKind.bits,IntKind.signed];omega
   rw [e1]
   have e2:(2:Int) ^ min (Int.toNat 1) IntKind.u64.bits=2:=by decide
   rw [e2,Int.fdiv_eq_ediv_of_nonneg _ (by omega)]
   omega
  obtain ⟨x,hx⟩:∃ x,l[(i+j) / 2]?=some x:=⟨_,zh (by omega)⟩
  have hg:=qct hx
  have hmn:(((((i+j) / 2:Nat):Int))).toNat=(i+j) / 2:=by omega
  simp only [ZZ,WW,Ze,reduceCtorEq,zd,ze,za,zf,zb,qay,hm]
  generalize hh:(i+j) / 2=g at *
  have hg1:i≤g:=by omega
  have hg2:g < j:=by omega
  simp only [ZZ,WW,Ze,reduceCtorEq,zd,ze,za,zf,zb,hg,hfn]
  refine ⟨qam (by omega) (by omega),by omega,qam (by omega) (by omega),⟨by omega,by omega⟩,by omega,?_⟩
  refine use1 (qrq x m) rfl (.inl rfl) ?_
  refine zS ?_
  have hlow:∀ a p,l[a]?=some p→a≤g→cb x.1 m < 0→cb p.1 m < 0:=by
   intro a p hp ha hc
   rcases Nat.lt_or_ge a g with h1|h1
   ·exact qjL (hs a g p x h1 hp hx) hc
   ·have:a=g:=by omega
    subst this
    rw [hx] at hp;cases hp;exact hc
  have hupp:∀ a p,l[a]?=some p→g≤a→0≤cb x.1 m→0≤cb p.1 m:=by
   intro a p hp ha hc
   rcases Nat.lt_or_ge g a with h1|h1
   ·have h2:=hs g a x p h1 hx hp
    by_cases h3:cb p.1 m < 0
    ·have:=qjL h2 h3;omega
    ·omega
   ·have:a=g:=by omega
    subst this
    rw [hx] at hp;cases hp;exact hc
  refine br ?_ ?_
  ·intro hc
   have hc:cb x.1 m < 0:=of_decide_eq_true hc
   refine zS ?_
   refine ⟨qam (by omega) (by omega),?_⟩
   refine qab (j - (g+1)) _ [] (by omega) zF_ zF_ ⟨g+1,j,rfl,by omega,hjn,fun a p ha hp=>hlow a p hp (by omega) hc,hhi,rfl,rfl⟩
  ·intro hc
   have hc:¬ cb x.1 m < 0:=of_decide_eq_false hc
   refine zS ?_
   refine qab ((g) - i) _ [] (by omega) zF_ zF_ ⟨i,g,rfl,by omega,by omega,hlo,fun a p ha hp=>hupp a p hp ha (by omega),rfl,rfl⟩
 ·intro h
  have hge:i=j:=by have:=of_decide_eq_false h;omega
  subst hge
  by_cases hin:i < l.length
  ·obtain ⟨x,hx⟩:∃ x,l[i]?=some x:=⟨_,zh hin⟩
   have hg:=qct hx
   simp only [ZZ,WW,Ze,reduceCtorEq,zd,ze,za,zf,zb,qay,hg,hfn]
   refine ⟨fun _=>⟨by simp;omega,by simp;omega,by omega,by omega⟩,fun _=>⟨by simp;omega,hin⟩,?_⟩
   refine useG (fun _=>qrq x m) rfl (.inl rfl) ?_
   refine zS ?_
   ((with_reducible and_intros)<;>try exact sc_)
   refine ⟨i,_,rfl,fun hb=>⟨x,hx,?_⟩,fun hb p hp he=>?_⟩
   ·simp only [Bool.and_eq_true,decide_eq_true_eq] at hb
    exact (qhu _ _).1 hb.2
   ·have hne:¬ cb x.1 m=0:=by
     have:decide ((i:Int) < l.length)=true:=by simp;omega
     rw [this] at hb
     simpa using hb
    obtain ⟨a,ha⟩:=zW hp
    have hz:=(qhu p.1 m).2 he
    rcases Nat.lt_trichotomy a i with h1|h1|h1
    ·have:=hlo a p h1 ha;omega
    ·subst h1;rw [hx] at ha;cases ha;exact hne hz
    ·have h2:=hs i a x p h1 hx ha
     have h3:=hhi i x (Nat.le_refl _) hx
     have h4:=qjL h2 (show cb p.1 x.1 < 0 by
      have:p.1=m:=he
      rw [this,qqV];omega)
     have h5:=(qhu x.1 x.1).2 rfl
     omega
  ·have hgd:(parE l).getD i []=[]:=by simp [zy,parE];rw [List.getElem?_eq_none (by omega)];rfl
   have hfl:decide ((i:Int) < l.length)=false:=by simp;omega
   simp only [ZZ,WW,Ze,reduceCtorEq,zd,ze,za,zf,zb,qay,hgd,hfn,hfl]
   refine ⟨fun h=>h.elim,fun h=>h.elim,?_⟩
   refine qsX (fun h=>by cases h) (fun _=>?_)
   refine zS ?_
   refine ⟨i,_,rfl,fun hb=>by simp at hb,fun _ p hp he=>?_⟩
   obtain ⟨a,ha⟩:=zW hp
   have hz:=(qhu p.1 m).2 he
   have:=hlo a p (by have:=(zm.1 ha).1;omega) ha
   omega
def parA (p:Par):PV:=.agg (par p)
def qph (l:List Par) (m:List UInt8):Par×Bool:=match l.find? (fun p=>decide (p.1=m)) with
 |some p=>(p,true)
 |none=>(p00,false)
theorem qx7 {E:Envt} (l:List Par) (m:List UInt8) (hl:l.length≤1000000) (hs:qku l):PCall Tryz.prog E 122 [.sl 3 (parE l),.str m] (·=.tup [parA (qph l m).1,.bool (qph l m).2]):=by
 refine qag mixed Tryz.func122 qkk ?_
 refine zV ?_
 refine use (qsR l m hl hs) rfl (.inl rfl) ?_
 rintro y ⟨i,b,rfl,ht,hf⟩
 refine zS ?_
 refine br ?_ ?_
 ·intro hb
  have hb:b=false:=by rwa [yb] at hb
  refine zS ?_
  have:l.find? (fun p=>decide (p.1=m))=none:=by
   rw [List.find?_eq_none]
   intro p hp
   simpa using hf hb p hp
  rw [qph,this]
  rfl
 ·intro hb
  have hb:b=true:=by rwa [Bool.not_eq_false'] at hb
  obtain ⟨p,hp,hpm⟩:=ht hb
  have hg:=qct hp
  have hi:i < l.length:=(zm.1 hp).1
  simp only [ZZ,WW,Ze,reduceCtorEq,zd,ze,za,zf,zb,qay,hg]
  refine ⟨⟨by omega,by omega⟩,hi,?_⟩
  have:l.find? (fun p=>decide (p.1=m))=some p:=by
   cases hq:l.find? (fun p=>decide (p.1=m)) with
   |none=>rw [List.find?_eq_none] at hq;exact absurd hpm (by simpa using hq p (zl hp))
   |some q=>
    have h1:=List.find?_some hq
    have h2:=List.mem_of_find?_eq_some hq
    obtain ⟨a,ha⟩:=zW h2
    have h3:q.1=m:=by simpa using h1
    have hc:cb p.1 q.1=0:=(qhu _ _).2 (by rw [hpm,h3])
    have hc2:cb q.1 p.1=0:=(qhu _ _).2 (by rw [hpm,h3])
    rcases Nat.lt_trichotomy a i with h4|h4|h4
    ·have:=hs a i q p h4 ha hp;omega
    ·subst h4;rw [hp] at ha;cases ha;rfl
    ·have:=hs i a p q h4 hp ha;omega
  rw [qph,this]
  rfl
end Go.Proofs.YtekhobchfhhofaaGreatDoor
