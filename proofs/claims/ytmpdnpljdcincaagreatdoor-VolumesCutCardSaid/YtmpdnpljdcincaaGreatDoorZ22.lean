import Derived.Test.YtmpdnpljdcincaaGreatDoorZ21
import Derived.Test.YtmpdnpljdcincaaGreatDoorLayWinSort
import Derived.Test.YtmpdnpljdcincaaGreatDoorLayCmpInt
set_option linter.unusedVariables false
set_option linter.unusedSimpArgs false
set_option linter.defProp false
namespace Go.Proofs.YtmpdnpljdcincaaGreatDoor
open Nat renaming reduceAdd→zd,reduceEqDiff→za,reduceLT→zf,reduceLeDiff→zb,reduceMul→ze
open List renaming append_assoc→yh,append_nil→z6,drop_eq_getElem_cons→yb,drop_eq_nil_of_le→zL,getElem?_eq_getElem→zg,getElem?_eq_some_iff→zk,length_append→zp,length_cons→zK,length_map→zw,length_take→zJ,mem_filter→ye,mem_of_getElem?→zm,nil_append→yg,take_of_length_le→zq,take_succ_eq_append_getElem→zo
open Go.RowKit Go.Sort
def qe0:IC:=(sR [qT 46 .lss 45 44] (.seq (.cond (.t 46) .skip (.exit 2)) (.seq (.block 3 (sR [qX 47 2 43 45,qO 48 (.ld 2 true (.t 47)),qO 13 (.alc 62 [.int .i64 0,.int .i64 0]),qS 2 13 48] (.seq (sR [qF 49 0 13,qL 50 49,qM 51 11,qT 52 .gtr 50 51] (jW 52 (.reg [qM 53 10,qM 54 11,qF 55 0 13,qL 56 55,qO 57 (.bld [.int .i64 0,.int .i64 0] [(0,1,.t 54),(1,1,.t 56)]),qO 58 (.bsl 2 [.t 57]),qO 59 (.app 62 2 16 (.t 53) (.t 58)),qM 10 59]))) (.cut (.reg [qF 60 1 13,qL 61 60,qM 11 61]))))) (.reg [qB 62 .add 45 (cI 1),qM 45 62]))))
def qe1:IC:=(sR [qT 28 .lss 27 26] (.seq (jE 28) (.seq (.block 1 (sR [qX 29 4 25 27,qO 30 (.ld 4 true (.t 29)),qO 9 (.alc 34 [.int .i64 0,.str [],.int .i64 0,.nl 7]),qS 4 9 30] (sR [qF 31 1 9,qL 32 31,qM 33 1,qT 34 .eql 32 33] (jW 34 (.reg [qM 35 7,qO 36 (.ld 4 true (.t 9)),jC 37 82 [.t 36],qO 38 (.bsl 2 [.t 37]),qO 39 (.app 62 2 16 (.t 35) (.t 38)),qM 7 39]))))) (.cut (.reg [qB 40 .add 27 (cI 1),qM 27 40])))))
abbrev qlm:IC:=(sR [qO 4 (.mov (.c (.nl 2))),jI 5 0] (.seq (sR [qM 14 0,jC 15 64 [.t 14],qM 16 1,jC 17 81 [.t 16],qO 18 (.not (.t 17)),jC 19 51 [.t 18,.c (.int .i64 3)],qO 20 (.bsl 1 [.t 15,.t 19]),jC 21 49 [.t 20],qM 6 21] (sR [qM 22 6,qB 23 .neq 22 (cI 0)] (jW 23 (sR [qM 24 6,qO 4 (.mov (.c (.nl 2))),qM 5 24] .ret)))) (sR [qO 7 (.nilr 62 2)] (.seq (sR [qM 25 0,qN 26 25,jI 27 0] (.block 0 (.loop qe1))) (sR [qM 41 7,jC 42 83 [.t 41,.f 84]] (sR [qO 10 (.nilr 62 2)] (sR [jI 11 1] (.seq (sR [qM 43 7,qN 44 43,jI 45 0] (.block 2 (.loop qe0))) (sR [qM 63 10,qM 4 63,jI 5 0] .ret)))))))))
theorem qlw:chkF Tryz.prog Tryz.f25 qlm [.t 4,.t 5] 64=true:=by kernel_rfl
def qdz:IC:=(sR [qT 48 .lss 47 46] (.seq (.cond (.t 48) .skip (.exit 4)) (.seq (.block 5 (sR [qX 49 2 45 47,qO 50 (.ld 2 true (.t 49)),qO 13 (.alc 62 [.int .i64 0,.int .i64 0]),qS 2 13 50] (.seq (sR [qF 51 0 13,qL 52 51,qM 53 11,qT 54 .gtr 52 53] (jW 54 (.reg [qM 55 10,qM 56 11,qF 57 0 13,qL 58 57,qO 59 (.bld [.int .i64 0,.int .i64 0] [(0,1,.t 56),(1,1,.t 58)]),qO 60 (.bsl 2 [.t 59]),qO 61 (.app 62 2 16 (.t 55) (.t 60)),qM 10 61]))) (.cut (.reg [qF 62 1 13,qL 63 62,qM 11 63]))))) (.reg [qB 64 .add 47 (cI 1),qM 47 64]))))
def qdA:IC:=(sR [qT 25 .lss 24 23] (.seq (.cond (.t 25) .skip (.exit 2)) (.seq (.block 3 (sR [qX 26 7 22 24,qO 27 (.ld 7 true (.t 26)),qO 9 (.alc 83 [.str [],.str [],.int .i64 0,.int .i64 0,.int .i64 0,.nl 1,.int .i64 0]),qS 7 9 27] (sR [qF 28 1 7,qL 29 28,qM 30 1,qT 31 .eql 29 30] (jW 31 (.reg [qM 32 5,qF 33 3 9,qL 34 33,qF 35 4 9,qL 36 35,qB 37 .add 36 (cI 1),qO 38 (.bld [.int .i64 0,.int .i64 0] [(0,1,.t 34),(1,1,.t 37)]),qO 39 (.bsl 2 [.t 38]),qO 40 (.app 62 2 16 (.t 32) (.t 39)),qM 5 40]))))) (.cut (.reg [qB 41 .add 24 (cI 1),qM 24 41])))))
def qdB:IC:=(sR [qT 18 .lss 17 16] (.seq (jE 18) (.seq (.block 1 (sR [qX 19 4 15 17,qO 20 (.ld 4 true (.t 19)),qO 7 (.alc 34 [.int .i64 0,.str [],.int .i64 0,.nl 7]),qS 4 7 20] (sR [qF 21 3 7,qL 22 21,qN 23 22,jI 24 0] (.block 2 (.loop qdA))))) (.reg [qB 42 .add 17 (cI 1),qM 17 42]))))
abbrev qio:IC:=(sR [qO 4 (.mov (.c (.nl 2)))] (sR [qO 14 (.bsr 62 2 []),qM 5 14] (.seq (sR [qM 15 0,qN 16 15,jI 17 0] (.block 0 (.loop qdB))) (sR [qM 43 5,jC 44 83 [.t 43,.f 87]] (sR [qO 10 (.nilr 62 2)] (sR [jI 11 1] (.seq (sR [qM 45 5,qN 46 45,jI 47 0] (.block 4 (.loop qdz))) (sR [qM 65 10,qM 4 65] .ret))))))))
theorem qiB:chkF Tryz.prog Tryz.f28 qio [.t 4] 66=true:=by kernel_rfl
def qaQ:IC:=(sR [qT 14 .lss 13 12] (.seq (jE 14) (.seq (.block 1 (sR [qM 15 13,qM 5 15] (.seq (.drg [qM 16 0,qM 17 5,qX 18 2 16 17,qO 19 (.ld 2 true (.t 18)),qM 20 1,qM 21 5,qX 22 2 20 21,qO 23 (.ld 2 true (.t 22)),qO 24 (.eqa true [.i,.i] (.t 19) (.t 23))]) (jW 24 (sR [qO 4 (.mov (.c (.bool false)))] .ret))))) (.reg [qB 25 .add 13 (cI 1),qM 13 25]))))
abbrev qck:IC:=(sR [qO 4 (.mov (.c (.bool false)))] (.seq (sR [qM 6 0,qN 7 6,qM 8 1,qN 9 8,qT 10 .neq 7 9] (jW 10 (sR [qO 4 (.mov (.c (.bool false)))] .ret))) (.seq (sR [qM 11 0,qN 12 11,jI 13 0] (.block 0 (.loop qaQ))) (sR [qO 4 (.mov (.c (.bool true)))] .ret))))
theorem qcm:chkF Tryz.prog Tryz.f27 qck [.t 4] 26=true:=by kernel_rfl
abbrev tWin:Nat:=62
def wnE (l:List (Int×Int)):List (List PV):=l.map fun w=>[int w.1,int w.2]
theorem qmA:wnE []=[]:=rfl
theorem qgO (l:List (Int×Int)):(wnE l).length=l.length:=by simp [wnE]
theorem qsZ {l:List (Int×Int)} {k:Nat} {w:Int×Int} (h:l[k]?=some w):(wnE l).getD k []=[int w.1,int w.2]:=qao h
theorem qmB (l m:List (Int×Int)):wnE l++wnE m=wnE (l++m):=by simp [wnE]
theorem qsY (a b:Int):[[int a,int b]]=wnE [(a,b)]:=rfl
def qpG (E:Envt) (g:FuncId) (l:List (Int×Int)):Prop:=RCall Tryz.prog E 83 tWin 2 (wnE l) [.clo g []] (fun x es'=>x=.tup []∧∃ l':List (Int×Int),es'=wnE l'∧l'.Perm l∧l'.Pairwise (fun u v=>u.1≤v.1))
theorem qxW (w:World) (a b:Obj):∃ q os',(w.alloc a).alloc b=grow (w.drewN q) os':=
 ⟨0,#[a,b],by cases w;simp only [World.alloc,grow,World.drewN,World.mk.injEq,and_true,Nat.add_zero];apply Array.ext';simp⟩
theorem quE (a b c d:Int) (w:World):Calls Tryz.prog 84 #[.agg #[.int .i64 a,.int .i64 b],.agg #[.int .i64 c,.int .i64 d]] w fun e w'=>e=.returned (.int .i64 (Lib.compareInt a c))∧∃ q os',w'=grow (w.drewN q) os':=by
 go_enter Tryz.func84,Tryz.ntmps84
 go_wp2_with (refine (Any.cmp_Compare_int Tryz.layCmpInt _ _ _).mono ?_;rintro e w' ⟨rfl,rfl⟩)
 all_goals (go_ret;exact ⟨rfl,qxW _ _ _⟩)
theorem qsE (E:Envt) (l:List (Int×Int)) (hl:l.length≤1000000000000):qpG E 84 l:=by
 have hc:∀ x y:Int,Lib.compareInt x y < 0↔x < y:=fun x y=>by unfold Lib.compareInt;split<;>(try split)<;>omega
 have h:=qj4 (E:=E) Tryz.layWinSort 2 (fun w=>Tryz.isAgg62 w) (fun w=>Tryz.sizeOf62 w) tWin (fun p:Int×Int=>[int p.1,int p.2]) (fun x=>rfl) (fun x=>rfl) (fun x y=>Lib.compareInt x.1 y.1)
  ⟨fun x=>by simp [ltOf,hc],fun x y z=>by simp only [ltOf,decide_eq_true_eq,hc];omega,fun x y z=>by simp only [ltOf,decide_eq_false_iff_not,hc];omega⟩ 84 (fun args w=>qgR (by kernel_rfl) args w)
  (fun w x y=>quE _ _ _ _ w) l hl
 refine RCall.mono h ?_
 rintro x es ⟨rfl,l',rfl,hp,hs⟩
 refine ⟨rfl,l',rfl,hp,hs.imp ?_⟩
 intro u v h
 simp only [ltOf,decide_eq_false_iff_not,hc] at h
 omega
theorem quD (a b c d:Int) (w:World):Calls Tryz.prog 87 #[.agg #[.int .i64 a,.int .i64 b],.agg #[.int .i64 c,.int .i64 d]] w fun e w'=>e=.returned (.int .i64 (Lib.compareInt a c))∧∃ q os',w'=grow (w.drewN q) os':=by
 go_enter Tryz.func87,Tryz.ntmps87
 go_wp2_with (refine (Any.cmp_Compare_int Tryz.layCmpInt _ _ _).mono ?_;rintro e w' ⟨rfl,rfl⟩)
 all_goals (go_ret;exact ⟨rfl,qxW _ _ _⟩)
theorem qsD (E:Envt) (l:List (Int×Int)) (hl:l.length≤1000000000000):qpG E 87 l:=by
 have hc:∀ x y:Int,Lib.compareInt x y < 0↔x < y:=fun x y=>by unfold Lib.compareInt;split<;>(try split)<;>omega
 have h:=qj4 (E:=E) Tryz.layWinSort 2 (fun w=>Tryz.isAgg62 w) (fun w=>Tryz.sizeOf62 w) tWin (fun p:Int×Int=>[int p.1,int p.2]) (fun x=>rfl) (fun x=>rfl) (fun x y=>Lib.compareInt x.1 y.1)
  ⟨fun x=>by simp [ltOf,hc],fun x y z=>by simp only [ltOf,decide_eq_true_eq,hc];omega,fun x y z=>by simp only [ltOf,decide_eq_false_iff_not,hc];omega⟩ 87 (fun args w=>qgR (by kernel_rfl) args w)
  (fun w x y=>quD _ _ _ _ w) l hl
 refine RCall.mono h ?_
 rintro x es ⟨rfl,l',rfl,hp,hs⟩
 refine ⟨rfl,l',rfl,hp,hs.imp ?_⟩
 intro u v h
 simp only [ltOf,decide_eq_false_iff_not,hc] at h
 omega
def qlT (l:List Prd) (pre:List UInt8):Int:=if pdsF l=0 then (if qdS pre=true then 0 else 3) else pdsF l
def qlr (l:List Prd) (pre:List UInt8):List (Int×Int):=(l.filter fun p=>decide (p.pre=pre)).map numW
theorem qsB {l:List Prd} {k:Nat} {p:Prd} (pre:List UInt8) (h:l[k]?=some p):qlr (l.take (k+1)) pre=qlr (l.take k) pre++if decide (p.pre=pre)=true then [numW p] else []:=by
 obtain ⟨hk,he⟩:=zk.1 h
 rw [zo hk,he,qlr,List.filter_append,List.map_append]
 congr 1
 by_cases hc:decide (p.pre=pre)=true
 ·rw [if_pos hc];simp [hc]
 ·rw [if_neg hc];simp at hc;simp [hc]
theorem quB (pre:List UInt8):qlr [] pre=[]:=rfl
theorem qo7 (l:List Prd) (pre:List UInt8):(qlr l pre).length≤l.length:=by
 rw [qlr,zw]
 exact List.length_filter_le _ _
def WnB (w:Int×Int):Prop:=-1000000000000≤w.1∧w.1≤1000000000000∧-1000000000000≤w.2∧w.2≤1000000000000
theorem qAX {p:Prd} (hp:PdB p) (h0:prdF p=0):WnB (numW p):=by
 obtain ⟨x,r,e,_⟩:=qld h0
 have hx:=hp.all x (by rw [e];simp)
 have hy:∃ y∈p.shs,p.shs.getD (p.shs.length - 1) sh0=y:=by
  have hl:p.shs.length - 1 < p.shs.length:=by rw [e];simp
  exact ⟨p.shs[p.shs.length - 1],List.getElem_mem hl,by simp [List.getD,zg hl]⟩
 obtain ⟨y,hy,hye⟩:=hy
 have hyB:=hp.all y hy
 have h1:=hx.fr_
 have h2:=hyB.to_
 unfold numW WnB
 rw [hye,show p.shs.getD 0 sh0=x from by rw [e];rfl]
 simp only
 omega
def gapC (l:List Prd) (pre:List UInt8):List (Int×Int):=gapF 1 (((l.filter fun p=>decide (p.pre=pre)).flatMap fun p=>winS p.shs).mergeSort fun a b=>decide (a.1≤b.1))
theorem qnh (l:List (Int×Int)):(l.mergeSort fun a b=>decide (a.1≤b.1)).Perm l∧(l.mergeSort fun a b=>decide (a.1≤b.1)).Pairwise fun a b=>a.1≤b.1:=by
 refine ⟨List.mergeSort_perm _ _,?_⟩
 have:=List.pairwise_mergeSort (le:=fun a b:Int×Int=>decide (a.1≤b.1)) (fun a b c h1 h2=>by simp only [decide_eq_true_eq] at *;omega) (fun a b=>by simp only [Bool.or_eq_true,decide_eq_true_eq];omega) l
 exact this.imp fun h=>by simpa using h
theorem qBe {l:List Prd} (h:pdsF l=0) {pre:List UInt8} {S:List (Int×Int)} (hS:S.Perm (qlr l pre)) (hs:S.Pairwise fun u v=>u.1≤v.1):gapF 1 S=gapC l pre:=
 qnC h pre hS hs (qnh _).1 (qnh _).2
theorem qBd {l:List Prd} (h:pdsF l=0) {pre:List UInt8} {R:List (Int×Int)} (hR:R.Perm ((l.filter fun p=>decide (p.pre=pre)).flatMap fun p=>winS p.shs)) (hs:R.Pairwise fun u v=>u.1≤v.1):gapF 1 R=gapC l pre:=by
 have h1:=qnC h pre (S:=(qlr l pre).mergeSort fun a b=>decide (a.1≤b.1)) (qnh _).1 (qnh _).2 hR hs
 have h2:=qnC h pre (S:=(qlr l pre).mergeSort fun a b=>decide (a.1≤b.1)) (qnh _).1 (qnh _).2 (qnh _).1 (qnh _).2
 exact h1.symm.trans h2
set_option maxHeartbeats 4000000 in
theorem qAd {E:Envt} (l:List Prd) (hl:l.length≤100000) (hB:∀ p∈l,PdB p) (pre:List UInt8) (hpre:pre.length≤1000) (hC:PCall Tryz.prog E 64 [.sl 4 (pdE l)] (·=int (pdsF l))) :
  PCall Tryz.prog E 25 [.sl 4 (pdE l),.str pre] (·=.tup [.sl 2 (wnE (if qlT l pre=0 then gapC l pre else [])),int (qlT l pre)]):=by
 have hall:=fun h=>@qtS l h
 have hcan:=fun h=>@qBe l h pre
 unfold qlT
 generalize hF:pdsF l=F at *
 have h2e:qai [F,qak (!qdS pre) 3]=if F=0 then (if qdS pre=true then 0 else 3) else F:=by
  simp only [qai]
  by_cases h1:F=0
  ·rw [if_pos h1,if_pos h1]
   cases qdS pre<;>rfl
  ·rw [if_neg h1,if_neg h1]
 refine qag mixed Tryz.func25 qlw ?_
 refine zV ?_
 refine use1 hC rfl (.inl rfl) ?_
 refine zS ?_
 refine use1 (qlk pre (by omega)) rfl (.inl rfl) ?_
 refine zS ?_
 refine use1 (qcL _ 3) rfl (.inl rfl) ?_
 refine zS ?_
 refine use1 (qeA [F,qak (!qdS pre) 3] (by simp)) rfl (.inl rfl) ?_
 rw [h2e]
 refine zS ?_
 by_cases hF0:F=0
 rotate_left
 ·rw [if_neg hF0]
  have e1:(!decide (F=0))=true:=by simpa using hF0
  simp only [ZZ,WW,Zd,reduceCtorEq,zd,ze,zb,zf,za,e1]
  rw [if_neg hF0]
  try rfl
 rw [if_pos hF0]
 have hcan:=fun {S}=>@hcan hF0 S
 have hall:=hall hF0
 cases hpf:qdS pre
 ·simp only [ZZ,WW,Zd,reduceCtorEq,zd,ze,zb,zf,za,show (!decide ((3:Int)=0))=true from rfl,decide_false,Bool.not_false]
  try rfl
 rw [if_pos rfl]
 simp only [ZZ,WW,Zd,reduceCtorEq,zd,ze,zb,zf,za,decide_true,Bool.not_true,qaE]
 refine qac (fun n fr L=>∃ (k:Nat),k≤l.length∧n=l.length - k∧fr=(oo::.p (.str pre)::oC (oo::(.row (.l 7)::oE (oo::(.p (.sl 4 (pdE l))::.p (int (l.length:Nat))::.p (int (k:Nat))::oF (oC []))))))∧L=[(.l 7,.row (wnE (qlr (l.take k) pre)) tWin 2 true)]) (l.length) _ _ (by simp only [ZZ,WW,Zd,reduceCtorEq,zd,ze,zb,zf,za,qaE];try trivial) (by simp only [ZZ,WW,Zd,reduceCtorEq,zd,ze,zb,zf,za,quB,qmA]) ⟨0,by omega,by omega,rfl,rfl⟩ ?_
 rintro n fr L ⟨k,hk,rfl,rfl,rfl⟩
 simp only [qe1,ZZ,WW,Zd,reduceCtorEq,zd,ze,zb,zf,za]
 refine br ?_ ?_
 ·intro h
  have hlt:k < l.length:=by have:=of_decide_eq_true h;omega
  obtain ⟨p,hp⟩:∃ p,l[k]?=some p:=⟨_,zg hlt⟩
  have hgp:=qgW hp
  have hpm:=zm hp
  have hpB:=hB p hpm
  obtain ⟨x,r,he,_⟩:=qld (hall p hpm)
  have hnu:=qmh (E:=E) p (by rw [he];simp) hpB
  have hnx:=qsB pre hp
  have hkl:=qo7 (l.take k) pre
  rw [zJ] at hkl
  simp only [pdV] at hgp hnu
  simp only [ZZ,WW,Zd,reduceCtorEq,zd,ze,zb,zf,za,hgp,qaE]
  ((with_reducible and_intros)<;>try exact sc_)
  refine br ?_ ?_
  ·intro h2
   rw [if_pos h2] at hnx
   refine zS ?_
   refine use1 hnu rfl (.inl rfl) ?_
   simp only [ZZ,WW,Zd,reduceCtorEq,zd,ze,zb,zf,za,qgO]
   ((with_reducible and_intros)<;>try exact sc_)
   refine qaF _ _ ReOk.refl ?_
   refine zS ?_
   ((with_reducible and_intros)<;>try exact sc_)
   refine qab (l.length - (k+1)) _ _ (by omega) zF_ (by rw [hnx,← qmB];simp only [ZZ,WW,Zd,reduceCtorEq,zd,ze,zb,zf,za];rfl) ⟨k+1,by omega,rfl,rfl,rfl⟩
  ·intro h2
   rw [if_neg (by rw [h2];simp),z6] at hnx
   refine zS ?_
   refine qaF _ _ ReOk.refl ?_
   refine zS ?_
   ((with_reducible and_intros)<;>try exact sc_)
   refine qab (l.length - (k+1)) _ _ (by omega) zF_ (by rw [hnx];simp only [ZZ,WW,Zd,reduceCtorEq,zd,ze,zb,zf,za]) ⟨k+1,by omega,rfl,rfl,rfl⟩
 intro h
 have hge:l.length≤k:=by have:=of_decide_eq_false h;omega
 rw [zq hge]
 have hkl:=qo7 l pre
 refine zS ?_
 refine useR (qsE E (qlr l pre) (by omega)) rfl rfl rfl zE_ ?_
 rintro x es ⟨rfl,S,rfl,hp,hs⟩
 have hSB:∀ w∈S,WnB w:=fun w hw=>by
  obtain ⟨q,hq,rfl⟩:=List.mem_map.1 (hp.mem_iff.1 hw)
  have hq:=(ye.1 hq).1
  exact qAX (hB q hq) (hall q hq)
 simp only [WnB] at hSB
 have hcan:=hcan hp hs
 obtain ⟨H,hH⟩:∃ H,gapF 1 S=H:=⟨_,rfl⟩
 rw [hH] at hcan
 rw [← hcan]
 clear hcan
 have hSl:=hp.length_eq
 simp only [ZZ,WW,Zd,reduceCtorEq,zd,ze,zb,zf,za,qgO]
 refine qfR (fun n fr L=>∃ (k:Nat) (g:List (Int×Int)) (a:Int),k≤S.length∧n=S.length - k∧(H=g++gapF a (S.drop k))∧(g.length≤k)∧(-1000000000000≤a∧a≤1000000000000)∧fr=(oD (oB (.row (.l 10)::.p (int a)::oE (oD (oC (oB (oo::(.p (.sl 2 (wnE S))::.p (int (S.length:Nat))::.p (int (k:Nat))::oE (oB [])))))))))∧L=[(.l 10,.row (wnE g) tWin 2 true)]) (S.length) _ _ (ReOk.trans (qaN (k:=.l 7) rfl) (by simp only [ZZ,WW,Zd,reduceCtorEq,zd,ze,zb,zf,za];exact qax zF_ (by simp only [ZZ,WW,Zd,reduceCtorEq,zd,ze,zb,zf,za,qmA];try rfl))) ⟨0,[],1,by omega,by omega,hH.symm,by simp,by decide,rfl,rfl⟩ ?_
 rintro n fr L ⟨k,g,a,hk,rfl,hg,hgl,ha,rfl,rfl⟩
 simp only [qe0,ZZ,WW,Zd,reduceCtorEq,zd,ze,zb,zf,za]
 refine br ?_ ?_
 rotate_left
 ·intro h
  have hge:S.length≤k:=by have:=of_decide_eq_false h;omega
  rw [zL hge,gapF,z6] at hg
  rw [hg]
  refine zS ?_
  try first|trivial|rfl
 intro h
 have hlt:k < S.length:=by have:=of_decide_eq_true h;omega
 obtain ⟨w,hw⟩:∃ w,S[k]?=some w:=⟨_,zg hlt⟩
 have hgw:=qsZ hw
 have hwB:=hSB w (zm hw)
 have hdr:gapF a (S.drop k)=(if a < w.1 then [(a,w.1)] else [])++gapF w.2 (S.drop (k+1)):=by
  rw [yb hlt,(zk.1 hw).2]
  rfl
 rw [hdr] at hg
 clear hdr
 simp only [ZZ,WW,Zd,reduceCtorEq,zd,ze,zb,zf,za,hgw,qgO]
 ((with_reducible and_intros)<;>try exact sc_)
 refine br ?_ ?_
 ·intro h2
  rw [if_pos (by simpa using h2),← yh] at hg
  simp only [ZZ,WW,Zd,reduceCtorEq,zd,ze,zb,zf,za,qgO]
  ((with_reducible and_intros)<;>try exact sc_)
  refine qaF _ _ ReOk.refl ?_
  refine zS ?_
  ((with_reducible and_intros)<;>try exact sc_)
  refine qab (S.length - (k+1)) _ _ (by omega) zF_ (by simp only [ZZ,WW,Zd,reduceCtorEq,zd,ze,zb,zf,za,qsY,qmB]) ⟨k+1,g++[(a,w.1)],w.2,by omega,rfl,hg,by rw [zp];simp;omega,⟨by omega,by omega⟩,rfl,rfl⟩
 ·intro h2
  rw [if_neg (by simpa using h2),yg] at hg
  refine zS ?_
  refine qaF _ _ ReOk.refl ?_
  refine zS ?_
  ((with_reducible and_intros)<;>try exact sc_)
  refine qab (S.length - (k+1)) _ _ (by omega) zF_ zF_ ⟨k+1,g,w.2,by omega,rfl,hg,by omega,⟨by omega,by omega⟩,rfl,rfl⟩
def qjO (l:List Prd) (pre:List UInt8):List (Int×Int):=(l.filter fun p=>decide (p.pre=pre)).flatMap fun p=>winS p.shs
theorem qsC {l:List Prd} {k:Nat} {p:Prd} (pre:List UInt8) (h:l[k]?=some p):qjO (l.take (k+1)) pre=qjO (l.take k) pre++if decide (p.pre=pre)=true then winS p.shs else []:=by
 obtain ⟨hk,he⟩:=zk.1 h
 rw [zo hk,he,qjO,List.filter_append,List.flatMap_append]
 congr 1
 by_cases hc:decide (p.pre=pre)=true
 ·rw [if_pos hc];simp [hc]
 ·rw [if_neg hc];simp at hc;simp [hc]
theorem quC (pre:List UInt8):qjO [] pre=[]:=rfl
theorem qo8 {l:List Prd} (pre:List UInt8) (hB:∀ p∈l,p.shs.length≤1000):(qjO l pre).length≤1000 * l.length:=by
 induction l with
 |nil=>simp [qjO]
 |cons p r ih=>
  have:=ih fun q hq=>hB q (List.mem_cons_of_mem _ hq)
  have hp:=hB p (by simp)
  unfold qjO at this ⊢
  rw [List.filter_cons]
  split
  ·rw [List.flatMap_cons,zp,winS,zw,zK]
   omega
  ·rw [zK];omega
set_option maxHeartbeats 4000000 in
theorem qvu {E:Envt} (l:List Prd) (hl:l.length≤100000) (hB:∀ p∈l,PdB p) (h0:pdsF l=0) (pre:List UInt8):PCall Tryz.prog E 28 [.sl 4 (pdE l),.str pre] (·=.sl 2 (wnE (gapC l pre))):=by
 have hcan:=fun {R}=>@qBd l h0 pre R
 have hUl:=fun k=>qo8 (l:=l.take k) pre (fun p hp=>(hB p (List.mem_of_mem_take hp)).shs)
 refine qag mixed Tryz.func28 qiB ?_
 refine zV ?_
 simp only [ZZ,WW,Zd,reduceCtorEq,zd,ze,zb,zf,za,qaE]
 refine qac (fun n fr L=>∃ (k:Nat),k≤l.length∧n=l.length - k∧fr=(oo::.p (.str pre)::oo::oo::oo::.row (.l 14)::oD (oo::(.p (.sl 4 (pdE l))::.p (int (l.length:Nat))::.p (int (k:Nat))::oF (oE []))))∧L=[(.l 14,.row (wnE (qjO (l.take k) pre)) tWin 2 true)]) (l.length) _ _ (by simp only [ZZ,WW,Zd,reduceCtorEq,zd,ze,zb,zf,za,qaE];try trivial) (by simp only [ZZ,WW,Zd,reduceCtorEq,zd,ze,zb,zf,za,quC,qmA]) ⟨0,by omega,by omega,rfl,rfl⟩ ?_
 rintro n fr L ⟨k,hk,rfl,rfl,rfl⟩
 simp only [qdB,ZZ,WW,Zd,reduceCtorEq,zd,ze,zb,zf,za]
 refine br ?_ ?_
 ·intro h
  have hlt:k < l.length:=by have:=of_decide_eq_true h;omega
  obtain ⟨p,hp⟩:∃ p,l[k]?=some p:=⟨_,zg hlt⟩
  have hgp:=qgW hp
  have hpm:=zm hp
  have hpB:=hB p hpm
  have hps:=hpB.shs
  have hnx:=qsC pre hp
  have hkl:=hUl k
  rw [zJ] at hkl
  simp only [pdV] at hgp
  simp only [ZZ,WW,Zd,reduceCtorEq,zd,ze,zb,zf,za,hgp,qaE]
  ((with_reducible and_intros)<;>try exact sc_)
  simp only [ZZ,WW,Zd,reduceCtorEq,zd,ze,zb,zf,za,qae]
  refine qac (fun n fr L=>∃ (j:Nat),j≤p.shs.length∧n=p.shs.length - j∧fr=(oo::.p (.str pre)::oo::oo::oo::.row (.l 14)::oo::.adr (.l 7) 0::oC (oB (oo::(.p (.sl 4 (pdE l))::.p (int (l.length:Nat))::.p (int (k:Nat))::oo::oo::oo::oo::.p (.sl 7 (shE p.shs))::.p (int (p.shs.length:Nat))::.p (int (j:Nat))::oF (oD (oo::[]))))))∧L=[(.l 14,.row (wnE (qjO (l.take k) pre++if decide (p.pre=pre)=true then winS (p.shs.take j) else [])) tWin 2 true),(.l 7,.box [.p (int p.no),.p (.str p.pre),.p (int p.dig),.p (.sl 7 (shE p.shs))] tPrd)]) (p.shs.length) _ _ (by simp only [ZZ,WW,Zd,reduceCtorEq,zd,ze,zb,zf,za,qae];try trivial) (by simp only [ZZ,WW,Zd,reduceCtorEq,zd,ze,zb,zf,za,winS,ite_self]) ⟨0,by omega,by omega,rfl,rfl⟩ ?_
  rintro n fr L ⟨j,hj,rfl,rfl,rfl⟩
  simp only [qdA,ZZ,WW,Zd,reduceCtorEq,zd,ze,zb,zf,za]
  refine br ?_ ?_
  ·intro h2
   have hjl:j < p.shs.length:=by have:=of_decide_eq_true h2;omega
   obtain ⟨x,hx⟩:∃ x,p.shs[j]?=some x:=⟨_,zg hjl⟩
   have hgx:=qa0 hx
   have hb:=(hpB.all x (zm hx)).to_
   have hwn:winS (p.shs.take (j+1))=winS (p.shs.take j)++[(x.fr_,x.to_+1)]:=by
    rw [zo hjl,(zk.1 hx).2]
    simp [winS]
   have hwl:(winS (p.shs.take j)).length=j:=by rw [winS,zw,zJ];omega
   simp only [shV] at hgx
   simp only [ZZ,WW,Zd,reduceCtorEq,zd,ze,zb,zf,za,hgx,qae]
   ((with_reducible and_intros)<;>try exact sc_)
   refine br ?_ ?_
   ·intro h3
    rw [if_pos h3]
    have hlen:(qjO (l.take k) pre++winS (p.shs.take j)).length≤1000000000:=by rw [zp];omega
    generalize hP:qjO (l.take k) pre++winS (p.shs.take j)=P at *
    simp only [ZZ,WW,Zd,reduceCtorEq,zd,ze,zb,zf,za,qgO]
    ((with_reducible and_intros)<;>try exact sc_)
    refine qaF _ _ ReOk.refl ?_
    refine zS ?_
    ((with_reducible and_intros)<;>try exact sc_)
    refine qab (p.shs.length - (j+1)) _ _ (by omega) zF_ (by rw [if_pos h3,hwn,← yh,hP,← qmB];simp only [ZZ,WW,Zd,reduceCtorEq,zd,ze,zb,zf,za];rfl) ⟨j+1,by omega,rfl,rfl,rfl⟩
   ·intro h3
    rw [if_neg (by rw [h3];simp)]
    refine zS ?_
    refine qaF _ _ ReOk.refl ?_
    refine zS ?_
    ((with_reducible and_intros)<;>try exact sc_)
    refine qab (p.shs.length - (j+1)) _ _ (by omega) zF_ (by rw [if_neg (by rw [h3];simp)];simp only [ZZ,WW,Zd,reduceCtorEq,zd,ze,zb,zf,za]) ⟨j+1,by omega,rfl,rfl,rfl⟩
  intro h2
  have hjl:p.shs.length≤j:=by have:=of_decide_eq_false h2;omega
  rw [zq hjl,← hnx]
  refine zS ?_
  ((with_reducible and_intros)<;>try exact sc_)
  refine qab (l.length - (k+1)) _ _ (by omega) zF_ zF_ ⟨k+1,by omega,rfl,rfl,rfl⟩
 intro h
 have hge:l.length≤k:=by have:=of_decide_eq_false h;omega
 have hkl:=hUl k
 rw [zq hge] at hkl ⊢
 refine zS ?_
 refine useR (qsD E (qjO l pre) (by omega)) rfl rfl rfl zE_ ?_
 rintro x es ⟨rfl,S,rfl,hp,hs⟩
 have hSB:∀ w∈S,WnB w:=fun w hw=>by
  obtain ⟨q,hq,hw⟩:=List.mem_flatMap.1 (hp.mem_iff.1 hw)
  obtain ⟨x,hx,rfl⟩:=List.mem_map.1 hw
  have hxB:=(hB q (ye.1 hq).1).all x hx
  have h1:=hxB.fr_
  have h2:=hxB.to_
  unfold WnB
  simp only
  omega
 simp only [WnB] at hSB
 have hcan:=hcan hp hs
 obtain ⟨H,hH⟩:∃ H,gapF 1 S=H:=⟨_,rfl⟩
 rw [hH] at hcan
 rw [← hcan]
 clear hcan
 have hSl:=hp.length_eq
 simp only [ZZ,WW,Zd,reduceCtorEq,zd,ze,zb,zf,za,qgO]
 refine qfR (fun n fr L=>∃ (k:Nat) (g:List (Int×Int)) (a:Int),k≤S.length∧n=S.length - k∧(H=g++gapF a (S.drop k))∧(g.length≤k)∧(-1000000000000≤a∧a≤1000000000000)∧fr=(oD (oB (.row (.l 10)::.p (int a)::oF (oo::(.p (.sl 2 (wnE S))::.p (int (S.length:Nat))::.p (int (k:Nat))::oE (oB []))))))∧L=[(.l 10,.row (wnE g) tWin 2 true)]) (S.length) _ _ (ReOk.trans (qaN (k:=.l 14) rfl) (by simp only [ZZ,WW,Zd,reduceCtorEq,zd,ze,zb,zf,za];exact qax zF_ (by simp only [ZZ,WW,Zd,reduceCtorEq,zd,ze,zb,zf,za,qmA];try rfl))) ⟨0,[],1,by omega,by omega,hH.symm,by simp,by decide,rfl,rfl⟩ ?_
 rintro n fr L ⟨k,g,a,hk,rfl,hg,hgl,ha,rfl,rfl⟩
 simp only [qdz,ZZ,WW,Zd,reduceCtorEq,zd,ze,zb,zf,za]
 refine br ?_ ?_
 rotate_left
 ·intro h
  have hge:S.length≤k:=by have:=of_decide_eq_false h;omega
  rw [zL hge,gapF,z6] at hg
  rw [hg]
  refine zS ?_
  try first|trivial|rfl
 intro h
 have hlt:k < S.length:=by have:=of_decide_eq_true h;omega
 obtain ⟨w,hw⟩:∃ w,S[k]?=some w:=⟨_,zg hlt⟩
 have hgw:=qsZ hw
 have hwB:=hSB w (zm hw)
 have hdr:gapF a (S.drop k)=(if a < w.1 then [(a,w.1)] else [])++gapF w.2 (S.drop (k+1)):=by
  rw [yb hlt,(zk.1 hw).2]
  rfl
 rw [hdr] at hg
 clear hdr
 simp only [ZZ,WW,Zd,reduceCtorEq,zd,ze,zb,zf,za,hgw,qgO]
 ((with_reducible and_intros)<;>try exact sc_)
 refine br ?_ ?_
 ·intro h2
  rw [if_pos (by simpa using h2),← yh] at hg
  simp only [ZZ,WW,Zd,reduceCtorEq,zd,ze,zb,zf,za,qgO]
  ((with_reducible and_intros)<;>try exact sc_)
  refine qaF _ _ ReOk.refl ?_
  refine zS ?_
  ((with_reducible and_intros)<;>try exact sc_)
  refine qab (S.length - (k+1)) _ _ (by omega) zF_ (by simp only [ZZ,WW,Zd,reduceCtorEq,zd,ze,zb,zf,za,qsY,qmB]) ⟨k+1,g++[(a,w.1)],w.2,by omega,rfl,hg,by rw [zp];simp;omega,⟨by omega,by omega⟩,rfl,rfl⟩
 ·intro h2
  rw [if_neg (by simpa using h2),yg] at hg
  refine zS ?_
  refine qaF _ _ ReOk.refl ?_
  refine zS ?_
  ((with_reducible and_intros)<;>try exact sc_)
  refine qab (S.length - (k+1)) _ _ (by omega) zF_ zF_ ⟨k+1,g,w.2,by omega,rfl,hg,by omega,⟨by omega,by omega⟩,rfl,rfl⟩
section
variable {E:Envt}
theorem qvw (l m:List (Int×Int)) (hl:l.length≤1000000):PCall Tryz.prog E 27 [.sl 2 (wnE l),.sl 2 (wnE m)] (·=.bool (decide (l=m))):=by
 generalize hes:wnE l=es
 generalize hfs:wnE m=fs
 have hln:es.length=l.length:=by rw [← hes];simp [wnE]
 have hlm:fs.length=m.length:=by rw [← hfs];simp [wnE]
 refine qag mixed Tryz.func27 qcm ?_
 refine zV ?_
 refine br ?_ ?_
 ·intro h
  have:¬ l=m:=by rintro rfl;rw [← hes,← hfs] at h;simp at h
  refine zS ?_
  simp [this]
 intro h
 have hlen:l.length=m.length:=by have:(es.length:Int)=fs.length:=by simpa using h
                                 omega
 refine zS ?_
 refine qac (fun n fr L=>∃ k:Nat,k≤l.length∧n=l.length - k∧l.take k=m.take k∧fr=(.p (.sl 2 es)::.p (.sl 2 fs)::oD (oB (.p (int (es.length:Nat))::.p (int (k:Nat))::oD (oC []))))∧L=[]) l.length _ [] zF_ zE_ ⟨0,by omega,by omega,rfl,rfl,rfl⟩ ?_
 rintro n fr L ⟨k,hk,rfl,hf,rfl,rfl⟩
 simp only [qaQ,ZZ,WW,Zd,reduceCtorEq,zd,ze,zb,zf,za]
 refine br ?_ ?_
 ·intro h
  have hlt:k < l.length:=by have:=of_decide_eq_true h;omega
  obtain ⟨x,hx⟩:∃ x,l[k]?=some x:=⟨_,zg hlt⟩
  obtain ⟨y,hy⟩:∃ y,m[k]?=some y:=⟨_,zg (by omega)⟩
  have hg:es.getD k []=[int x.1,int x.2]:=by rw [← hes];exact qao hx
  have hg2:fs.getD k []=[int y.1,int y.2]:=by rw [← hfs];exact qao hy
  refine zS ?_
  refine drg0 ?_
  simp only [ZZ,WW,Zd,reduceCtorEq,zd,ze,zb,zf,za,hg,hg2]
  ((with_reducible and_intros)<;>try exact sc_)
  refine br ?_ ?_
  ·intro h2
   have:¬ l=m:=by
    rintro rfl
    rw [hx] at hy
    cases hy
    simp at h2
   refine zS ?_
   simp [this]
  ·intro h2
   have hxy:x=y:=by
    have:x.1=y.1∧x.2=y.2:=by simpa using h2
    exact Prod.ext this.1 this.2
   refine zS ?_
   refine ⟨qal (by omega) (by omega),?_⟩
   refine qab (l.length - (k+1)) _ [] (by omega) zF_ zE_ ⟨k+1,by omega,rfl,by rw [List.take_add_one,List.take_add_one,hf,hx,hy,hxy],rfl,rfl⟩
 ·intro h
  have hge:l.length≤k:=by have:=of_decide_eq_false h;omega
  refine zS ?_
  rw [zq hge,zq (by omega)] at hf
  simp [hf]
end
end Go.Proofs.YtmpdnpljdcincaaGreatDoor
namespace Go.Proofs.YtmpdnpljdcincaaGreatDoor
open Go.RowKit
def qdZ:IC:=(sR [qT 9 .lss 8 7] (.seq (jE 9) (.seq (.block 1 (sR [qX 10 7 6 8,qO 11 (.ld 7 true (.t 10)),qO 5 (.alc 83 [.str [],.str [],.int .i64 0,.int .i64 0,.int .i64 0,.nl 1,.int .i64 0]),qS 7 5 11] (.reg [qM 12 3,qF 13 0 5,qL 14 13,qO 15 (.bsl 1 [.t 14]),qO 16 (.app 9 1 16 (.t 12) (.t 15)),qM 3 16]))) (.reg [qB 17 .add 8 (cI 1),qM 8 17]))))
abbrev qi5:IC:=(sR [qO 2 (.mov (.c (.nl 1)))] (sR [qO 3 (.nilr 9 1)] (.seq (sR [qM 6 0,qN 7 6,jI 8 0] (.block 0 (.loop qdZ))) (sR [qM 18 3,qM 2 18] .ret))))
theorem qjn:chkF Tryz.prog Tryz.f57 qi5 [.t 2] 19=true:=by kernel_rfl
abbrev qkt:IC:=(sR [qO 2 (.alc 34 [.int .i64 0,.str [],.int .i64 0,.nl 7])] (.seq (sR [qM 3 0,qN 4 3,qB 5 .eql 4 (cI 0)] (jW 5 (sR [qO 6 (.bld [.int .i64 0,.str [],.int .i64 0,.nl 7] []),qS 4 2 6] .ret))) (sR [qM 7 0,qO 8 (.ixa 4 (.t 7) (cI 0)),qO 9 (.ld 4 true (.t 8)),qS 4 2 9] .ret)))
theorem qkz:chkF Tryz.prog Tryz.f8 qkt [.c 2 4 true] 10=true:=by kernel_rfl
section
variable {E:Envt}
end
section
variable {E:Envt}
end
end Go.Proofs.YtmpdnpljdcincaaGreatDoor
