import Derived.Test.YtmpdnpljdcincaaGreatDoorZ20
import Derived.Shelf.SlSortCmp.NoneTotal
set_option linter.unusedVariables false
set_option linter.unusedSimpArgs false
set_option linter.defProp false
namespace Go.Proofs.YtmpdnpljdcincaaGreatDoor
open Nat renaming reduceAdd→zd,reduceEqDiff→za,reduceLT→zf,reduceLeDiff→zb,reduceMul→ze
open List renaming any_eq_true→yw,append_nil→z6,drop_eq_nil_of_le→zL,getElem?_eq_getElem→zg,getElem?_eq_some_iff→zk,length_append→zp,length_cons→zK,length_map→zw,length_take→zJ,mem_append→zz,mem_of_getElem?→zm,mem_singleton→zy,take_of_length_le→zq,take_succ_eq_append_getElem→zo
open Go.RowKit
def qbq:IC:=(sR [qT 9 .lss 8 7] (.seq (jE 9) (.seq (.block 1 (sR [qM 10 8,qM 5 10] (sR [qM 11 1,qM 12 0,qM 13 5,qX 14 1 12 13,qL 15 14,qT 16 .eql 11 15] (jW 16 (sR [qM 17 5,qM 4 17] .ret))))) (.reg [qB 18 .add 8 (cI 1),qM 8 18]))))
abbrev qeb:IC:=(sR [jI 4 0] (.seq (sR [qM 6 0,qN 7 6,jI 8 0] (.block 0 (.loop qbq))) (sR [jI 4 (-1)] .ret)))
theorem qeg:chkF Tryz.prog Tryz.f56 qeb [.t 4] 19=true:=by kernel_rfl
abbrev qdf:IC:=(sR [qO 4 (.mov (.c (.bool false)))] (sR [qM 5 0,qM 6 1,jC 7 56 [.t 5,.t 6],qB 8 .geq 7 (cI 0),qM 4 8] .ret))
theorem qdi:chkF Tryz.prog Tryz.f96 qdf [.t 4] 9=true:=by kernel_rfl
def idxS (l:List (List UInt8)) (x:List UInt8) (k:Nat):Int:=if h:k < l.length then (if x=l[k] then k else idxS l x (k+1)) else -1
termination_by l.length - k
theorem qvr (l:List (List UInt8)) (x:List UInt8) (hl:l.length≤1000000000):PCall Tryz.prog E0 56 [.sl 1 (strE l),.str x] (·=int (idxS l x 0)):=by
 refine qag mixed Tryz.func56 qeg ?_
 refine zV ?_
 simp only [ZZ,WW,Zd,reduceCtorEq,zd,ze,zb,zf,za,qaf]
 refine qac (fun n fr L=>∃ (k:Nat),k≤l.length∧n=l.length - k∧(idxS l x 0=idxS l x k)∧fr=(.p (.sl 1 (strE l))::.p (.str x)::oC (oo::(.p (int (l.length:Nat))::.p (int (k:Nat))::oD (oB []))))∧L=[]) (l.length) _ [] (by simp only [ZZ,WW,Zd,reduceCtorEq,zd,ze,zb,zf,za,qaf];try trivial) zF_ ⟨0,by omega,by omega,rfl,rfl,rfl⟩ ?_
 rintro n fr L ⟨k,hk,rfl,hf,rfl,rfl⟩
 simp only [qbq,ZZ,WW,Zd,reduceCtorEq,zd,ze,zb,zf,za]
 refine br ?_ ?_
 ·intro h
  have hlt:k < l.length:=by have:=of_decide_eq_true h;omega
  have hg:=qc3 (zg hlt)
  simp only [ZZ,WW,Zd,reduceCtorEq,zd,ze,zb,zf,za,hg,qaf]
  ((with_reducible and_intros)<;>try exact sc_)
  refine br ?_ ?_
  ·intro h2
   have h2:x=l[k]:=of_decide_eq_true h2
   refine zS ?_
   rw [hf,idxS,dif_pos hlt,if_pos h2]
  ·intro h2
   have h2:¬ x=l[k]:=of_decide_eq_false h2
   refine zS ?_
   ((with_reducible and_intros)<;>try exact sc_)
   refine qab (l.length - (k+1)) _ [] (by omega) zF_ zF_ ⟨k+1,by omega,rfl,by rw [hf,idxS,dif_pos hlt,if_neg h2],rfl,rfl⟩
 ·intro h
  have hge:¬ k < l.length:=by have:=of_decide_eq_false h;omega
  refine zS ?_
  rw [hf,idxS,dif_neg hge]
theorem qwC (l:List (List UInt8)) (x:List UInt8):∀ (n k:Nat),l.length - k≤n→(0≤idxS l x k↔x∈l.drop k):=by
 intro n
 induction n with
 |zero=>
  intro k hk
  rw [idxS,dif_neg (by omega),zL (by omega)]
  simp
 |succ n ih=>
  intro k hk
  rw [idxS]
  split
  ·rename_i h
   rw [List.drop_eq_getElem_cons h,List.mem_cons]
   split
   ·rename_i e;simp [e]
   ·rename_i e
    rw [ih (k+1) (by omega)]
    simp [e]
  ·rename_i h
   rw [zL (by omega)]
   simp
theorem qpP (l:List (List UInt8)) (x:List UInt8) (hl:l.length≤1000000000):PCall Tryz.prog E0 96 [.sl 1 (strE l),.str x] (·=.bool (decide (x∈l))):=by
 refine qag mixed Tryz.func96 qdi ?_
 refine zV ?_
 refine use1 (qvr l x hl) rfl (.inl rfl) ?_
 refine zS ?_
 have:=qwC l x _ 0 (Nat.le_refl _)
 rw [List.drop_zero] at this
 simp only [this]
def qem:IC:=(sR [qT 52 .lss 51 50] (.seq (.cond (.t 52) .skip (.exit 2)) (.seq (.block 3 (sR [qX 53 7 49 51,qO 54 (.ld 7 true (.t 53)),qO 13 (.alc 83 [.str [],.str [],.int .i64 0,.int .i64 0,.int .i64 0,.nl 1,.int .i64 0]),qS 7 13 54] (.seq (sR [qF 55 2 13,qL 56 55,qB 57 .neq 56 (cI 1)] (jW 57 (.exit 3))) (sR [qF 58 5 13,qL 59 58,jC 60 91 [.t 59],jC 61 90 [.t 60,.c (.str [10])],jC 62 89 [.t 61],qM 14 62] (sR [qM 63 14,qO 64 (.mkf 93 [.t 7]),jC 65 92 [.t 63,.t 64]] (jW 65 (.reg [qM 66 11,qF 67 0 13,qL 68 67,qO 69 (.bsl 1 [.t 68]),qO 70 (.app 9 1 16 (.t 66) (.t 69)),qM 11 70]))))))) (.cut (.reg [qB 71 .add 51 (cI 1),qM 51 71])))))
def qen:IC:=(sR [qT 30 .lss 29 28] (.seq (jE 30) (.seq (.block 1 (sR [qX 31 1 27 29,qL 32 31,qM 9 32] (.seq (sR [qM 33 9,jC 34 89 [.t 33],qM 10 34] (sR [qM 35 10,qN 36 35,qB 37 .neq 36 (cI 1),qM 38 37,⟨some 39,.mov (.t 10),(some (38,false))⟩,⟨some 40,.ixa 1 (.t 39) (cI 0),(some (38,false))⟩,⟨some 41,.ld 1 false (.t 40),(some (38,false))⟩,⟨some 42,.mov (.t 9),(some (38,false))⟩,⟨some 43,.bin .neq (.t 41) (.t 42),(some (38,false))⟩,qO 44 (.pick (.t 38) (.c (.bool true)) (.t 43))] (jW 44 (sR [qO 4 (.mov (.c (.nl 1))),jI 5 3] .ret)))) (.reg [qL 45 7,qM 46 9,⟨none,.mpu (.t 45) (.t 46) (.c (.bool true)),none⟩])))) (.reg [qB 47 .add 29 (cI 1),qM 29 47]))))
abbrev qjJ:IC:=(sR [qO 2 (.box 34 (.t 0)),qO 4 (.mov (.c (.nl 1))),jI 5 0] (.seq (sR [qO 15 (.ld 4 true (.t 2)),jC 16 50 [.t 15],qM 17 1,qN 18 17,qB 19 .gtr 18 (cI 200),jC 20 51 [.t 19,.c (.int .i64 2)],qO 21 (.bsl 1 [.t 16,.t 20]),jC 22 49 [.t 21],qM 6 22] (sR [qM 23 6,qB 24 .neq 23 (cI 0)] (jW 24 (sR [qM 25 6,qO 4 (.mov (.c (.nl 1))),qM 5 25] .ret)))) (sR [qO 26 (.mkm 9 4),qO 7 (.alc 114 [.raw (.map none)]),qS 1 7 26] (.seq (sR [qM 27 1,qN 28 27,jI 29 0] (.block 0 (.loop qen))) (sR [qO 11 (.nilr 9 1)] (.seq (sR [qF 48 3 2,qL 49 48,qN 50 49,jI 51 0] (.block 2 (.loop qem))) (sR [qM 72 11,qM 4 72,jI 5 0] .ret)))))))
theorem qjS:chkF Tryz.prog Tryz.f30 qjJ [.t 4,.t 5] 73=true:=by kernel_rfl
abbrev qih:IC:=(sR [qO 3 (.mov (.c (.bool false)))] (sR [qL 4 1,qM 5 0,qO 6 (.mpl false (.bool false) (.t 4) (.t 5)),qM 3 6] .ret))
theorem qit:chkF Tryz.prog Tryz.f93 qih [.t 3] 7=true:=by kernel_rfl
def qb1:IC:=(sR [qT 19 .lss 18 17] (.seq (jE 19) (.seq (.block 1 (sR [qX 20 1 16 18,qL 21 20,qM 7 21] (sR [qM 22 7,jC 23 94 [.t 22],qM 24 7,qO 25 (.bsl 1 [.t 24]),jC 26 18 [.t 23,.t 25],qO 27 (.not (.t 26))] (jW 27 (sR [jI 4 3] .ret))))) (.reg [qB 28 .add 18 (cI 1),qM 18 28]))))
abbrev qfw:IC:=(sR [qO 2 (.box 34 (.t 0)),jI 4 0] (.seq (sR [qO 8 (.ld 4 true (.t 2)),jC 9 22 [.t 8],qM 5 9] (sR [qM 10 5,qB 11 .neq 10 (cI 0)] (jW 11 (sR [qM 12 5,qM 4 12] .ret)))) (.seq (sR [qM 13 1,qN 14 13,qB 15 .gtr 14 (cI 200)] (jW 15 (sR [jI 4 2] .ret))) (.seq (sR [qM 16 1,qN 17 16,jI 18 0] (.block 0 (.loop qb1))) (sR [jI 4 0] .ret)))))
theorem qfJ:chkF Tryz.prog Tryz.f31 qfw [.t 4] 29=true:=by kernel_rfl
def qcR:IC:=(sR [qT 30 .lss 29 28] (.seq (.cond (.t 30) .skip (.exit 4)) (.seq (.block 5 (sR [qX 31 1 27 29,qL 32 31,qM 12 32] (.reg [qM 33 8,qM 34 33,⟨some 35,.mov (.t 12),(some (34,false))⟩,⟨some 36,.call 94 [.t 35],(some (34,false))⟩,⟨some 37,.mkf 95 [.t 3],(some (34,false))⟩,⟨some 38,.call 92 [.t 36,.t 37],(some (34,false))⟩,qO 39 (.pick (.t 34) (.c (.bool true)) (.t 38)),qM 8 39]))) (.reg [qB 40 .add 29 (cI 1),qM 29 40]))))
def qcS:IC:=(sR [qT 24 .lss 23 22] (.seq (.cond (.t 24) .skip (.exit 2)) (.seq (.block 3 (sR [qX 25 1 21 23,qL 26 25,qM 10 26] (sR [qM 27 10,qN 28 27,jI 29 0] (.block 4 (.loop qcR))))) (.reg [qB 41 .add 23 (cI 1),qM 23 41]))))
def qcT:IC:=(sR [qT 17 .lss 16 15] (.seq (jE 17) (.seq (.block 1 (sR [qX 18 7 14 16,qO 19 (.ld 7 true (.t 18)),qO 7 (.alc 83 [.str [],.str [],.int .i64 0,.int .i64 0,.int .i64 0,.nl 1,.int .i64 0]),qS 7 7 19] (sR [qO 8 (.mov (.c (.bool false)))] (.seq (sR [qF 20 5 7,qL 21 20,qN 22 21,jI 23 0] (.block 2 (.loop qcS))) (sR [qM 42 8,qM 43 42,⟨some 44,.fla 2 (.t 7),(some (43,true))⟩,⟨some 45,.ld 1 false (.t 44),(some (43,true))⟩,⟨some 46,.bin .eql (.t 45) (cI 1),(some (43,true))⟩,qO 47 (.pick (.t 43) (.t 46) (.c (.bool false)))] (jW 47 (.reg [qM 48 5,qF 49 0 7,qL 50 49,qO 51 (.bsl 1 [.t 50]),qO 52 (.app 9 1 16 (.t 48) (.t 51)),qM 5 52]))))))) (.cut (.reg [qB 53 .add 16 (cI 1),qM 16 53])))))
abbrev qha:IC:=(sR [qO 2 (.box 34 (.t 0)),qO 3 (.box 41 (.t 1)),qO 4 (.mov (.c (.nl 1)))] (sR [qO 5 (.nilr 9 1)] (.seq (sR [qF 13 3 2,qL 14 13,qN 15 14,jI 16 0] (.block 0 (.loop qcT))) (sR [qM 54 5,qM 4 54] .ret))))
theorem qhm:chkF Tryz.prog Tryz.f32 qha [.t 4] 55=true:=by kernel_rfl
abbrev qfZ:IC:=(sR [qO 3 (.mov (.c (.bool false)))] (sR [qL 4 1,qM 5 0,jC 6 96 [.t 4,.t 5],qM 3 6] .ret))
theorem qgc:chkF Tryz.prog Tryz.f95 qfZ [.t 3] 7=true:=by kernel_rfl
def unsF (p:Prd) (ws:SRow):Int:=if prdF p=0 then (if 200 < ws.length then 2 else if ws.any (fun w=>!decide (qa2 w=[w]))=true then 3 else 0) else prdF p
def hitL (ws:SRow) (s:List UInt8):Bool:=(qa2 s).any fun w=>decide (w∈ws)
def qsh (ws:SRow) (x:Sht):Bool:=x.pages.flatten.any (hitL ws)
def unsL (l:List Sht) (ws:SRow):SRow:=(l.filter fun x=>qsh ws x && decide (x.kind=1)).map (·.id)
theorem qoh {l:List Sht} {k:Nat} {x:Sht} (ws:SRow) (h:l[k]?=some x):unsL (l.take (k+1)) ws=unsL (l.take k) ws++if (qsh ws x && decide (x.kind=1))=true then [x.id] else []:=by
 obtain ⟨hk,he⟩:=zk.1 h
 rw [zo hk,he,unsL,List.filter_append,List.map_append]
 congr 1
 by_cases hc:(qsh ws x && decide (x.kind=1))=true
 ·rw [if_pos hc];simp [hc]
 ·rw [if_neg hc];simp at hc;simp;intro a;exact hc a
theorem qvG (ws:SRow):unsL [] ws=[]:=rfl
theorem qti:strE []=[]:=rfl
theorem qmI (l:List Sht) (ws:SRow):(unsL l ws).length≤l.length:=by
 rw [unsL,zw]
 exact List.length_filter_le _ _
theorem qoE {p:Prd} (h:prdF p=0) (hp:PdB p) {x:Sht} (hx:x∈p.shs):(∀ pg∈x.pages,pg.length≤50∧∀ s∈pg,s.length≤80)∧x.pages.length≤100000:=by
 obtain ⟨_,_,_,h4⟩:=qh9 h
 obtain ⟨i,hi⟩:=List.getElem?_of_mem hx
 have hil:=(zk.1 hi).1
 have h5:=(qiO (h4 i hil)).2
 rw [show p.shs.getD i sh0=x from by simp [List.getD,hi]] at h5
 refine ⟨?_,(hp.all x hx).pages⟩
 unfold pgsE at h5
 split at h5
 ·cases h5
 split at h5
 ·cases h5
 rename_i hb
 intro pg hpg
 have h6:=hb
 simp only [Bool.not_eq_true] at h6
 rw [List.any_eq_false] at h6
 have h7:=h6 pg hpg
 unfold qlX at h7
 rw [Bool.or_eq_true,decide_eq_true_eq] at h7
 refine ⟨by omega,fun s hs=>?_⟩
 have h8:¬ pg.any qpr=true:=fun hc=>h7 (.inr hc)
 have h9:qpr s=false:=by
  simp only [Bool.not_eq_true] at h8
  have:=List.any_eq_false.1 h8 s hs
  simpa using this
 unfold qpr at h9
 rw [Bool.or_eq_false_iff,decide_eq_false_iff_not] at h9
 omega
theorem quJ:∀ (T:Tab),(∀ pg∈T,pg.length≤50)→T.flatten.length≤50 * T.length
 |[],_=>by simp
 |t :: T,h=>by
  have:=quJ T fun pg hpg=>h pg (List.mem_cons_of_mem _ hpg)
  have:=h t (by simp)
  simp only [List.flatten_cons,zp,zK]
  omega
theorem qul (c:UInt8):∀ (l:SRow),(∀ s∈l,s.length≤80)→(Lib.join l [c]).length≤81 * l.length
 |[],_=>by simp [Lib.join]
 |[x],h=>by have:=h x (by simp);simp [Lib.join];omega
 |x :: y :: l,h=>by
  have h1:=qul c (y :: l) fun s hs=>h s (List.mem_cons_of_mem _ hs)
  have h2:=h x (by simp)
  unfold Lib.join at h1 ⊢
  rw [List.intercalate_cons_cons]
  simp only [zp,zK,List.length_nil] at h1 ⊢
  omega
theorem quf (T:Tab):lenT T=T.flatten.length:=by
 rw [lenT,List.length_flatten]
theorem qmC (t:List UInt8):(qa2 t).length≤t.length+1:=by
 rw [qa2,zw]
 exact Sp.spans_len t
theorem qxl (ws:SRow) (l:SRow):(l.flatMap qa2).any (fun w=>decide (w∈ws))=l.any (hitL ws):=by
 rw [List.any_flatMap]
 rfl
theorem qwm (w:List UInt8):(!decide ((((qa2 w).length:Nat):Int)=1) || !decide ((qa2 w).getD 0 []=w))=!decide (qa2 w=[w]):=by
 generalize qa2 w=l
 rw [Bool.eq_iff_iff]
 rcases l with _|⟨a,_|⟨b,r⟩⟩
 ·simp
 ·simp
 ·simp
  omega
def mapW (kv:List (List UInt8×PV)) (ws:SRow):Prop:=∀ s,mpD kv s (.bool false)=.bool (decide (s∈ws))
theorem qwq {kv:List (List UInt8×PV)} {ws:SRow} (h:mapW kv ws) (w:List UInt8):mapW (mpS kv w (.bool true)) (ws++[w]):=fun s=>by
 have h:=h s
 unfold mpD at h ⊢
 rw [qg0]
 by_cases hs:w=s
 ·rw [if_pos hs];simp [hs]
 ·rw [if_neg hs,h]
  have:(s∈ws++[w])↔s∈ws:=by
   rw [zz,zy]
   exact ⟨fun hc=>hc.elim id fun hc=>absurd hc.symm hs,.inl⟩
  rw [decide_eq_decide.2 this]
theorem qAe (kv:List (List UInt8×PV)):(kv.map (·.1)).zip (kv.map (·.2))=kv:=by
 induction kv with
 |nil=>rfl
 |cons p r ih=>simp only [List.map_cons,List.zip_cons_cons,ih]
theorem qyd (E:Envt) (s:List UInt8) (kv:List (List UInt8×PV)) (ws:SRow) (h:mapW kv ws):PCall Tryz.prog E 93 [.str s,.ptr [.mpv (kv.map (·.1)) (kv.map (·.2))]] (·=.bool (decide (s∈ws))):=by
 have hs:=h s
 refine qag mixed Tryz.func93 qit ?_
 refine zV ?_
 simp only [ZZ,WW,Zd,reduceCtorEq,zd,ze,zb,zf,za,qAe,hs]
 try rfl
theorem qyc (s:List UInt8) (ws:SRow) (hw:ws.length≤1000000):PCall Tryz.prog E0 95 [.str s,.ptr [.sl 1 (strE ws)]] (·=.bool (decide (s∈ws))):=by
 refine qag mixed Tryz.func95 qgc ?_
 refine zV ?_
 refine use1 (qpP ws s (by omega)) rfl (.inl rfl) ?_
 refine zS ?_
 trivial
theorem qlZ (p:Prd) (ws:SRow) (hw:ws.length≤1000000) (hb:∀ w∈ws,w.length≤1000000) (hC:PCall Tryz.prog E0 22 [.agg (pdV p)] (·=int (prdF p))):PCall Tryz.prog E0 31 [.agg (pdV p),.sl 1 (strE ws)] (·=int (unsF p ws)):=by
 unfold unsF
 generalize prdF p=F at *
 simp only [pdV] at hC
 have e2:decide ((200:Int) < (ws.length:Int))=decide (200 < ws.length):=decide_eq_decide.2 (by omega)
 refine qag mixed Tryz.func31 qfJ ?_
 refine zV ?_
 simp only [pdV,ZZ,WW,Zd,reduceCtorEq,zd,ze,zb,zf,za]
 refine use1 hC rfl (.inl rfl) ?_
 refine zS ?_
 refine br ?_ ?_
 ·intro h
  have h:¬ F=0:=by simpa using h
  rw [if_neg h]
  refine zS ?_
  try first|trivial|rfl
 intro h
 have h:F=0:=by simpa using h
 rw [if_pos h]
 simp only [ZZ,WW,Zd,reduceCtorEq,zd,ze,zb,zf,za,qaf,e2]
 refine br ?_ ?_
 ·intro h
  rw [if_pos (by simpa using h)]
  refine zS ?_
  try first|trivial|rfl
 intro h
 rw [if_neg (by simpa using h)]
 simp only [ZZ,WW,Zd,reduceCtorEq,zd,ze,zb,zf,za,qaf]
 refine qac (fun n fr L=>∃ (k:Nat),k≤ws.length∧n=ws.length - k∧(∀ w∈ws.take k,(!decide (qa2 w=[w]))=false)∧fr=(oE (.p (.sl 1 (strE ws))::.p (int (ws.length:Nat))::.p (int (k:Nat))::oD (oB [])))∧L=[]) (ws.length) _ [] (by simp only [ZZ,WW,Zd,reduceCtorEq,zd,ze,zb,zf,za,qaf];try trivial) zF_ ⟨0,by omega,by omega,by simp,rfl,rfl⟩ ?_
 rintro n fr L ⟨k,hk,rfl,hno,rfl,rfl⟩
 simp only [qb1,ZZ,WW,Zd,reduceCtorEq,zd,ze,zb,zf,za]
 refine br ?_ ?_
 rotate_left
 ·intro h2
  have hge:ws.length≤k:=by have:=of_decide_eq_false h2;omega
  rw [zq hge] at hno
  rw [if_neg (by rw [List.any_eq_false.2 fun w hw=>by rw [hno w hw];simp];simp)]
  refine zS ?_
  try first|trivial|rfl
 intro h2
 have hlt:k < ws.length:=by have:=of_decide_eq_true h2;omega
 obtain ⟨w,hw0⟩:∃ w,ws[k]?=some w:=⟨_,zg hlt⟩
 have hwm:=zm hw0
 have hg:=qc3 hw0
 have hwl:=hb w hwm
 have hww:=qmC w
 simp only [ZZ,WW,Zd,reduceCtorEq,zd,ze,zb,zf,za,hg,qaf]
 ((with_reducible and_intros)<;>try exact sc_)
 refine use1 (qmx w (by omega)) rfl (.inl rfl) ?_
 simp only [ZZ,WW,Zd,reduceCtorEq,zd,ze,zb,zf,za,qeD]
 refine use1 (qlJ (qa2 w) [w] (by omega)) rfl (.inl rfl) ?_
 refine zS ?_
 refine br ?_ ?_
 ·intro h3
  rw [if_pos (yw.2 ⟨w,hwm,h3⟩)]
  refine zS ?_
  try first|trivial|rfl
 ·intro h3
  refine zS ?_
  ((with_reducible and_intros)<;>try exact sc_)
  refine qab (ws.length - (k+1)) _ [] (by omega) zF_ zF_ ⟨k+1,by omega,rfl,by rw [zo hlt];intro y hy;rcases zz.1 hy with hy|hy;exact hno y hy;rw [zy] at hy;rw [hy,(zk.1 hw0).2];exact h3,rfl,rfl⟩
theorem qqO (p:Prd) (hp:PdB p) (h0:prdF p=0) (ws:SRow) (hw:ws.length≤1000000):PCall Tryz.prog E0 32 [.agg (pdV p),.sl 1 (strE ws)] (·=.sl 1 (strE (unsL p.shs ws))):=by
 have hln:=fun {x:Sht} (hx:x∈p.shs)=>qoE h0 hp hx
 have hsl:=hp.shs
 obtain ⟨no,pre,dig,shs⟩:=p
 simp only at hln hsl ⊢
 clear h0 hp
 refine qag mixed Tryz.func32 qhm ?_
 refine zV ?_
 simp only [pdV,ZZ,WW,Zd,reduceCtorEq,zd,ze,zb,zf,za]
 simp only [ZZ,WW,Zd,reduceCtorEq,zd,ze,zb,zf,za,qae]
 refine qac (fun n fr L=>∃ (k:Nat),k≤shs.length∧n=shs.length - k∧fr=(oo::oo::oo::.adr (.l 3) 0::oo::.row (.l 5)::oD (.p (.sl 7 (shE shs))::.p (int (shs.length:Nat))::.p (int (k:Nat))::oF (oC (oB []))))∧L=[(.l 3,.box [.p (.sl 1 (strE ws))] tRw),(.l 5,.row (strE (unsL (shs.take k) ws)) tStr 1 true)]) (shs.length) _ _ (by simp only [ZZ,WW,Zd,reduceCtorEq,zd,ze,zb,zf,za,qae];try trivial) zF_ ⟨0,by omega,by omega,rfl,rfl⟩ ?_
 rintro n fr L ⟨k,hk,rfl,rfl,rfl⟩
 simp only [qcT,ZZ,WW,Zd,reduceCtorEq,zd,ze,zb,zf,za]
 refine br ?_ ?_
 rotate_left
 ·intro h
  have hge:shs.length≤k:=by have:=of_decide_eq_false h;omega
  rw [zq hge]
  refine zS ?_
  try first|trivial|rfl
 intro h
 have hlt:k < shs.length:=by have:=of_decide_eq_true h;omega
 obtain ⟨x,hx⟩:∃ x,shs[k]?=some x:=⟨_,zg hlt⟩
 have hg:=qa0 hx
 obtain ⟨hpg,hpl⟩:=hln (zm hx)
 have hun:=qoh ws hx
 have hul:=qmI (shs.take k) ws
 rw [zJ] at hul
 simp only [shV] at hg
 simp only [ZZ,WW,Zd,reduceCtorEq,zd,ze,zb,zf,za,hg,qae]
 ((with_reducible and_intros)<;>try exact sc_)
 simp only [ZZ,WW,Zd,reduceCtorEq,zd,ze,zb,zf,za,qaC]
 refine qac (fun n fr L=>∃ (j:Nat),j≤x.pages.length∧n=x.pages.length - j∧fr=(oo::oo::oo::.adr (.l 3) 0::oo::.row (.l 5)::oo::.adr (.l 7) 0::.p (.bool ((x.pages.take j).flatten.any (hitL ws)))::oC (oo::(.p (.sl 7 (shE shs))::.p (int (shs.length:Nat))::.p (int (k:Nat))::oo::oo::oo::oo::.p (.sl 1 (tbE x.pages))::.p (int (x.pages.length:Nat))::.p (int (j:Nat))::oE (oD (oC (oB (oo::[])))))))∧L=[(.l 3,.box [.p (.sl 1 (strE ws))] tRw),(.l 5,.row (strE (unsL (shs.take k) ws)) tStr 1 true),(.l 7,.box [.p (.str x.id),.p (.str x.top),.p (int x.kind),.p (int x.fr_),.p (int x.to_),.p (.sl 1 (tbE x.pages)),.p (int x.ver)] qbw)]) (x.pages.length) _ _ (by simp only [ZZ,WW,Zd,reduceCtorEq,zd,ze,zb,zf,za,qaC];try trivial) zF_ ⟨0,by omega,by omega,rfl,rfl⟩ ?_
 rintro n fr L ⟨j,hj,rfl,rfl,rfl⟩
 simp only [qcS,ZZ,WW,Zd,reduceCtorEq,zd,ze,zb,zf,za]
 refine br ?_ ?_
 ·intro h2
  have hjl:j < x.pages.length:=by have:=of_decide_eq_true h2;omega
  obtain ⟨pg,hp0⟩:∃ pg,x.pages[j]?=some pg:=⟨_,zg hjl⟩
  have hgp:=qh4 hp0
  obtain ⟨hp1,hp2⟩:=hpg pg (zm hp0)
  have hpn:(x.pages.take (j+1)).flatten=(x.pages.take j).flatten++pg:=by
   rw [zo hjl,(zk.1 hp0).2]
   simp
  simp only [ZZ,WW,Zd,reduceCtorEq,zd,ze,zb,zf,za,hgp,qaC]
  ((with_reducible and_intros)<;>try exact sc_)
  simp only [ZZ,WW,Zd,reduceCtorEq,zd,ze,zb,zf,za,qaf]
  refine qac (fun n fr L=>∃ (i:Nat),i≤pg.length∧n=pg.length - i∧fr=(oo::oo::oo::.adr (.l 3) 0::oo::.row (.l 5)::oo::.adr (.l 7) 0::.p (.bool (((x.pages.take j).flatten++pg.take i).any (hitL ws)))::oC (oo::(.p (.sl 7 (shE shs))::.p (int (shs.length:Nat))::.p (int (k:Nat))::oo::oo::oo::oo::.p (.sl 1 (tbE x.pages))::.p (int (x.pages.length:Nat))::.p (int (j:Nat))::oo::oo::oo::.p (.sl 1 (strE pg))::.p (int (pg.length:Nat))::.p (int (i:Nat))::oE (oD (oo::[])))))∧L=[(.l 3,.box [.p (.sl 1 (strE ws))] tRw),(.l 5,.row (strE (unsL (shs.take k) ws)) tStr 1 true),(.l 7,.box [.p (.str x.id),.p (.str x.top),.p (int x.kind),.p (int x.fr_),.p (int x.to_),.p (.sl 1 (tbE x.pages)),.p (int x.ver)] qbw)]) (pg.length) _ _ (by simp only [ZZ,WW,Zd,reduceCtorEq,zd,ze,zb,zf,za,qaf,z6];try trivial) zF_ ⟨0,by omega,by omega,rfl,rfl⟩ ?_
  rintro n fr L ⟨i,hi,rfl,rfl,rfl⟩
  simp only [qcR,ZZ,WW,Zd,reduceCtorEq,zd,ze,zb,zf,za]
  refine br ?_ ?_
  ·intro h3
   have hil:i < pg.length:=by have:=of_decide_eq_true h3;omega
   obtain ⟨s,hs0⟩:∃ s,pg[i]?=some s:=⟨_,zg hil⟩
   have hgs:=qc3 hs0
   have hsl2:=hp2 s (zm hs0)
   have hww:=qmC s
   have hnx:(((x.pages.take j).flatten++pg.take i).any (hitL ws) || hitL ws s)=((x.pages.take j).flatten++pg.take (i+1)).any (hitL ws):=by
    rw [zo hil,(zk.1 hs0).2]
    simp [List.any_append,Bool.or_assoc]
   generalize ((x.pages.take j).flatten++pg.take i).any (hitL ws)=b0 at *
   simp only [ZZ,WW,Zd,reduceCtorEq,zd,ze,zb,zf,za,hgs,qaf]
   ((with_reducible and_intros)<;>try exact sc_)
   refine useG (fun _=>qmx s (by omega)) rfl (.inl rfl) ?_
   simp only [ZZ,WW,Zd,reduceCtorEq,zd,ze,zb,zf,za,qeD]
   refine useG (fun _=>qbM (qa2 s) 95 [.ptr [.sl 1 (strE ws)]] (fun w=>decide (w∈ws)) (by omega) (fun _=>by kernel_rfl) rfl (fun z hz=>qyc z ws hw) (fun _=>rfl) (fun _=>rfl)) rfl (.inr rfl) ?_
   refine zS ?_
   ((with_reducible and_intros)<;>try exact sc_)
   rw [show ((qa2 s).any fun w=>decide (w∈ws))=hitL ws s from rfl,hnx]
   refine qab (pg.length - (i+1)) _ _ (by omega) zF_ zF_ ⟨i+1,by omega,rfl,rfl,rfl⟩
  intro h3
  have hil:pg.length≤i:=by have:=of_decide_eq_false h3;omega
  rw [zq hil,← hpn]
  refine zS ?_
  ((with_reducible and_intros)<;>try exact sc_)
  refine qab (x.pages.length - (j+1)) _ _ (by omega) zF_ zF_ ⟨j+1,by omega,rfl,rfl,rfl⟩
 intro h2
 have hjl:x.pages.length≤j:=by have:=of_decide_eq_false h2;omega
 rw [zq hjl]
 rw [show x.pages.flatten.any (hitL ws)=qsh ws x from rfl]
 refine zS ?_
 ((with_reducible and_intros)<;>try exact sc_)
 refine br ?_ ?_
 ·intro h3
  rw [if_pos h3] at hun
  simp only [ZZ,WW,Zd,reduceCtorEq,zd,ze,zb,zf,za,qaf]
  ((with_reducible and_intros)<;>try exact sc_)
  refine qaF _ _ ReOk.refl ?_
  refine zS ?_
  ((with_reducible and_intros)<;>try exact sc_)
  refine qab (shs.length - (k+1)) _ _ (by omega) zF_ (by rw [hun,qeq];simp only [ZZ,WW,Zd,reduceCtorEq,zd,ze,zb,zf,za];rfl) ⟨k+1,by omega,rfl,rfl,rfl⟩
 ·intro h3
  rw [if_neg (by rw [h3];simp),z6] at hun
  refine zS ?_
  refine qaF _ _ ReOk.refl ?_
  refine zS ?_
  ((with_reducible and_intros)<;>try exact sc_)
  refine qab (shs.length - (k+1)) _ _ (by omega) zF_ (by rw [hun];simp only [ZZ,WW,Zd,reduceCtorEq,zd,ze,zb,zf,za]) ⟨k+1,by omega,rfl,rfl,rfl⟩
set_option maxHeartbeats 1000000 in
theorem qvi (p:Prd) (hp:PdB p) (ws:SRow) (hw:ws.length≤1000000) (hb:∀ w∈ws,w.length≤1000000) (hC:PCall Tryz.prog E0 50 [.agg (pdV p)] (·=int (prdF p))):PCall Tryz.prog E0 30 [.agg (pdV p),.sl 1 (strE ws)] (·=.tup [.sl 1 (strE (if unsF p ws=0 then unsL p.shs ws else [])),int (unsF p ws)]):=by
 have hln:=fun h0 {x:Sht} (hx:x∈p.shs)=>qoE h0 hp hx
 have hsl:=hp.shs
 unfold unsF
 obtain ⟨no,pre,dig,shs⟩:=p
 simp only [pdV] at hln hsl hC ⊢
 generalize prdF ⟨no,pre,dig,shs⟩=F at *
 clear hp
 have e2:decide ((200:Int) < (ws.length:Int))=decide (200 < ws.length):=decide_eq_decide.2 (by omega)
 have h2e:qai [F,qak (decide (200 < ws.length)) 2]=if F=0 then (if 200 < ws.length then 2 else 0) else F:=by
  simp only [qai]
  by_cases h1:F=0
  ·rw [if_pos h1,if_pos h1]
   by_cases h2:200 < ws.length
   ·rw [if_pos h2,decide_eq_true h2];rfl
   ·rw [if_neg h2,decide_eq_false h2];rfl
  ·rw [if_neg h1,if_neg h1]
 refine qag mixed Tryz.func30 qjS ?_
 refine zV ?_
 refine use1 hC rfl (.inl rfl) ?_
 simp only [ZZ,WW,Zd,reduceCtorEq,zd,ze,zb,zf,za,qaf,e2]
 refine use1 (qcL _ 2) rfl (.inl rfl) ?_
 refine zS ?_
 refine use1 (qeA [F,qak (decide (200 < ws.length)) 2] (by simp)) rfl (.inl rfl) ?_
 rw [h2e]
 refine zS ?_
 by_cases hF:F=0
 rotate_left
 ·rw [if_neg hF,if_neg hF,if_neg hF]
  have e1:(!decide (F=0))=true:=by simpa using hF
  simp only [ZZ,WW,Zd,reduceCtorEq,zd,ze,zb,zf,za,e1]
  try rfl
 rw [if_pos hF,if_pos hF]
 by_cases h200:200 < ws.length
 ·rw [if_pos h200,if_pos h200]
  simp only [ZZ,WW,Zd,reduceCtorEq,zd,ze,zb,zf,za,show (!decide ((2:Int)=0))=true from rfl,decide_false,Bool.not_false]
  try rfl
 rw [if_neg h200,if_neg h200]
 have hln:=fun {x:Sht}=>@hln hF x
 simp only [ZZ,WW,Zd,reduceCtorEq,zd,ze,zb,zf,za,decide_true,Bool.not_true,qaf]
 refine qac (fun n fr L=>∃ (k:Nat) (kv:List (List UInt8×PV)),k≤ws.length∧n=ws.length - k∧(∀ w∈ws.take k,(!decide (qa2 w=[w]))=false)∧(mapW kv (ws.take k))∧fr=(oo::oo::.adr (.l 2) 0::oo::oo::oo::oo::.adr (.l 7) 0::oE (oB (oo::(.p (.sl 1 (strE ws))::.p (int (ws.length:Nat))::.p (int (k:Nat))::oF (oD (oB (oo::[])))))))∧L=[(.l 2,.box [.p (int no),.p (.str pre),.p (int dig),.p (.sl 7 (shE shs))] tPrd),(.l 26,.map kv 9 4),(.l 7,.box [.mp (.l 26)] 114)]) (ws.length) _ _ (by simp only [ZZ,WW,Zd,reduceCtorEq,zd,ze,zb,zf,za,qaf];try trivial) zF_ ⟨0,[],by omega,by omega,by simp,(fun s=>rfl),rfl,rfl⟩ ?_
 rintro n fr L ⟨k,kv,hk,rfl,hno,hkv,rfl,rfl⟩
 simp only [qen,ZZ,WW,Zd,reduceCtorEq,zd,ze,zb,zf,za]
 refine br ?_ ?_
 ·intro h2
  have hlt:k < ws.length:=by have:=of_decide_eq_true h2;omega
  obtain ⟨w,hw0⟩:∃ w,ws[k]?=some w:=⟨_,zg hlt⟩
  have hwm:=zm hw0
  have hg:=qc3 hw0
  have hwl:=hb w hwm
  have hww:=qmC w
  have hon:=qwm w
  have hkp:=qwq hkv w
  have hwn:ws.take (k+1)=ws.take k++[w]:=by rw [zo hlt,(zk.1 hw0).2]
  rw [← hwn] at hkp
  simp only [ZZ,WW,Zd,reduceCtorEq,zd,ze,zb,zf,za,hg,qaf]
  ((with_reducible and_intros)<;>try exact sc_)
  refine use1 (qr6 w (by omega)) rfl (.inl rfl) ?_
  have hx0:(qa2 w).length=1→0 < (qa2 w).length:=fun h=>by omega
  have hsg:(strE (qa2 w)).getD 0 []=[.str ((qa2 w).getD 0 [])]∨(qa2 w).length≠1:=by
   generalize qa2 w=l
   rcases l with _|⟨a,r⟩
   ·exact .inr (by simp)
   ·exact .inl rfl
  by_cases hl1:(qa2 w).length=1
  ·have hg0:=hsg.resolve_right (by simpa using hl1)
   rw [hl1] at hon
   have e1:decide (((1:Nat):Int)=1)=true:=rfl
   rw [e1] at hon
   rw [Bool.not_true,Bool.false_or] at hon
   simp only [ZZ,WW,Zd,reduceCtorEq,zd,ze,zb,zf,za,qeD,qaf,hl1,e1,hg0,show Int.toNat 0=0 from rfl]
   refine ⟨⟨by decide,by decide⟩,?_⟩
   rw [hon]
   refine br ?_ ?_
   ·intro h3
    rw [if_pos (yw.2 ⟨w,hwm,h3⟩),if_neg (by decide)]
    refine zS ?_
    try first|trivial|rfl
   ·intro h3
    refine zS ?_
    ((with_reducible and_intros)<;>try exact sc_)
    refine qab (ws.length - (k+1)) _ _ (by omega) zF_ zF_ ⟨k+1,mpS kv w (.bool true),by omega,rfl,by rw [hwn];intro y hy;rcases zz.1 hy with hy|hy;exact hno y hy;rw [zy] at hy;rw [hy];exact h3,hkp,rfl,rfl⟩
  ·have e1:decide (((qa2 w).length:Int)=1)=false:=by rw [decide_eq_false_iff_not];omega
   rw [e1,Bool.not_false,Bool.true_or] at hon
   have hany:(ws.any fun w=>!decide (qa2 w=[w]))=true:=yw.2 ⟨w,hwm,hon.symm⟩
   rw [if_pos hany,if_neg (by decide)]
   clear hon hany hkp hww hx0 hsg
   generalize qa2 w=l at *
   rcases l with _|⟨a,r⟩
   ·have e1:decide (((0:Nat):Int)=1)=false:=rfl
    simp only [ZZ,WW,Zd,reduceCtorEq,zd,ze,zb,zf,za,qeD,qaf,e1,false_implies,show (strE ([]:SRow)).getD (Int.toNat 0) []=[] from rfl]
    try rfl
   ·simp only [zK] at e1
    simp only [ZZ,WW,Zd,reduceCtorEq,zd,ze,zb,zf,za,qeD,qaf,e1,false_implies,show (strE (a :: r)).getD (Int.toNat 0) []=[.str a] from rfl]
    try rfl
 intro h2
 have hge:ws.length≤k:=by have:=of_decide_eq_false h2;omega
 rw [zq hge] at hno hkv
 have hany:(ws.any fun w=>!decide (qa2 w=[w]))=false:=List.any_eq_false.2 fun w hw=>by rw [hno w hw];simp
 rw [hany]
 simp only [Bool.false_eq_true,if_false,if_true]
 simp only [ZZ,WW,Zd,reduceCtorEq,zd,ze,zb,zf,za,qae]
 refine qfR (fun n fr L=>∃ (k:Nat),k≤shs.length∧n=shs.length - k∧fr=(oC (oB (oo::(.adr (.l 7) 0::oo::oo::oo::.row (.l 11)::oF (oC (oo::(.p (.sl 7 (shE shs))::.p (int (shs.length:Nat))::.p (int (k:Nat))::oE (oC (oo::[])))))))))∧L=[(.l 7,.box [.p (.mpv (kv.map (·.1)) (kv.map (·.2)))] 114),(.l 11,.row (strE (unsL (shs.take k) ws)) tStr 1 true)]) (shs.length) _ _ (ReOk.trans (qAG (k:=.l 26) rfl) (by simp only [ZZ,WW,Zd,reduceCtorEq,zd,ze,zb,zf,za];exact qax zF_ (by simp only [ZZ,WW,Zd,reduceCtorEq,zd,ze,zb,zf,za,qvG,qti];try rfl))) ⟨0,by omega,by omega,rfl,rfl⟩ ?_
 rintro n fr L ⟨k,hk,rfl,rfl,rfl⟩
 simp only [qem,ZZ,WW,Zd,reduceCtorEq,zd,ze,zb,zf,za]
 refine br ?_ ?_
 rotate_left
 ·intro h
  have hge:shs.length≤k:=by have:=of_decide_eq_false h;omega
  rw [zq hge]
  refine zS ?_
  try first|trivial|rfl
 intro h
 have hlt:k < shs.length:=by have:=of_decide_eq_true h;omega
 obtain ⟨x,hx⟩:∃ x,shs[k]?=some x:=⟨_,zg hlt⟩
 have hg:=qa0 hx
 obtain ⟨hpg,hpl⟩:=hln (zm hx)
 have hun:=qoh ws hx
 have hul:=qmI (shs.take k) ws
 rw [zJ] at hul
 have hf1:=quJ x.pages fun pg hpg0=>(hpg pg hpg0).1
 have hf2:∀ s∈x.pages.flatten,s.length≤80:=fun s hs=>by
  obtain ⟨pg,hp1,hp2⟩:=List.mem_flatten.1 hs
  exact (hpg pg hp1).2 s hp2
 have hjb:=qul 10 x.pages.flatten hf2
 have hwj:=qsc 10 (by decide) x.pages.flatten
 have hwl:=qmC (Lib.join x.pages.flatten [10])
 have hcat:=qsT (E:=E0) x.pages (by omega) (by rw [quf];omega)
 have hany:=qxl ws x.pages.flatten
 rw [← hwj] at hany
 simp only [shV] at hg
 simp only [ZZ,WW,Zd,reduceCtorEq,zd,ze,zb,zf,za,hg,qae]
 ((with_reducible and_intros)<;>try exact sc_)
 refine br ?_ ?_
 ·intro h2
  have hk1:(qsh ws x && decide (x.kind=1))=false:=by
   have:decide (x.kind=1)=false:=by simpa using h2
   rw [this,Bool.and_false]
  rw [if_neg (by rw [hk1];simp),z6] at hun
  refine zS ?_
  refine qaF _ _ ReOk.refl ?_
  refine zS ?_
  ((with_reducible and_intros)<;>try exact sc_)
  refine qab (shs.length - (k+1)) _ _ (by omega) zF_ (by rw [hun];simp only [ZZ,WW,Zd,reduceCtorEq,zd,ze,zb,zf,za]) ⟨k+1,by omega,rfl,rfl,rfl⟩
 intro h2
 have hk1:decide (x.kind=1)=true:=by simpa using h2
 rw [hk1,Bool.and_true] at hun
 refine zS ?_
 refine use1 (qoF hcat) rfl (.inl rfl) ?_
 refine zS ?_
 refine use1 (qAc x.pages.flatten [10] (by omega) (by omega)) rfl (.inl rfl) ?_
 refine zS ?_
 refine use1 (qr6 (Lib.join x.pages.flatten [10]) (by omega)) rfl (.inl rfl) ?_
 simp only [ZZ,WW,Zd,reduceCtorEq,zd,ze,zb,zf,za,qeD]
 refine use1 (qbM (qa2 (Lib.join x.pages.flatten [10])) 93 [.ptr [.mpv (kv.map (·.1)) (kv.map (·.2))]] (fun w=>decide (w∈ws)) (by omega) (fun _=>by kernel_rfl) rfl (fun z hz=>qyd E0 z kv ws hkv) (fun _=>rfl) (fun _=>rfl)) rfl (.inr rfl) ?_
 rw [hany,show x.pages.flatten.any (hitL ws)=qsh ws x from rfl]
 refine zS ?_
 refine br ?_ ?_
 ·intro h3
  rw [if_pos h3] at hun
  simp only [ZZ,WW,Zd,reduceCtorEq,zd,ze,zb,zf,za,qaf]
  ((with_reducible and_intros)<;>try exact sc_)
  refine qaF _ _ ReOk.refl ?_
  refine zS ?_
  ((with_reducible and_intros)<;>try exact sc_)
  refine qab (shs.length - (k+1)) _ _ (by omega) zF_ (by rw [hun,qeq];simp only [ZZ,WW,Zd,reduceCtorEq,zd,ze,zb,zf,za];rfl) ⟨k+1,by omega,rfl,rfl,rfl⟩
 ·intro h3
  rw [if_neg (by rw [h3];simp),z6] at hun
  refine zS ?_
  refine qaF _ _ ReOk.refl ?_
  refine zS ?_
  ((with_reducible and_intros)<;>try exact sc_)
  refine qab (shs.length - (k+1)) _ _ (by omega) zF_ (by rw [hun];simp only [ZZ,WW,Zd,reduceCtorEq,zd,ze,zb,zf,za]) ⟨k+1,by omega,rfl,rfl,rfl⟩
end Go.Proofs.YtmpdnpljdcincaaGreatDoor
namespace Go.Proofs.YtmpdnpljdcincaaGreatDoor
open List renaming all_eq_true→yo,flatten_cons→zI,getElem?_eq_getElem→zg,getElem?_eq_none→zO,length_cons→zK,map_cons→zx,mem_map→zG
open Go.Lib Go.RowKit Go.Shelf Go.Sort
section
variable {P:Program} {ρ:Ren} {E:Envt} {α:Type} [Inhabited α]
def encD (encP:α→List PV) (x:α):List Value:=(encP x).map valD
theorem qjQ (enc:α→List Value) (k:Nat) (hk:∀ x,(enc x).length=k) (l:List α):(flatK enc k l.toArray).toList=(l.map enc).flatten:=by
 have hlen:∀ l:List α,((l.map enc).flatten).length=l.length * k:=by
  intro l
  induction l with
  |nil=>simp
  |cons x r ih=>rw [zx,zI,List.length_append,ih,hk,zK,Nat.add_mul];omega
 have hget:∀ (l:List α) (t:Nat),t < l.length * k→((l.map enc).flatten)[t]?=some (enc (l.toArray)[t / k]!)[t % k]!:=by
  intro l
  induction l with
  |nil=>intro t h;simp at h
  |cons x r ih=>
   intro t h
   have k0:0 < k:=by rcases Nat.eq_zero_or_pos k with h'|h';· subst h';simp at h
                     ·exact h'
   rw [zx,zI]
   by_cases ht:t < k
   ·rw [List.getElem?_append_left (by rw [hk];exact ht),Nat.div_eq_of_lt ht,Nat.mod_eq_of_lt ht]
    have:((x :: r).toArray)[0]! =x:=rfl
    rw [this,zg (by rw [hk];exact ht),getElem!_pos (enc x) t (by rw [hk];exact ht)]
   ·rw [List.getElem?_append_right (by rw [hk];omega),hk,ih (t - k) (by rw [zK,Nat.add_mul] at h;omega)]
    obtain ⟨u,rfl⟩:∃ u,t=u+k:=⟨t - k,by omega⟩
    rw [Nat.add_sub_cancel,Nat.add_mod_right,Nat.add_div_right _ k0]
    congr 2
    simp
 apply List.ext_getElem?
 intro t
 by_cases ht:t < l.length * k
 ·rw [hget l t ht,Array.getElem?_toList,Array.getElem?_eq_getElem (by rw [size_flatK];simpa using ht)]
  have:=get_flatK enc k l.toArray t (by simpa using ht)
  rw [getElem!_pos _ t (by rw [size_flatK];simpa using ht)] at this
  rw [this]
 ·rw [zO (by rw [Array.length_toList,size_flatK];simpa using ht),zO (by rw [hlen];omega)]
theorem qk2 (lt:α→α→Bool) (d:Array α) (n:Nat) (hn:d.size=n) (h:SortedIn lt 0 n d):d.toList.Pairwise (fun u v=>lt v u=false):=by
 rw [List.pairwise_iff_getElem]
 intro i j hi hj hij
 have:=h i j (Nat.zero_le _) hij (by simpa [hn] using hj)
 rw [getElem!_pos d i (by simpa using hi),getElem!_pos d j (by simpa using hj)] at this
 simpa using this
theorem qtQ (d d':Array α) (h:PermIn 0 d.size d d'):d'.toList.Perm d.toList∧d'.size=d.size:=by
 refine ⟨?_,h.1⟩
 have:=h.2.2
 rw [Array.extract_eq_self_of_le (Nat.le_refl _),Array.extract_eq_self_of_le (by rw [h.1];exact Nat.le_refl _)] at this
 exact this
theorem qj4 (L:SlLaysF0.n6 P ρ) (k:Nat) (aE:∀ w,(isAgg (ρ.t 24)).run P w=.ok true w) (zE:∀ w,(Go.sizeOf (ρ.t 24)).run P w=.ok k w) (et:TypeId) (encP:α→List PV) (hk:∀ x,(encP x).length=k) (hf:∀ x,(encP x).all qlU=true) (cf:α→α→Int) (hO:SWO (ltOf cf)) (g:Nat) (eg:∀ args w,(callFunc g args).run P w=.ok (.enter g args) w)
  (hcmp:∀ (w:World) (x y:α),Calls P g #[.agg (encD encP x).toArray,.agg (encD encP y).toArray] w fun e w'=>e=.returned (.int .i64 (cf x y))∧∃ q os',w'=grow (w.drewN q) os') (l:List α) (hl:l.length≤1000000000000) :
  RCall P E (ρ.f 6) et k (l.map encP) [.clo g []] (fun x es'=>x=.tup []∧∃ l':List α,es'=l'.map encP∧l'.Perm l∧l'.Pairwise (fun u v=>ltOf cf v u=false)):=by
 intro w U vs v0 hU hE hEb hA hB
 obtain ⟨hB1,us,hrow,h1,hrep,hz⟩:=hB
 have hvs:vs=[.func (.func g) #[] #[]]:=by
  simp only [PRepL,PRep] at hA
  obtain ⟨v,r,rfl,⟨us,h1,rfl⟩,rfl⟩:=hA
  rw [h1]
 subst hvs
 have hall:∀ l:List α,((l.map encP).flatten).all qlU=true:=by
  intro l
  induction l with
  |nil=>rfl
  |cons x r ih=>rw [zx,zI,List.all_append,hf,ih];rfl
 have hmapf:∀ l:List α,((l.map encP).flatten).map valD=(l.map (encD encP)).flatten:=by
  intro l
  induction l with
  |nil=>rfl
  |cons x r ih=>rw [zx,zI,List.map_append,ih];rfl
 rw [PRepL.valD (hall l),hmapf] at hrep
 subst hrep
 have hke:∀ x,(encD encP x).length=k:=fun x=>by simp [encD,hk]
 rw [List.length_map] at hrow
 rcases hrow.2 with ⟨rfl,hn⟩|⟨b,cap,cur,fz,rfl,hg,hn,hcap,hcs,htk,hfz⟩
 ·have hl0:l=[]:=List.eq_nil_of_length_eq_zero hn
  subst hl0
  refine (AnyF.slices_SortFunc_none L none 0 (.func (.func g) #[] #[]) w).mono ?_
  rintro e w' ⟨rfl,rfl⟩
  exact ⟨_,.p (.tup []),.row et k [],rfl,⟨_,_,rfl,rfl,rfl,[],rfl,.refl _,.nil⟩,⟨[],rfl,by simp [PRepL]⟩,Grow.refl _ _,⟨[],⟨by simp,.inl ⟨rfl,rfl⟩⟩,by simp,by simp [PRepL],by simp⟩⟩
 ·have hf0:fz=(0,0):=by rcases hfz with h|h;exact h;exact absurd h.1 (by simp)
  subst hf0
  have hb:b < w.heap.size:=by
   rcases Nat.lt_or_ge b w.heap.size with h|h
   ·exact h
   ·rw [Array.getElem?_eq_none h] at hg;cases hg
  have hlk:=qjQ (encD encP) k hke l
  have hsz:(flatK (encD encP) k l.toArray).size=l.length * k:=by rw [size_flatK];simp
  have hH:HoldsK (encD encP) k w b 0 l.toArray:=by
   intro j hj
   rw [hsz] at hj
   have e1:cur[j]?=some ((flatK (encD encP) k l.toArray)[j]!):=by
    rw [getElem!_pos _ j (by rw [hsz];exact hj),← Array.getElem_toList,← zg,hlk,← htk,List.getElem?_take_of_lt hj,Array.getElem?_toList]
   refine ⟨?_,?_⟩
   ·simp only [World.cell?,hg]
    simpa using e1
   ·simp [World.frozen?,hg]
  have hcmp':CmpLays P g #[] (encD encP) k cf b 0 l.toArray.size w:=fun m os dk hs x y=>by simpa using hcmp _ x y
  refine (AnyQ.slices_SortFunc L k aE zE (encD encP) hke (fun x v hv=>by
   simp only [encD,zG] at hv
   obtain ⟨q,hq,rfl⟩:=hv
   exact qq6 (yo.1 (hf x) q hq)) cf hO g #[] b 0 cap l.toArray w eg hcmp' hH hb (by simp;omega)).mono ?_
  rintro e w' ⟨rfl,d',n,os,hperm,hsort,rfl⟩
  obtain ⟨hp1,hp2⟩:=qtQ _ _ hperm
  have hp2':d'.size=l.length:=by simpa using hp2
  have hds:=qk2 (ltOf cf) d' l.toArray.size hp2 hsort
  have hblk:∀ c,c≠b→c < w.heap.size→(sortWorldK (encD encP) k w b 0 n d' os).heap[c]?=w.heap[c]?:=by
   intro c hc hlt
   simp only [sortWorldK,grow,putRowK,putRow,mapBlock]
   rw [Array.getElem?_append_left (by simpa using hlt),Array.getElem?_modify,if_neg (fun e=>hc e.symm)]
   rfl
  have hnew:(sortWorldK (encD encP) k w b 0 n d' os).heap[b]?=some (.cells (putCells id 0 (flatK (encD encP) k d') cur) et (0,0)):=by
   simp only [sortWorldK,grow,putRowK,putRow,mapBlock]
   rw [Array.getElem?_append_left (by simpa using hb),Array.getElem?_modify,if_pos rfl]
   show Option.map _ w.heap[b]?=_
   rw [hg]
   rfl
  have hGr:Grow w (sortWorldK (encD encP) k w b 0 n d' os) (fun c=>blk (.slice (some ⟨b,0,none⟩) l.length cap)=some c):=by
   refine ⟨rfl,rfl,rfl,?_,fun c hc hne=>hblk c (fun e=>hne (by rw [e];rfl)) hc⟩
   simp [sortWorldK,grow,putRowK,putRow,mapBlock]
  refine ⟨_,.p (.tup []),.row et k (d'.toList.map encP),rfl,⟨_,_,rfl,rfl,rfl,d'.toList,rfl,by simpa using hp1,hds⟩,⟨[],rfl,by simp [PRepL]⟩,hGr,?_⟩
  have hlen':((d'.toList.map (encD encP)).flatten).length=l.length * k:=by
   rw [← qjQ (encD encP) k hke d'.toList,Array.length_toList,size_flatK]
   simp [hp2']
  have hdl:(d'.toList.map encP).length=l.length:=by simp [hp2']
  refine ⟨(d'.toList.map (encD encP)).flatten,⟨by rw [hlen',hdl],.inr ⟨b,cap,_,(0,0),by rw [hdl],hnew,by rw [hdl];exact hn,hcap,by simp [putCells,hcs],?_,.inl rfl⟩⟩,?_,?_,?_⟩
  ·rw [hdl]
   have hle:l.length * k≤cur.size:=by rw [hcs];exact Nat.mul_le_mul_right _ hn
   have hfk:=qjQ (encD encP) k hke d'.toList
   apply List.ext_getElem?
   intro j
   by_cases hj:j < l.length * k
   ·rw [List.getElem?_take_of_lt hj,Array.getElem?_toList,← hfk,Array.getElem?_toList]
    have hsz':(flatK (encD encP) k d').size=l.length * k:=by rw [size_flatK,hp2']
    simp only [putCells,Array.getElem?_mapIdx,hsz']
    rw [Array.getElem?_eq_getElem (by omega),Option.map_some,if_pos ⟨Nat.zero_le _,by omega⟩,Nat.sub_zero,getElem!_pos _ j (by rw [hsz'];exact hj)]
    simp
   ·rw [zO (by rw [List.length_take];omega),zO (by rw [hlen'];omega)]
  ·intro u hu
   obtain ⟨q,hq,hu⟩:=List.mem_flatten.1 hu
   obtain ⟨x,hx,rfl⟩:=zG.1 hq
   simp only [encD,zG] at hu
   obtain ⟨q,hq,rfl⟩:=hu
   exact qq6 (yo.1 (hf x) q hq)
  ·rw [PRepL.valD (hall d'.toList),hmapf]
  ·intro x hx
   obtain ⟨y,_,rfl⟩:=zG.1 hx
   exact hk y
end
end Go.Proofs.YtmpdnpljdcincaaGreatDoor
