import Derived.Test.YtmpdnpljdcincaaGreatDoorZ23
set_option linter.unusedVariables false
set_option linter.unusedSimpArgs false
set_option linter.defProp false
namespace Go.Proofs.YtmpdnpljdcincaaGreatDoor
open Nat renaming reduceAdd→zd,reduceEqDiff→za,reduceLT→zf,reduceLeDiff→zb,reduceMul→ze,reduceSub→zx
open List renaming cons_append→zp,length_cons→zj,length_map→zE,length_nil→zr,map_cons→zo,nil_append→zq,replicate_succ→zi,replicate_zero→zm
open Go.RowKit
def qeE:IC:=(sR [qO 2 (.mov (.c (.bool false)))] (sR [qM 30 0,qO 31 (.bld [.nl 1,.int .i64 0] [(0,1,.t 30)]),qO 32 (.box 25 (.t 31)),qM 3 32] (sR [qM 34 3,qM 35 3,qO 36 (.call 7 [.t 35,.c (.int .i64 7)]),⟨none,.fz (.t 36),none⟩,qO 37 (.call 6 [.t 34,.t 36]),qM 33 37,qO 38 (.ext 0 (.t 33)),qO 39 (.ext 1 (.t 33)),qM 4 38,qM 5 39] (sR [qM 40 4,⟨none,.fz (.t 40),none⟩,qO 41 (.call 8 [.t 40]),qM 42 3,qO 43 (.call 33 [.t 42]),qM 44 3,qO 45 (.call 9 [.t 44]),qO 6 (.alc 34 [.int .i64 0,.str [],.int .i64 0,.nl 7]),qS 4 6 41,qM 7 43,qM 8 45] (sR [qO 47 (.ld 4 true (.t 6)),qM 48 7,⟨none,.fz (.t 48),none⟩,qO 49 (.call 34 [.t 47,.t 48]),qM 46 49,qO 50 (.ext 0 (.t 46)),qO 51 (.ext 1 (.t 46)),qM 9 50,qM 10 51] (sR [qO 53 (.ld 4 true (.t 6)),qM 54 7,⟨none,.fz (.t 54),none⟩,qO 55 (.call 35 [.t 53,.t 54]),qM 52 55,qO 56 (.ext 0 (.t 52)),qO 57 (.ext 1 (.t 52)),qM 11 56,qM 12 57] (.seq (sR [qM 58 10,qM 59 12,qT 60 .neq 58 59,qM 61 60,⟨some 62,.mov (.t 9),(some (61,false))⟩,⟨some 63,.mov (.t 11),(some (61,false))⟩,⟨some 64,.call 18 [.t 62,.t 63],(some (61,false))⟩,⟨some 65,.not (.t 64),(some (61,false))⟩,qO 66 (.pick (.t 61) (.c (.bool true)) (.t 65))] (.cond (.t 66) (sR [qO 2 (.mov (.c (.bool false)))] .ret) .skip)) (sR [qM 68 4,qM 69 7,qO 70 (.call 36 [.t 68,.t 69]),qM 67 70,qO 71 (.ext 0 (.t 67)),qO 72 (.ext 1 (.t 67)),qO 73 (.ext 2 (.t 67)),qO 74 (.ext 3 (.t 67)),qM 13 71,qM 14 72,qM 15 73,qM 16 74] (sR [qM 76 4,qM 77 7,qO 78 (.call 37 [.t 76,.t 77]),qM 75 78,qO 79 (.ext 0 (.t 75)),qO 80 (.ext 1 (.t 75)),qO 81 (.ext 2 (.t 75)),qO 82 (.ext 3 (.t 75)),qM 17 79,qM 18 80,qM 19 81,qM 20 82] (.seq (sR [qM 83 16,qM 84 20,qT 85 .neq 83 84,qM 86 85,⟨some 87,.mov (.t 13),(some (86,false))⟩,⟨some 88,.mov (.t 17),(some (86,false))⟩,⟨some 89,.bin .neq (.t 87) (.t 88),(some (86,false))⟩,qO 90 (.pick (.t 86) (.c (.bool true)) (.t 89)),qM 91 90,⟨some 92,.mov (.t 14),(some (91,false))⟩,⟨some 93,.mov (.t 18),(some (91,false))⟩,⟨some 94,.bin .neq (.t 92) (.t 93),(some (91,false))⟩,qO 95 (.pick (.t 91) (.c (.bool true)) (.t 94)),qM 96 95,⟨some 97,.mov (.t 15),(some (96,false))⟩,⟨some 98,.mov (.t 19),(some (96,false))⟩,⟨some 99,.bin .neq (.t 97) (.t 98),(some (96,false))⟩,qO 100 (.pick (.t 96) (.c (.bool true)) (.t 99))] (.cond (.t 100) (sR [qO 2 (.mov (.c (.bool false)))] .ret) .skip)) (sR [qM 102 4,qM 103 8,qO 104 (.call 38 [.t 102,.t 103]),qM 101 104,qO 105 (.ext 0 (.t 101)),qO 106 (.ext 1 (.t 101)),qO 107 (.ext 2 (.t 101)),qM 21 105,qM 22 106,qM 23 107] (sR [qM 109 4,qM 110 8,qO 111 (.call 39 [.t 109,.t 110]),qM 108 111,qO 112 (.ext 0 (.t 108)),qO 113 (.ext 1 (.t 108)),qO 114 (.ext 2 (.t 108)),qM 24 112,qM 25 113,qM 26 114] (.seq (sR [qM 115 23,qM 116 26,qT 117 .neq 115 116,qM 118 117,⟨some 119,.mov (.t 21),(some (118,false))⟩,⟨some 120,.mov (.t 24),(some (118,false))⟩,⟨some 121,.bin .neq (.t 119) (.t 120),(some (118,false))⟩,qO 122 (.pick (.t 118) (.c (.bool true)) (.t 121)),qM 123 122,⟨some 124,.mov (.t 22),(some (123,false))⟩,⟨some 125,.mov (.t 25),(some (123,false))⟩,⟨some 126,.bin .neq (.t 124) (.t 125),(some (123,false))⟩,qO 127 (.pick (.t 123) (.c (.bool true)) (.t 126))] (.cond (.t 127) (sR [qO 2 (.mov (.c (.bool false)))] .ret) .skip)) (sR [qO 129 (.ld 4 true (.t 6)),qO 130 (.call 40 [.t 129]),qM 128 130,qO 131 (.ext 0 (.t 128)),qO 132 (.ext 1 (.t 128)),qM 27 131,qM 28 132] (.seq (sR [qO 133 (.ld 4 true (.t 6)),qO 134 (.call 22 [.t 133]),qM 29 134] (sR [qM 135 29,qB 136 .neq 135 (cI 0)] (.cond (.t 136) (sR [qO 137 (.call 16 []),qM 138 137,⟨some 139,.mov (.t 28),(some (138,true))⟩,⟨some 140,.mov (.t 29),(some (138,true))⟩,⟨some 141,.bin .eql (.t 139) (.t 140),(some (138,true))⟩,qO 142 (.pick (.t 138) (.t 141) (.c (.bool false))),qM 2 142] .ret) .skip))) (sR [qO 143 (.call 16 []),qM 144 143,⟨some 145,.mov (.t 28),(some (144,true))⟩,⟨some 146,.bin .eql (.t 145) (cI 0),(some (144,true))⟩,qO 147 (.pick (.t 144) (.t 146) (.c (.bool false))),qM 148 147,⟨some 149,.mov (.t 27),(some (148,true))⟩,⟨some 150,.ld 4 true (.t 6),(some (148,true))⟩,⟨some 151,.call 41 [.t 150],(some (148,true))⟩,⟨some 152,.call 23 [.t 149,.t 151],(some (148,true))⟩,qO 153 (.pick (.t 148) (.t 152) (.c (.bool false))),qM 2 153] .ret))))))))))))))))
def qel:List IRes:=[.t 2]
theorem qiw:chkF Tryz.prog Tryz.f5 qeE qel 154=true:=by kernel_rfl
def qcU:IC:=(sR [qO 2 (.mov (.c (.str [])))] (sR [qM 3 0,qO 4 (.bsl 1 [.c (.str [105,97]),.c (.str [105,97]),.c (.str [105,98]),.c (.str [105,98]),.c (.str [105,99]),.c (.str [105,100]),.c (.str [122,122]),.c (.str [90])]),qO 5 (.call 45 [.t 3,.t 4]),qM 2 5] .ret))
def qcP:List IRes:=[.t 2]
theorem qgZ:chkF Tryz.prog Tryz.f9 qcU qcP 6=true:=by kernel_rfl
def I8:List (List UInt8):=[[105,97],[105,97],[105,98],[105,98],[105,99],[105,100],[122,122],[90]]
theorem qtJ {E:Envt} (l:List Int) (k:Nat) (hk:k≤1000000) (hl:l.length≤9223372036854775807) :
  qfU Tryz.prog E 9 T (stm l k) [] (fun x cs'=>∃ y,x=.str y∧y.length≤2∧cs'=stm l (k+1)):=by
 unfold qfU
 refine qfP mixed Tryz.func9 qgZ ?_
 simp only [a0,l0,OS.ao,zo,List.map_nil,zj,zr,zp,zq,zx,zd,zi,zm,qcU,qcP,ZZ,WW,Ze,reduceCtorEq,zd,ze,zb,zf,za]
 refine useS (qhU l k I8 (by omega) hl (by decide) (by decide)) rfl rfl rfl zE_ ?_
 rintro x cs' ⟨y,rfl,hy,rfl⟩
 refine zS ?_
 exact qeF (stm l (k+1)) rfl ⟨y,rfl,by simp [I8] at hy;rcases hy with rfl|rfl|rfl|rfl|rfl|rfl|rfl<;>simp,rfl⟩
theorem up8S {f:FuncId} {t:TypeId} {cs args:List PV} {ψ:PV→List PV→Prop} (h:qfU Tryz.prog E2 f t cs args ψ):qfU Tryz.prog E8 f t cs args ψ:=fun w U vs v0 hU hE hEb hA hO=>h w U vs v0 hU hE.2 (fun c hc=>hEb c (.inr hc)) hA hO
theorem qxb (u:List UInt8) (h:u.all digB=true) (hl:u.length≤20):(qlC u:Int)≤1000000000000∨12 < u.length:=by
 have:=qsP u h
 rcases Nat.lt_or_ge 12 u.length with h1|h1
 ·exact .inr h1
 ·left
  have h2:10 ^ u.length≤10 ^ 12:=Nat.pow_le_pow_right (by decide) h1
  omega
theorem qwC (t:List UInt8):-1000000000000≤(qmT t).2.2.1∧(qmT t).2.2.1≤1000000000000:=by
 unfold qmT
 split
 ·exact ⟨by decide,by decide⟩
 rename_i h1
 split
 ·exact ⟨by decide,by decide⟩
 rename_i h2
 split
 ·exact ⟨by decide,by decide⟩
 simp only
 rw [not_or] at h1
 obtain ⟨h3,h4⟩:=h1
 have h5:=qh1 (Classical.not_not.1 h4)
 have h6:(t.drop (Lib.indexAny t figL).toNat).length≤9:=by rw [List.length_drop];omega
 have h7:=qxb (t.drop (Lib.indexAny t figL).toNat) (by simpa using h2) (by omega)
 omega
theorem qxc (l:List Prd) (q:Four):∃ a b c e,fndP l q=.tup [int a,.str b,int c,int e]:=by
 unfold fndP
 split
 ·split
  ·exact ⟨_,_,_,_,rfl⟩
  ·exact ⟨_,_,_,_,rfl⟩
 ·exact ⟨_,_,_,_,rfl⟩
theorem qwz (l:List Prd) (s:List UInt8):∃ a b e,rngP l s=.tup [.str a,.str b,int e]:=by
 unfold rngP
 split
 ·split
  ·split
   ·exact ⟨_,_,_,rfl⟩
   ·exact ⟨_,_,_,rfl⟩
  ·exact ⟨_,_,_,rfl⟩
 ·exact ⟨_,_,_,rfl⟩
theorem quI {p:Prd} (hp:PdB p) (q:Four) (t:List UInt8):(qoF p q t).1.length≤1000001:=by
 unfold qoF
 split
 rotate_left
 ·simp
 rename_i h0
 split
 rotate_left
 ·simp
 split
 rotate_left
 ·simp
 rename_i h1
 obtain ⟨x,hx,k,he,hk⟩:=qmF h0 h1
 have hb:=(hp.all x hx).page
 rw [he]
 simp only [Int.toNat_natCast,List.length_append,zj,zr]
 have:=(hb x.pages[k] (List.getElem_mem hk)).1
 rw [show x.pages.getD k []=x.pages[k] from by simp [List.getD,List.getElem?_eq_getElem hk]]
 omega
theorem qzQ {p:Prd} (hp:PdB p) (h:prdF p=0):(famT p.shs).length≤1000∧∀ r∈famT p.shs,r.length≤1000:=by
 have hl:=hp.shs
 have hG:=qre h
 constructor
 ·unfold famT
  rw [zE]
  exact Nat.le_trans (qjX _ _) hl
 ·intro r hr
  unfold famT at hr
  obtain ⟨g,hg,rfl⟩:=List.mem_map.1 hr
  have:=qjV _ g hg
  rw [show (grpF p.shs).flatten=p.shs from by rw [grpF,qh3 hG _ (Nat.le_refl _),List.take_length]] at this
  rw [idsL,zE]
  omega
set_option maxHeartbeats 8000000 in
set_option maxRecDepth 100000 in
theorem qoD (z:List Int) (hl:z.length≤9223372036854775807):PCall Tryz.prog E8 5 [ints z] (·=.bool true):=by
 refine qag mixed Tryz.func5 qiw ?_
 simp only [a0,l0,OS.ao,zo,List.map_nil,zj,zr,zp,zq,zx,zd,zi,zm,qeE,qel,ZZ,WW,Ze,reduceCtorEq,zd,ze,zb,zf,za]
 simp only [ints,ZZ,WW,Ze,reduceCtorEq,zd,ze,zb,zf,za]
 refine useS (k:=.l 32) (qtI z 0 7 (by omega) hl (by omega)) rfl rfl rfl zE_ ?_
 rintro x cs' ⟨il,k1,rfl,hil,hP,rfl,hk1⟩
 refine zS ?_
 refine qAB (k:=.l 32) (up8T (qlM z k1 il hP (by omega) (by omega) hl)) rfl rfl rfl zE_ ?_
 rintro es ps cs' ⟨o,u,k2,rfl,rfl,ho,hoB,hu,hub,rfl,hk2⟩
 refine zS ?_
 refine use1 (qzB o) rfl (.inl rfl) ?_
 have h1B:PdB (oneP o):=by
  unfold oneP
  cases o with
  |nil=>exact qA8
  |cons p r=>exact hoB p (by simp)
 generalize oneP o=p at *
 refine zS ?_
 refine useS (k:=.l 32) (up8S (qps z k2 (by omega) hl)) rfl rfl rfl zE_ ?_
 rintro x cs' ⟨t,k3,rfl,h1,h2,h3,rfl,hk3⟩
 refine zS ?_
 refine useS (k:=.l 32) (qtJ z k3 (by omega) hl) rfl rfl rfl zE_ ?_
 rintro x cs' ⟨s,rfl,hs,rfl⟩
 have hR:PCall Tryz.prog E8 98 [.str t] (·=qk5 (qmT t)):=qpq t (by omega) h2
 have hN:PCall Tryz.prog E8 102 [.str t] (·=qk5 (qmT t)):=by
  have:=up82 (qpt t (by omega))
  rw [qw9,← h1] at this
  exact this
 have hq:=qwC t
 generalize qmT t=q at *
 have hI:∀ n:Int,-1000000≤n→n≤1000000→PCall Tryz.prog E8 100 [int n] (·=.str (Lib.itoa n)):=fun n a b=>up82 (qrY n (by omega) (by omega))
 have c1:=up80 (qs7 p h1B)
 have c2:=up80 (qhx p h1B)
 have c3:=up80 (qr4 o (by omega) hoB)
 have c4:=up80 (qg1 o (by omega) hoB)
 have s1:=qxP p h1B t (by omega) q hq c1 hR hI
 have s2:=qvW p h1B t (by omega) q hq c2 hN hI
 have s3:=qwJ o (by omega) hoB t q hq c3 hR
 have s4:=qno o (by omega) hoB t q hq c4 hN
 have s5:=quK o (by omega) hoB s (by omega) c3 (fun p d n a b c e f=>up82 (qnD p d n a b c e f))
 have s6:=qrj o (by omega) hoB s (by omega) c4 (fun p d n a b=>up82 (qkD p d n a b))
 have s7:=qqU (E:=E8) p.no p.pre p.dig p.shs (by have:=h1B.shs;omega) (fun h=>qre h) c1
 have s8:=fun h=>qnC (E:=E8) p.no p.pre p.dig p.shs (by have:=h1B.shs;omega) (qre h)
 have hT:=qzQ h1B
 have hpl:=quI h1B q t
 obtain ⟨n1,n2,n3,n4,hn⟩:=qxc o q
 obtain ⟨r1,r2,r3,hr⟩:=qwz o s
 rw [hn] at s3 s4
 rw [hr] at s5 s6
 have s9:=fun h=>qqN (E:=E8) (famT p.shs) (by have:=(hT h).1;omega) (fun r hr=>by have:=(hT h).2 r hr;omega)
 generalize qoF p q t=pg at *
 obtain ⟨no,pre,dig,shs⟩:=p
 simp only [pdV] at s1 s2 s7 s8 s9 c2 hpl ⊢
 generalize prdF ⟨no,pre,dig,shs⟩=F at *
 refine zS ?_
 refine use1 s1 rfl (.inl rfl) ?_
 refine zS ?_
 refine use1 s2 rfl (.inl rfl) ?_
 simp only [ZZ,WW,Ze,reduceCtorEq,zd,ze,zb,zf,za,eq_self,decide_true]
 refine useG (fun _=>qqV pg.1 pg.1 (by omega)) rfl (.inl rfl) ?_
 simp only [ZZ,WW,Ze,reduceCtorEq,zd,ze,zb,zf,za,eq_self,decide_true]
 refine use1 s3 rfl (.inl rfl) ?_
 refine zS ?_
 refine use1 s4 rfl (.inl rfl) ?_
 simp only [ZZ,WW,Ze,reduceCtorEq,zd,ze,zb,zf,za,eq_self,decide_true]
 refine use1 s5 rfl (.inl rfl) ?_
 refine zS ?_
 refine use1 s6 rfl (.inl rfl) ?_
 simp only [ZZ,WW,Ze,reduceCtorEq,zd,ze,zb,zf,za,eq_self,decide_true]
 refine use1 s7 rfl (.inl rfl) ?_
 refine zS ?_
 refine use1 c2 rfl (.inl rfl) ?_
 refine zS ?_
 refine br ?_ ?_
 ·intro h
  refine zS ?_
  refine use1 (up82 qmX) rfl (.inl rfl) ?_
  simp only [ZZ,WW,Ze,reduceCtorEq,zd,ze,zb,zf,za,eq_self,decide_true]
  try rfl
 intro h
 have h:F=0:=by simpa using h
 rw [if_pos h]
 refine zS ?_
 refine use1 (up82 qmX) rfl (.inl rfl) ?_
 simp only [ZZ,WW,Ze,reduceCtorEq,zd,ze,zb,zf,za,h,eq_self,decide_true]
 refine useG (fun _=>s8 h) rfl (.inl rfl) ?_
 refine zS ?_
 refine useG (fun _=>s9 h) rfl (.inl rfl) ?_
 refine zS ?_
 try first|trivial|rfl
theorem qmY (a0:Option Addr) (len0 cap0:Nat) (z0:List Int) (w:World) (h0:qxS .i64 w a0 len0 cap0 z0) (he:E8.ok w∧∀ b,E8.bl b→b < w.heap.size) :
  Calls Tryz.prog 5 #[.slice a0 len0 cap0] w fun e w'=>e=.returned (.bool true)∧Below w.heap.size w w':=
 qyp qoD a0 len0 cap0 z0 w h0 he.1 he.2
end Go.Proofs.YtmpdnpljdcincaaGreatDoor
