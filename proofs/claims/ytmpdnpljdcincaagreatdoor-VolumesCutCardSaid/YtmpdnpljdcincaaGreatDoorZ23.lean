import Derived.Test.YtmpdnpljdcincaaGreatDoorZ22
set_option linter.unusedVariables false
set_option linter.unusedSimpArgs false
set_option linter.defProp false
namespace Go.Proofs.YtmpdnpljdcincaaGreatDoor
open Nat renaming reduceAdd→zd,reduceEqDiff→za,reduceLT→zf,reduceLeDiff→zb,reduceMul→ze
open Go.RowKit
section
variable {E:Envt}
end
section
variable {E:Envt}
end
def idsL (g:List Sht):List (List UInt8):=g.map (·.id)
section
variable {E:Envt}
theorem qrK (g:List Sht) (hg:g.length≤1000000):PCall Tryz.prog E 57 [.sl 7 (shE g)] (·=.sl 1 (strE (idsL g))):=by
 refine qag mixed Tryz.func57 qjn ?_
 refine zV ?_
 simp only [ZZ,WW,Zd,reduceCtorEq,zd,ze,zb,zf,za,qae]
 refine qac (fun n fr L=>∃ (k:Nat),k≤g.length∧n=g.length - k∧fr=(oo::oo::oo::.row (.l 3)::oo::oo::.p (.sl 7 (shE g))::.p (int (g.length:Nat))::.p (int (k:Nat))::oD (oB []))∧L=[(.l 3,.row (strE (idsL (g.take k))) tStr 1 true)]) (g.length) _ _ (by simp only [ZZ,WW,Zd,reduceCtorEq,zd,ze,zb,zf,za,qae];try trivial) zF_ ⟨0,by omega,by omega,rfl,rfl⟩ ?_
 rintro n fr L ⟨k,hk,rfl,rfl,rfl⟩
 simp only [qdZ,ZZ,WW,Zd,reduceCtorEq,zd,ze,zb,zf,za]
 refine br ?_ ?_
 ·intro h
  have hlt:k < g.length:=by have:=of_decide_eq_true h;omega
  obtain ⟨x,hx⟩:∃ x,g[k]?=some x:=⟨_,List.getElem?_eq_getElem hlt⟩
  have hgx:=qa0 hx
  simp only [shV] at hgx
  have hl:(idsL (g.take k)).length=k:=by rw [idsL,List.length_map,List.length_take];omega
  have hnx:strE (idsL (g.take k))++[[PV.str x.id]]=strE (idsL (g.take (k+1))):=by
   rw [List.take_succ_eq_append_getElem hlt,(List.getElem?_eq_some_iff.1 hx).2]
   simp [strE,idsL]
  simp only [ZZ,WW,Zd,reduceCtorEq,zd,ze,zb,zf,za,hgx,qae,qaf,hl]
  ((with_reducible and_intros)<;>try exact sc_)
  rw [hnx]
  refine qab (g.length - (k+1)) _ _ (by omega) zF_ zF_ ⟨k+1,by omega,rfl,rfl,rfl⟩
 intro h
 have hge:g.length≤k:=by have:=of_decide_eq_false h;omega
 rw [List.take_of_length_le hge]
 refine zS ?_
 try first|trivial|rfl
def oneP (l:List Prd):Prd:=l.getD 0 pd0
theorem qzf (l:List Prd):PCall Tryz.prog E 8 [.sl 4 (pdE l)] (·=.agg (pdV (oneP l))):=by
 refine qag mixed Tryz.func8 qkz ?_
 refine zV ?_
 cases l with
 |nil=>
  simp only [ZZ,WW,Zd,reduceCtorEq,zd,ze,zb,zf,za,qaE,show decide (((0:Nat):Int)=0)=true from rfl]
  try rfl
 |cons p r=>
  have h0:decide ((((r.length+1:Nat)):Int)=0)=false:=by rw [decide_eq_false_iff_not];omega
  have hg:(pdE (p :: r)).getD 0 []=[int p.no,.str p.pre,int p.dig,.sl 7 (shE p.shs)]:=rfl
  simp only [ZZ,WW,Zd,reduceCtorEq,zd,ze,zb,zf,za,qaE,h0,hg]
  ((with_reducible and_intros)<;>try exact sc_)
  try rfl
end
end Go.Proofs.YtmpdnpljdcincaaGreatDoor
