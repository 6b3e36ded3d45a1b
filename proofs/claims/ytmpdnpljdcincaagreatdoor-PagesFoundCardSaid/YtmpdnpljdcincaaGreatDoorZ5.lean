import Derived.Test.YtmpdnpljdcincaaGreatDoorZ1
import Derived.Test.YtmpdnpljdcincaaGreatDoorZ4
set_option linter.unusedVariables false
set_option linter.unusedSimpArgs false
set_option linter.defProp false
namespace Go.Proofs.YtmpdnpljdcincaaGreatDoor
section
variable {α:Type} [DecidableEq α]
def ixO (a:α):List α→Nat
 |[]=>0
 |b :: r=>if a=b then 0 else ixO a r+1
def lc:List α→List α→Nat
 |[],_=>0
 |_ :: _,[]=>0
 |a :: az,b :: bs=>if a=b then lc az bs+1 else max (lc az (b :: bs)) (lc (a :: az) bs)
termination_by x y=>x.length+y.length
def kp (i j:Nat):List α→List α→List (Nat×Nat)
 |[],_=>[]
 |a :: az,bs=>
  if lc (a :: az) bs=0 then [] else
  if ixO a bs < bs.length∧lc az (bs.drop (ixO a bs+1))+1=lc (a :: az) bs then (i,j+ixO a bs) :: kp (i+1) (j+ixO a bs+1) az (bs.drop (ixO a bs+1))
  else kp (i+1) j az bs
def fk (a:α) (az bs:List α) (m:Nat):List α→Nat→Option Nat
 |[],_=>none
 |b :: r,k=>if a=b∧lc az (bs.drop (k+1))+1=m then some k else fk a az bs m r (k+1)
end
theorem qxe {α:Type}:∀ {es:List (List α)},(∀ x∈es,x.length=1)→∀ j:Nat,es.flatten[j]?=(es[j]?).bind fun x=>x[0]?
 |[],_,j=>by simp
 |x :: r,h,j=>by
  obtain ⟨a,rfl⟩:∃ a,x=[a]:=by
   have h1:=h x (by simp)
   match x,h1 with
   |[a],_=>exact ⟨a,rfl⟩
  cases j with
  |zero=>rfl
  |succ j=>
   rw [List.flatten_cons,List.getElem?_append_right (by simp)]
   simpa using qxe (fun y hy=>h y (by simp [hy])) j
section
variable {E:Envt} {fr:List AV} {L:Objs}
theorem qjU {k:Key} {es:List (List AV)} {e0:Nat} (i d e z zn:Nat) (hk:k≠.l d) (hl:Zas L k=some (.rowv es e0 1)) (ho:es[i]?=some [.p (.nl zn)]) :
  ReOk E fr L (fr.map (·.kill (.l d))) (Zat (Zav L (.l d) (.row [] e z true)) k (.rowv ((es.map (·.map (·.kill (.l d)))).set i [.row (.l d)]) e0 1)):=fun B w ι a hs=>by
 have h1:StF E B w (Zav L (.l d) (.row [] e z true)) (updI ι (.l d) (.slice none 0 0)) (fr.map (·.kill (.l d))) a:=
  hs.upd d (.slice none 0 0) (.row [] e z true) (Grow.refl _ _) (fun b hb=>by simp [blk] at hb) ⟨[],by simp only [updI,if_true];exact ⟨by simp,.inl ⟨rfl,rfl⟩⟩,by simp,by simp [PRepL],by simp⟩
 refine ⟨_,h1.retell k (.rowv (es.map (·.map (·.kill (.l d)))) e0 1) _ (by rw [qas,if_neg hk,hl];rfl) fun U h=>?_⟩
 obtain ⟨vs,e1,e2,e3,e4⟩:=h
 have hilt:i < (es.map (·.map (·.kill (.l d)))).length:=by
  rw [List.length_map]
  exact (List.getElem?_eq_some_iff.1 ho).1
 have e3':∀ x∈(es.map (·.map (·.kill (.l d)))).set i [AV.row (.l d)],x.length=1:=fun x hx=>by
  rcases List.mem_or_eq_of_mem_set hx with hx|rfl
  ·exact e3 x hx
  ·rfl
 refine ⟨vs,by simpa using e1,e2,e3',fun j x hx=>?_⟩
 rw [qxe e3'] at hx
 by_cases hj:i=j
 ·subst hj
  rw [List.getElem?_set_self hilt] at hx
  have hx:AV.row (.l d)=x:=by simpa using hx
  subst hx
  obtain ⟨u,hu,hr⟩:=e4 i (.p (.nl zn)) (by rw [qxe e3,List.getElem?_map,ho];rfl)
  have hr:u=.slice none 0 0:=hr
  subst hr
  exact ⟨_,hu,by simp [updI],none,0,0,rfl⟩
 ·rw [List.getElem?_set_ne hj,← qxe e3] at hx
  exact e4 j x hx
end
end Go.Proofs.YtmpdnpljdcincaaGreatDoor
