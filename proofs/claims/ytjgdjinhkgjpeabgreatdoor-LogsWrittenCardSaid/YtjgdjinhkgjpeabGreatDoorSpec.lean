namespace Go.Proofs.YtjgdjinhkgjpeabGreatDoor.Sp
open List renaming drop_eq_nil_of_le→zX
abbrev Bs:=List UInt8
def qzm (c:UInt8):Bool:=48≤c && c≤57
def isLet (c:UInt8):Bool:=(97≤c && c≤122) || (65≤c && c≤90) || qzm c || 128≤c
def low (c:UInt8):UInt8:=if 65≤c && c≤90 then c+32 else c
def lowS (l:Bs):Bs:=l.map low
def wsp (i:Nat) (f:Option Nat):Bs→List (Nat×Nat)
 |[]=>match f with
  |none=>[]
  |some a=>[(a,i)]
 |c :: r=>if isLet c then wsp (i+1) (some (f.getD i)) r else
  match f with
  |none=>wsp (i+1) none r
  |some a=>(a,i) :: wsp (i+1) none r
def spans (t:Bs):List (Nat×Nat):=wsp 0 none t
def part (t:Bs) (p:Nat×Nat):Bs:=(t.take p.2).drop p.1
def words (t:Bs):List Bs:=(spans t).map fun p=>lowS (part t p)
theorem qoF (t:Bs) (k:Nat) (h:k < t.length):t.drop k=t[k] :: t.drop (k+1):=by
 rw [List.drop_eq_getElem_cons h]
theorem wsp_let (t:Bs) (k:Nat) (f:Option Nat) (h:k < t.length) (c:UInt8) (hc:t[k]=c) (hl:isLet c=true):wsp k f (t.drop k)=wsp (k+1) (some (f.getD k)) (t.drop (k+1)):=by
 rw [qoF t k h,hc];simp [wsp,hl]
theorem wsp_non (t:Bs) (k:Nat) (h:k < t.length) (c:UInt8) (hc:t[k]=c) (hl:isLet c=false):wsp k none (t.drop k)=wsp (k+1) none (t.drop (k+1)):=by
 rw [qoF t k h,hc];simp [wsp,hl]
theorem wsp_end (t:Bs) (k a:Nat) (h:k < t.length) (c:UInt8) (hc:t[k]=c) (hl:isLet c=false):wsp k (some a) (t.drop k)=(a,k) :: wsp (k+1) none (t.drop (k+1)):=by
 rw [qoF t k h,hc];simp [wsp,hl]
theorem wsp_out (t:Bs) (k:Nat) (h:t.length≤k):wsp k none (t.drop k)=[]:=by
 rw [zX h];rfl
theorem wsp_fin (t:Bs) (k a:Nat) (h:t.length≤k):wsp k (some a) (t.drop k)=(a,k) :: wsp (k+1) none (t.drop (k+1)):=by
 rw [zX h,zX (by omega)];rfl
theorem part_len (t:Bs) (a b:Nat):(part t (a,b)).length≤t.length:=by
 simp [part];omega
theorem quT (t:Bs):∀ (i:Nat) (f:Option Nat),(wsp i f t).length≤t.length+1:=by
 induction t with
 |nil=>intro i f;cases f<;>simp [wsp]
 |cons c r ih=>
  intro i f
  unfold wsp
  split
  ·have:=ih (i+1) (some (f.getD i));simp;omega
  ·cases f with
   |none=>have:=ih (i+1) none;simp;omega
   |some a=>have:=ih (i+1) none;simp;omega
theorem spans_len (t:Bs):(spans t).length≤t.length+1:=quT t 0 none
end Go.Proofs.YtjgdjinhkgjpeabGreatDoor.Sp
