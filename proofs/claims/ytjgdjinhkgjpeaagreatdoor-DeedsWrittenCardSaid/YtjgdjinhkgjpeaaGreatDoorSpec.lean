namespace Go.Proofs.YtjgdjinhkgjpeaaGreatDoor.Sp
abbrev Bs:=List UInt8
def qzi (c:UInt8):Bool:=48≤c && c≤57
def qzh (c:UInt8):Bool:=(97≤c && c≤122) || (65≤c && c≤90) || qzi c || 128≤c
def low (c:UInt8):UInt8:=if 65≤c && c≤90 then c+32 else c
def lowS (l:Bs):Bs:=l.map low
def wsp (i:Nat) (f:Option Nat):Bs→List (Nat×Nat)
 |[]=>match f with
  |none=>[]
  |some a=>[(a,i)]
 |c :: r=>if qzh c then wsp (i+1) (some (f.getD i)) r else
  match f with
  |none=>wsp (i+1) none r
  |some a=>(a,i) :: wsp (i+1) none r
def qyn (t:Bs):List (Nat×Nat):=wsp 0 none t
def part (t:Bs) (p:Nat×Nat):Bs:=(t.take p.2).drop p.1
def words (t:Bs):List Bs:=(qyn t).map fun p=>lowS (part t p)
end Go.Proofs.YtjgdjinhkgjpeaaGreatDoor.Sp
