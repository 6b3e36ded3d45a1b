import Derived.Test.YtinffddgojhdfaaGreatDoorDeedMerges
import Derived.Test.YtinffddgojhdfaaGreatDoorCards
import Derived.Test.YtinffddgojhdfaaGreatDoorTie
import Derived.WalkKit
import Derived.ProofKit
import Derived.OpenShut
import Derived.ShutString
import Derived.ChangeOld
import Derived.Below
import Derived.Deep.DeepHandedRow
import Derived.Deep.DeepWitnessRowRef
import Derived.Lib.LaidTab
import Derived.Lib.LaidIn
import Derived.Lib.LaidU8T
import Derived.PinnedBridge
import Derived.Deep.DeepLaidRun
import Derived.Stop.LaidErr
import Derived.Shelf.Vars
namespace Go.Proofs.YtinffddgojhdfaaGreatDoor.deedMergesDone
open Go.ChangeShapes Go.WideShapes Go.ChangeAt Go.RowKit Go.Lib
open Go.ChangeMaps (open_string shut_string)
set_option linter.unusedVariables false
set_option linter.unusedSimpArgs false
set_option linter.defProp false
theorem own:ownKnob Tryz.prog.godebug=none:=by kernel_rfl
theorem qtA:laidOutB Tryz.prog=true:=by kernel_rfl
theorem qqk:Rows.laid_unicode_utf8_acceptRanges=(Lib.acceptData:DataW Unit):=by kernel_rfl
theorem qn8:Rows.laid_unicode_utf8_first=(Lib.firstData:DataW Unit):=Pinned.utf8First_eq
theorem qu0:Rows.laid_internal_strconv_uint64pow10=(Lib.tabData .u64 Lib.pow10Tab:DataW Unit):=by kernel_rfl
theorem qvr:Rows.laid_math_bits_deBruijn64tab=(Lib.tabData .u8 (Lib.deBruijn64tab.map fun n:Nat=>(n:Int)):DataW Unit):=by kernel_rfl
theorem qru (l:List Nat) (j:Nat):(l.map fun n:Nat=>(n:Int)).getD j 0=((l.getD j 0:Nat):Int):=by
 simp only [List.getD,List.getElem?_map]
 cases l[j]?<;>rfl
def qnf:DataW Unit→List Value
 |.agg l=>l.filterMap fun
  |.lit (.int k n)=>some (.int k n)
  |_=>none
 |_=>[]
noncomputable def qhm (os:Os):World:=
 let w0:=World.holding Tryz.prog os ⟨#[],#[],[]⟩
 let put (h:Array Obj) (g:Nat) (cs:Array Value):Array Obj:=h.modify g fun
  |.cells _ t frozen=>.cells cs t frozen
  |o=>o
 let h1:=put w0.heap 1 (Lib.firstTab.map fun z=>Value.int .u8 z).toArray
 let h2:=put h1 2 ((List.range 16).flatMap fun i=>[Value.int .u8 (Lib.accLo i),Value.int .u8 (Lib.accHi i)]).toArray
 let h3:=put h2 4 (qnf Rows.laid_math_bits_deBruijn32tab).toArray
 let h4:=put h3 5 (qnf Rows.laid_math_bits_deBruijn64tab).toArray
 let h5:=put h4 3 (qnf Rows.laid_internal_strconv_uint64pow10).toArray
 { w0 with heap:=h5 }
theorem qrj (os:Os) (args:Array Value):laidMet Tryz.prog Rows.deedMergesRow.laid ((qhm os).forCall (fun _ _=>0) ⟨#[],args,[]⟩).memory:=
 laidMet_of_run3 (l:=[("math/bits.deBruijn32tab",Rows.laid_math_bits_deBruijn32tab),("math/bits.deBruijn64tab",Rows.laid_math_bits_deBruijn64tab),("internal/strconv.uint64pow10",Rows.laid_internal_strconv_uint64pow10),("unicode/utf8.acceptRanges",Rows.laid_unicode_utf8_acceptRanges),("unicode/utf8.first",Rows.laid_unicode_utf8_first)]) 8 (by kernel_rfl) (by kernel_rfl) (by kernel_rfl)
theorem qmD (os:Os) {H:Type} (enc:TypeId×Value→H) :
  (OpenSpec.ofChange Rows.deedMergesSpec).preRow enc Tryz.prog Tryz.f5 Rows.deedMergesRow.domain false Rows.deedMergesRow.laid ((qhm os).forCall (fun _ _=>0) ⟨#[],#[.slice none 0 0],[]⟩).memory #[.slice none 0 0]:=by
 have hw:(DataW.whole enc Tryz.prog ((qhm os).forCall (fun _ _=>0) ⟨#[],#[.slice none 0 0],[]⟩).memory Tryz.f5.params.toList (OpenSpec.ofChange Rows.deedMergesSpec).vars false (#[.slice none 0 0]:Array Value).toList 8).map (fun x=>(x.1,x.2.1)) =
   some ([.nil],[]):=by kernel_rfl
 obtain ⟨⟨x1,x2,x3⟩,hx,hx1⟩:=Option.map_eq_some_iff.1 hw
 simp only [Prod.mk.injEq] at hx1
 obtain ⟨rfl,rfl⟩:=hx1
 exact OpenSpec.preRow_of_cond 8 hx (by kernel_rfl) (fun k hk=>by cases hk) (by kernel_rfl) (qrj os _)
end Go.Proofs.YtinffddgojhdfaaGreatDoor.deedMergesDone
