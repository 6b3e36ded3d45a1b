import Derived.Test.YtjgdjinhkgjpeaaGreatDoorDeedsWritten
import Derived.Test.YtjgdjinhkgjpeaaGreatDoorCards
import Derived.Test.YtjgdjinhkgjpeaaGreatDoorTie
import Derived.WalkKit
import Derived.ProofKit
import Derived.OpenShut
import Derived.ShutString
import Derived.ChangeOld
import Derived.Below
import Derived.Deep.DeepHandedRow
import Derived.Deep.DeepWitnessRowRef
import Derived.Lib.LaidTab
import Derived.Lib.LaidIn
import Derived.Lib.LaidU8T
import Derived.PinnedBridge
import Derived.Deep.DeepLaidRun
import Derived.Stop.LaidErr
import Derived.Shelf.Vars
namespace Go.Proofs.YtjgdjinhkgjpeaaGreatDoor.deedsWrittenDone
open Go.ChangeShapes Go.WideShapes Go.ChangeAt Go.RowKit Go.Lib
open Go.ChangeMaps (open_string shut_string)
set_option linter.unusedVariables false
set_option linter.unusedSimpArgs false
set_option linter.defProp false
theorem own:ownKnob Tryz.prog.godebug=none:=by kernel_rfl
theorem qvN:laidOutB Tryz.prog=true:=by kernel_rfl
theorem qsr:Rows.laid_unicode_utf8_acceptRanges=(Lib.acceptData:DataW Unit):=by kernel_rfl
theorem qpT:Rows.laid_unicode_utf8_first=(Lib.firstData:DataW Unit):=Pinned.utf8First_eq
theorem qxg:Rows.laid_internal_strconv_uint64pow10=(Lib.tabData .u64 Lib.pow10Tab:DataW Unit):=by kernel_rfl
theorem qyo:Rows.laid_strings_asciiSpace=(Lib.tabData .u8 Lib.asciiSpaceTab:DataW Unit):=by kernel_rfl
theorem qxH:Rows.laid_math_bits_deBruijn64tab=(Lib.tabData .u8 (Lib.deBruijn64tab.map fun n:Nat=>(n:Int)):DataW Unit):=by kernel_rfl
theorem qtu (l:List Nat) (j:Nat):(l.map fun n:Nat=>(n:Int)).getD j 0=((l.getD j 0:Nat):Int):=by
 simp only [List.getD,List.getElem?_map]
 cases l[j]?<;>rfl
def qml:DataW Unit→List Value
 |.agg l=>l.filterMap fun
  |.lit (.int k n)=>some (.int k n)
  |_=>none
 |_=>[]
noncomputable def qis (os:Os):World:=
 let w0:=World.holding Tryz.prog os ⟨#[],#[],[]⟩
 let put (h:Array Obj) (g:Nat) (cs:Array Value):Array Obj:=h.modify g fun
  |.cells _ t frozen=>.cells cs t frozen
  |o=>o
 let h1:=put w0.heap 4 (Lib.firstTab.map fun z=>Value.int .u8 z).toArray
 let h2:=put h1 5 ((List.range 16).flatMap fun i=>[Value.int .u8 (Lib.accLo i),Value.int .u8 (Lib.accHi i)]).toArray
 let h3:=put h2 8 (qml Rows.laid_math_bits_deBruijn32tab).toArray
 let h4:=put h3 9 (qml Rows.laid_math_bits_deBruijn64tab).toArray
 let h5:=put h4 3 (qml Rows.laid_internal_strconv_uint64pow10).toArray
 let h6:=(h5.push (.cells #[.string ⟨#[105,110,118,97,108,105,100,32,115,121,110,116,97,120]⟩] 232)).push (.cells #[.string ⟨#[118,97,108,117,101,32,111,117,116,32,111,102,32,114,97,110,103,101]⟩] 232)
 let h7:=put h6 6 #[.iface 230 (.pointer (some ⟨h5.size,0,none⟩))]
 let h8:=put h7 7 #[.iface 230 (.pointer (some ⟨h5.size+1,0,none⟩))]
 let h9:=(h8.push (.cells (([9,13,1,32,133,101,160,5760,5600,8192,8202,1,8232,8233,1,8239,8287,48,12288,12288,1]:List Int).map fun z=>Value.int .u16 z).toArray 202)).push (.cells #[.slice (some ⟨h8.size,0,none⟩) 7 7,.slice none 0 0,.int .i64 2] 199)
 let h10:=put h9 1 #[.pointer (some ⟨h8.size+1,0,none⟩)]
 let h11:=put h10 0 (qml Rows.laid_strings_asciiSpace).toArray
 { w0 with heap:=h11 }
theorem qth (os:Os) (args:Array Value):laidMet Tryz.prog Rows.deedsWrittenRow.laid ((qis os).forCall (fun _ _=>0) ⟨#[],args,[]⟩).memory:=
 laidMet_of_run3 (l:=[("math/bits.deBruijn32tab",Rows.laid_math_bits_deBruijn32tab),("math/bits.deBruijn64tab",Rows.laid_math_bits_deBruijn64tab),("internal/strconv.uint64pow10",Rows.laid_internal_strconv_uint64pow10),("unicode/utf8.acceptRanges",Rows.laid_unicode_utf8_acceptRanges),("strconv.ErrRange",Rows.laid_strconv_ErrRange),("strconv.ErrSyntax",Rows.laid_strconv_ErrSyntax),("unicode.White_Space",Rows.laid_unicode_White_Space),("strings.asciiSpace",Rows.laid_strings_asciiSpace),("unicode/utf8.first",Rows.laid_unicode_utf8_first)]) 8 (by kernel_rfl) (by kernel_rfl) (by kernel_rfl)
theorem qoe (os:Os) {H:Type} (enc:TypeId×Value→H) :
  (OpenSpec.ofChange Rows.deedsWrittenSpec).preRow enc Tryz.prog Tryz.f3 Rows.deedsWrittenRow.domain false Rows.deedsWrittenRow.laid ((qis os).forCall (fun _ _=>0) ⟨#[],#[.slice none 0 0],[]⟩).memory #[.slice none 0 0]:=by
 have hw:(DataW.whole enc Tryz.prog ((qis os).forCall (fun _ _=>0) ⟨#[],#[.slice none 0 0],[]⟩).memory Tryz.f3.params.toList (OpenSpec.ofChange Rows.deedsWrittenSpec).vars false (#[.slice none 0 0]:Array Value).toList 8).map (fun x=>(x.1,x.2.1)) =
   some ([.nil],[]):=by kernel_rfl
 obtain ⟨⟨x1,x2,x3⟩,hx,hx1⟩:=Option.map_eq_some_iff.1 hw
 simp only [Prod.mk.injEq] at hx1
 obtain ⟨rfl,rfl⟩:=hx1
 exact OpenSpec.preRow_of_cond 8 hx (by kernel_rfl) (fun k hk=>by cases hk) (by kernel_rfl) (qth os _)
end Go.Proofs.YtjgdjinhkgjpeaaGreatDoor.deedsWrittenDone
