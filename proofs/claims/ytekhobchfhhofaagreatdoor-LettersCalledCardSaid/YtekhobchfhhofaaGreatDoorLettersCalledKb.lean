import Derived.Test.YtekhobchfhhofaaGreatDoorLettersCalledKa
namespace Go.Proofs.YtekhobchfhhofaaGreatDoor.lettersCalledDone
open Go.ChangeShapes Go.WideShapes Go.ChangeAt Go.RowKit Go.Lib
open Go.ChangeMaps (open_string shut_string)
set_option linter.unusedVariables false
set_option linter.unusedSimpArgs false
set_option linter.defProp false
set_option maxRecDepth 100000 in
set_option maxHeartbeats 2000000 in
theorem qAa (os:Os) (started:os.Started) (H:Type) (enc:TypeId×Value→H) (F:Stop.Interp) :
  ReturnsInHanded {} Tryz.checked os 3 .any ((OpenSpec.ofChange Rows.lettersCalledSpec).preRow enc Tryz.prog Tryz.f3 Rows.lettersCalledRow.domain false Rows.lettersCalledRow.laid) (((OpenSpec.ofChange Rows.lettersCalledSpec).at F).post enc Tryz.prog Tryz.f3 false true false false):=by
 refine returnsInHanded_of_row (C:=Tryz.checked) (s:=(OpenSpec.ofChange Rows.lettersCalledSpec)) own started (by kernel_rfl) Tryz.func3
  (witness_row_atRef (enc:=enc) (C:=Tryz.checked) false (qjl os) #[.slice none 0 0] rfl (by kernel_rfl) (by kernel_rfl) (by kernel_rfl) (qql os enc)) ?_
 intro W base args ds gs before hval0 hW _ hcond _ hL hshape _
 have hval:∀ (j:Nat) t v,Tryz.f3.params[j]?=some t→args[j]?=some v→Value.okWide Tryz.prog W .any base t v:=hval0
 have hW':=hW
 obtain ⟨p,q,hA0,hV,rfl,hfz,hnd⟩:=hW
 have hA:DataW.TrodAll enc Tryz.prog W 0 (fun _=>true) true Tryz.f3.params.toList args.toList ds p:=hA0
 rw [Tryz.params3] at hA hval
 obtain ⟨v0,vs0,d0,ds0,p0,q0,hargs,rfl,rfl,h0,r0⟩:=trodAll_cons hA
 obtain ⟨rfl,rfl,rfl⟩:=trodAll_nil r0
 obtain rfl:args=#[v0]:=by cases args;simp_all
 obtain ⟨rfl,rfl⟩:=trodVars_none hV
 obtain ⟨a0,len0,cap0,rfl⟩:=okWide_slice Tryz.underlying22 (hval 0 22 v0 rfl rfl)
 have k0:=h0
 have lt0:∀ x∈p0,x.block < W.heap.size:=by obtain ⟨m,hm⟩:=k0;exact DataW.trod_lt m _ _ _ hm
 obtain ⟨z0,w0⟩:∃ zs,qwT .i64 W a0 len0 cap0 zs:=by
  obtain ⟨fuel,hf⟩:=h0
  rcases open_ints Tryz.underlying22 Tryz.underlying3 (by kernel_rfl) hf with ⟨hcs,_⟩|⟨x,l,c,zs,hcs,_,hl,hm,hz,_,hcell,hwz⟩
  ·simp [Value.cells] at hcs
   obtain ⟨rfl,rfl,rfl⟩:=hcs
   exact ⟨[],.inl ⟨rfl,rfl,rfl,rfl⟩⟩
  ·simp [Value.cells] at hcs
   obtain ⟨rfl,rfl,rfl⟩:=hcs
   exact ⟨zs,.inr ⟨_,rfl,hl,hm,by simpa using hz,hcell,hwz⟩⟩
 clear hA0 hval0
 have hsp:Lib.TabIs Tryz.prog W "strings.asciiSpace" .u8 Lib.asciiSpaceTab:=by
  have h3:laidMet Tryz.prog (("strings.asciiSpace",(Lib.tabData .u8 Lib.asciiSpaceTab:DataW Unit)) :: [("unicode/utf8.first",Rows.laid_unicode_utf8_first)]) W:=by
   rw [← qAF];exact laidMet.tail (laidMet.tail hL)
  exact Lib.tabIs_of_head (g:=3) (t:=204) (e:=5) (n:=256) (by kernel_rfl) (by kernel_rfl) (by kernel_rfl) (by kernel_rfl) (by kernel_rfl) (by kernel_rfl) h3
 have hfirst:VarReads Tryz.prog W "unicode/utf8.first" Lib.firstData:=by rw [← qrQ];exact Lib.laidMet.reads hL (.tail _ (.tail _ (.tail _ (.head _))))
 have hacc:VarReads Tryz.prog W "unicode/utf8.acceptRanges" Lib.acceptData:=by rw [← quJ];exact Lib.laidMet.reads hL (.head _)
 have htab:Lib.Utf8Tabs 0 1 W:=
  utf8Tabs_of_readsT (U8Types.of196 Tryz.layValid) ⟨by kernel_rfl,by kernel_rfl,by kernel_rfl,by kernel_rfl,by kernel_rfl,by kernel_rfl,by kernel_rfl⟩ hfirst hacc
 obtain ⟨mx,hmx⟩:∃ m:Int,W.cell? ⟨2,0,none⟩=some (.int .i64 m):=Go.Proofs.cell_of_shapedOpen_int (zero:=#[.int .i64 0]) (t:=3) hshape (of_decide_eq_true (by kernel_rfl)) (by kernel_rfl) rfl (by kernel_rfl) (by kernel_rfl) Tryz.underlying3
 have hlt:∀ {a:Addr} {v:Value},W.cell? a=some v→a.block < W.heap.size:=fun h=>World.block_lt_of_cell? W _ h
 have henv:E6.ok W∧∀ b,E6.bl b→b < W.heap.size:=⟨⟨⟨htab,mx,hmx⟩,hsp⟩,fun b hb=>by
  rcases hb with (rfl|rfl|rfl)|rfl
  ·exact hlt (htab.1 0 (by decide))
  ·exact hlt (htab.2 0 (by decide)).1
  ·exact hlt hmx
  ·exact hlt (Lib.TabIs.cell hsp (by kernel_rfl) 0 (by decide))⟩
 refine (qjk a0 len0 cap0 z0 W w0 henv).mono fun e W' ⟨he,bel⟩=>?_
 subst he
 exact ⟨_,rfl,_,_,_,[],_,[],hW',trodAll_mk1 (shut_bool Tryz.underlying4 _),(trodAll_cons_mk (Below.trod qyv (by kernel_rfl) (of_decide_eq_true (by kernel_rfl)) k0 bel lt0) trodAll_mk0),rfl,bel.frame _,fun h=>by cases h⟩
end Go.Proofs.YtekhobchfhhofaaGreatDoor.lettersCalledDone
