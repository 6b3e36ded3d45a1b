import Derived.Test.YtjgdjinhkgjpeabGreatDoorLogsWrittenKa
namespace Go.Proofs.YtjgdjinhkgjpeabGreatDoor.logsWrittenDone
open Go.ChangeShapes Go.WideShapes Go.ChangeAt Go.RowKit Go.Lib
open Go.ChangeMaps (open_string shut_string)
set_option linter.unusedVariables false
set_option linter.unusedSimpArgs false
set_option linter.defProp false
set_option maxRecDepth 100000 in
set_option maxHeartbeats 2000000 in
theorem qxS (os:Os) (started:os.Started) (H:Type) (enc:TypeId×Value→H) (F:Stop.Interp) :
  ReturnsInHanded {} Tryz.checked os 3 .any ((OpenSpec.ofChange Rows.logsWrittenSpec).preRow enc Tryz.prog Tryz.f3 Rows.logsWrittenRow.domain false Rows.logsWrittenRow.laid) (((OpenSpec.ofChange Rows.logsWrittenSpec).at F).post enc Tryz.prog Tryz.f3 false true false false):=by
 refine returnsInHanded_of_row (C:=Tryz.checked) (s:=(OpenSpec.ofChange Rows.logsWrittenSpec)) own started (by kernel_rfl) Tryz.func3
  (witness_row_atRef (enc:=enc) (C:=Tryz.checked) false (qhP os) #[.slice none 0 0] rfl (by kernel_rfl) (by kernel_rfl) (by kernel_rfl) (qnQ os enc)) ?_
 intro W base args ds gs before hval0 hW _ hcond _ hL hshape _
 have hval:∀ (j:Nat) t v,Tryz.f3.params[j]?=some t→args[j]?=some v→Value.okWide Tryz.prog W .any base t v:=hval0
 have hW':=hW
 obtain ⟨p,q,hA0,hV,rfl,hfz,hnd⟩:=hW
 have hA:DataW.TrodAll enc Tryz.prog W 0 (fun _=>true) true Tryz.f3.params.toList args.toList ds p:=hA0
 rw [Tryz.params3] at hA hval
 obtain ⟨v0,vs0,d0,ds0,p0,q0,hargs,rfl,rfl,h0,r0⟩:=trodAll_cons hA
 obtain ⟨rfl,rfl,rfl⟩:=trodAll_nil r0
 obtain rfl:args=#[v0]:=by cases args;simp_all
 obtain ⟨rfl,rfl⟩:=trodVars_none hV
 obtain ⟨a0,len0,cap0,rfl⟩:=okWide_slice Tryz.underlying22 (hval 0 22 v0 rfl rfl)
 have k0:=h0
 have lt0:∀ x∈p0,x.block < W.heap.size:=by obtain ⟨m,hm⟩:=k0;exact DataW.trod_lt m _ _ _ hm
 obtain ⟨z0,w0⟩:∃ zs,qut .i64 W a0 len0 cap0 zs:=by
  obtain ⟨fuel,hf⟩:=h0
  rcases open_ints Tryz.underlying22 Tryz.underlying3 (by kernel_rfl) hf with ⟨hcs,_⟩|⟨x,l,c,zs,hcs,_,hl,hm,hz,_,hcell,hwz⟩
  ·simp [Value.cells] at hcs
   obtain ⟨rfl,rfl,rfl⟩:=hcs
   exact ⟨[],.inl ⟨rfl,rfl,rfl,rfl⟩⟩
  ·simp [Value.cells] at hcs
   obtain ⟨rfl,rfl,rfl⟩:=hcs
   exact ⟨zs,.inr ⟨_,rfl,hl,hm,by simpa using hz,hcell,hwz⟩⟩
 clear hA0 hval0
 have hpow:Lib.TabIs Tryz.prog W "internal/strconv.uint64pow10" .u64 Lib.pow10Tab:=by
  have h3:laidMet Tryz.prog (("internal/strconv.uint64pow10",(Lib.tabData .u64 Lib.pow10Tab:DataW Unit)) :: [("unicode/utf8.acceptRanges",Rows.laid_unicode_utf8_acceptRanges),("strconv.ErrRange",Rows.laid_strconv_ErrRange),("strconv.ErrSyntax",Rows.laid_strconv_ErrSyntax),("unicode.White_Space",Rows.laid_unicode_White_Space),("strings.asciiSpace",Rows.laid_strings_asciiSpace),("unicode/utf8.first",Rows.laid_unicode_utf8_first)]) W:=by
   rw [← qxz];exact laidMet.tail (laidMet.tail hL)
  exact Lib.tabIs_of_head (g:=5) (t:=232) (e:=153) (n:=20) (by kernel_rfl) (by kernel_rfl) (by kernel_rfl) (by kernel_rfl) (by kernel_rfl) (by kernel_rfl) h3
 have hsp:Lib.TabIs Tryz.prog W "strings.asciiSpace" .u8 Lib.asciiSpaceTab:=by
  have h3:laidMet Tryz.prog (("strings.asciiSpace",(Lib.tabData .u8 Lib.asciiSpaceTab:DataW Unit)) :: [("unicode/utf8.first",Rows.laid_unicode_utf8_first)]) W:=by
   rw [← qyv];exact laidMet.tail (laidMet.tail (laidMet.tail (laidMet.tail (laidMet.tail (laidMet.tail (laidMet.tail hL))))))
  exact Lib.tabIs_of_head (g:=1) (t:=188) (e:=5) (n:=256) (by kernel_rfl) (by kernel_rfl) (by kernel_rfl) (by kernel_rfl) (by kernel_rfl) (by kernel_rfl) h3
 have star : "*" ++ "errors.errorString" = "*errors.errorString" := by decide
 obtain ⟨ea,es,hev,_⟩:=laid_sentinel (g:=6) (ti:=74) (tp:=257) (te:=259) (ts:=9) (laidMet.tail (laidMet.tail (laidMet.tail (laidMet.tail (laidMet.tail hL))))) (by kernel_rfl) (by kernel_rfl) Tryz.underlying74
  (fun u hu=>typeName_ptr_named (nm:="errors.errorString") (by rw [star];kernel_rfl) (by kernel_rfl) (by decide) u (by rw [star];exact hu)) Tryz.underlying257 Tryz.underlying259 rfl rfl Tryz.underlying9 (by kernel_rfl) (by kernel_rfl)
 have hcell:=World.var?_cell (P:=Tryz.prog) (g:=6) (by kernel_rfl) hev 0
 obtain ⟨ra,rs,hrv,_⟩:=laid_sentinel (g:=7) (ti:=74) (tp:=257) (te:=259) (ts:=9) (laidMet.tail (laidMet.tail (laidMet.tail (laidMet.tail hL)))) (by kernel_rfl) (by kernel_rfl) Tryz.underlying74
  (fun u hu=>typeName_ptr_named (nm:="errors.errorString") (by rw [star];kernel_rfl) (by kernel_rfl) (by decide) u (by rw [star];exact hu)) Tryz.underlying257 Tryz.underlying259 rfl rfl Tryz.underlying9 (by kernel_rfl) (by kernel_rfl)
 have hcellr:=World.var?_cell (P:=Tryz.prog) (g:=7) (by kernel_rfl) hrv 0
 have hfirst:VarReads Tryz.prog W "unicode/utf8.first" Lib.firstData:=by rw [← qpu];exact Lib.laidMet.reads hL (.tail _ (.tail _ (.tail _ (.tail _ (.tail _ (.tail _ (.tail _ (.tail _ (.head _)))))))))
 have hacc:VarReads Tryz.prog W "unicode/utf8.acceptRanges" Lib.acceptData:=by rw [← qsn];exact Lib.laidMet.reads hL (.tail _ (.tail _ (.tail _ (.head _))))
 have htab:Lib.Utf8Tabs 2 3 W:=
  utf8Tabs_of_readsT (U8Types.of196 Tryz.layValid) ⟨by kernel_rfl,by kernel_rfl,by kernel_rfl,by kernel_rfl,by kernel_rfl,by kernel_rfl,by kernel_rfl⟩ hfirst hacc
 obtain ⟨mx,hmx⟩:∃ m:Int,W.cell? ⟨0,0,none⟩=some (.int .i64 m):=Go.Proofs.cell_of_shapedOpen_int (zero:=#[.int .i64 0]) (t:=3) hshape (of_decide_eq_true (by kernel_rfl)) (by kernel_rfl) rfl (by kernel_rfl) (by kernel_rfl) Tryz.underlying3
 have hlt:∀ {a:Addr} {v:Value},W.cell? a=some v→a.block < W.heap.size:=fun h=>World.block_lt_of_cell? W _ h
 have henv:E5.ok W∧∀ b,E5.bl b→b < W.heap.size:=⟨⟨⟨htab,mx,hmx⟩,hpow,⟨_,_,hev⟩,⟨_,_,hrv⟩,hsp⟩,fun b hb=>by
  rcases hb with (rfl|rfl|rfl)|rfl|rfl|rfl|rfl
  ·exact hlt (htab.1 0 (by decide))
  ·exact hlt (htab.2 0 (by decide)).1
  ·exact hlt hmx
  ·exact hlt (Lib.TabIs.cell hpow (by kernel_rfl) 0 (by decide))
  ·exact hlt hcell
  ·exact hlt hcellr
  ·exact hlt (Lib.TabIs.cell hsp (by kernel_rfl) 0 (by decide))⟩
 refine (qiZ a0 len0 cap0 z0 W w0 henv).mono fun e W' ⟨he,bel⟩=>?_
 subst he
 exact ⟨_,rfl,_,_,_,[],_,[],hW',trodAll_mk1 (shut_bool Tryz.underlying4 _),(trodAll_cons_mk (Below.trod qv9 (by kernel_rfl) (of_decide_eq_true (by kernel_rfl)) k0 bel lt0) trodAll_mk0),rfl,bel.frame _,fun h=>by cases h⟩
end Go.Proofs.YtjgdjinhkgjpeabGreatDoor.logsWrittenDone
