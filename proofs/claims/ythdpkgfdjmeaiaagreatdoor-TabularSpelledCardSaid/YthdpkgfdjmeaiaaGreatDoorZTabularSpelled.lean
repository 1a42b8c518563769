/- PROVED: for any bytes and any edit TabularSpelled returns true. Condition: the listed variables (the library's tables, the parser's levels, the table of check) are laid as their text lays them (the card ties them). -/
import Derived.Test.YthdpkgfdjmeaiaaGreatDoorCards
import Derived.Test.YthdpkgfdjmeaiaaGreatDoorTie
import Derived.Test.YthdpkgfdjmeaiaaGreatDoorZTabularSpelledl
set_option linter.defProp false
set_option linter.unusedSimpArgs false
set_option linter.unusedVariables false
set_option maxRecDepth 100000
namespace Go.Proofs.YthdpkgfdjmeaiaaGreatDoor
open Go Go.ChangeShapes Go.WideShapes Go.ChangeAt Go.RowKit Go.A
set_option maxHeartbeats 1000000 in
theorem TabularSpelled_lifted (os:Os) (started:os.Started) (H:Type) (enc:TypeId×Value->H) :
  ReturnsInHanded {} Tryz.checked os 5 .any (fun w args=>(Rows.tabularSpelledSpec.pre enc Tryz.prog Tryz.f5 [] false w args/\laidMetH Tryz.prog laidL w)/\sizedMet enc Tryz.prog Tryz.f5 (OpenSpec.ofChange Rows.tabularSpelledSpec) false w args)
   (Rows.tabularSpelledSpec.post enc Tryz.prog Tryz.f5 false true false false):=by
 refine A.returnsInHanded_and_shaped (C:=Tryz.checked) (X:=fun w _=>laidMetH Tryz.prog laidL w) (fun _ _ _ hh h=>h.of_heap hh) row_own started (by kernel_rfl) Tryz.func5
  (ChangeSpec.witness_shaped (enc:=enc) (C:=Tryz.checked) (os:=os) (X:=fun w _=>laidMetH Tryz.prog laidL w) false (World.laidAll Tryz.prog os laidL) #[.string ⟨#[]⟩,.agg #[.bool false,.int .i64 0,.int .i64 0,.int .i64 0,.int .i64 0]] 8 (World.laidAll_os _ _ _)
   (World.shaped_of_ZipB (by kernel_rfl) (by kernel_rfl)) (by kernel_rfl) (by kernel_rfl) (by kernel_rfl)
   (by rw [MakeChecks.laidMetH_plain _ _ _ (by kernel_rfl)];exact laidMet_laidAll _ (by kernel_rfl) (by kernel_rfl))) ?_
 intro W base args ds gs before hval0 hW hsh hL
 obtain ⟨m,hqs⟩:=l_sim hsh hL
 have hval:∀ (j:Nat) t v,Tryz.f5.params[j]? = some t->args[j]? = some v->Value.okWide Tryz.prog W .any base t v:=hval0
 have hW':=hW
 obtain ⟨p,q,hA0,hV,rfl,hfz,hnd⟩:=hW
 have hA:DataW.TrodAll enc Tryz.prog W 0 (fun _=>true) true Tryz.f5.params.toList args.toList ds p:=hA0
 obtain ⟨rfl,rfl⟩:=trodVars_none hV
 clear hA0 hval0
 simp only [List.append_nil] at hW'
 have hlt:∀ x∈p,x.block<W.heap.size:=fun x hx=>by simpa using hW'.lt x hx
 obtain ⟨avs,hr,hok⟩:=open_args (P:=Tryz.prog) (τs := [.str,.pair .bool (.pair (.int .i64) (.pair (.int .i64) (.pair (.int .i64) (.pair (.int .i64) .unit))))]) (by kernel_rfl) hA fun j t v hj hj'=>hval j t v (by simpa using hj) (by simpa using hj')
 have hlen:ds.length=2:=(trod_len hA).trans (by kernel_rfl)
 obtain ⟨d0,d1,rfl⟩:∃ d0 d1,ds = [d0,d1]:=by
  match ds,hlen with
  | [d0,d1],_=>exact ⟨d0,d1,rfl⟩
 obtain ⟨args⟩:=args
 obtain ⟨_,_,rfl,⟨s,rfl,_⟩,_,_,rfl,⟨_,_,rfl,⟨p1,rfl⟩,_,_,rfl,⟨x1,rfl,_⟩,_,_,rfl,⟨x2,rfl,_⟩,_,_,rfl,⟨x3,rfl,_⟩,_,_,rfl,⟨x4,rfl,_⟩,rfl⟩,rfl⟩:=hok
 have hr':Reps (lSt m) W [.str s,.agg [.bool p1,.int .i64 x1,.int .i64 x2,.int .i64 x3,.int .i64 x4]] args:=by
  exact Reps.fixed (fun _ _=>lSt_fix) hr
 refine (calls_l (TabularSpelled_any (lSt_ck m) (lSt_tab m) (lSt_max m) (lSt_u8 m) (lSt_lv m) s p1 x1 x2 x3 x4) hqs hr').mono fun e W' ⟨he,hw⟩=>?_
 subst he
 refine ⟨_,rfl,_,_,_,[],p,[],hW',?_,?_,rfl,hw.below.frame _,fun h=>by cases h⟩
 ·exact trodAll_mk1 (shut_bool (show Tryz.prog.underlying 4=_ by kernel_rfl) _)
 ·exact below_all row_laid (by kernel_rfl) hA hw.below hlt
theorem TabularSpelled_row:Rows.TabularSpelledSaid:=
 OpenClaim.holds_of_wide 5 Tryz.f5 rfl rfl rfl rfl rfl rfl rfl ⟨rfl,rfl,rfl,rfl,rfl⟩ rfl rfl rfl rfl rfl (by kernel_rfl) Tryz.func5 (by kernel_rfl)
  (of_decide_eq_true (by kernel_rfl)) (by unfold Func.isWrapper;first|(rw [if_pos (by decide +kernel)];kernel_rfl)|(rw [if_neg (by decide +kernel)];exact ⟨rfl,rfl⟩))
  (fun os started H enc _=>TabularSpelled_lifted os started H enc)
theorem TabularSpelled_holds:Rows.TabularSpelledCardSaid:=
 Claim7.holds_tied_plain_at .later [] [.data, .data, .data, .data, .data, .widerDeep, .pinned] true (true, "b42ff1345d696a3a262df1f452c5733488812661acb2c63201de6b53adbcef7a") false
  TabularSpelled_row (fun _ h=>by cases h) (by kernel_rfl) (fun _ h=>by cases h) tabularSpelled_row_tie rfl ⟨rfl,rfl⟩ (by kernel_rfl) rfl
  (fun f fn hf hfn=>by
   obtain rfl : f = 5 := (Option.some.inj ((show Tryz.prog.funcNamed "tabular/tabulartop.TabularSpelled" = some 5 by kernel_rfl).symm.trans hf)).symm
   obtain rfl:fn=Tryz.f5:=(Option.some.inj (Tryz.func5.symm.trans hfn)).symm
   exact ⟨by kernel_rfl,fun j t ht=>by
    have hm:t∈Tryz.f5.params.toList:=by simpa using Array.mem_of_getElem? ht
    have hall:(Tryz.f5.params.toList.all fun u => !Tryz.prog.wantsStandIn u)=true:=by kernel_rfl
    exact (show Tryz.prog.wantsStandIn t=false by simpa using List.all_eq_true.1 hall t hm)⟩)
  (by kernel_rfl)
#print axioms TabularSpelled_holds
end Go.Proofs.YthdpkgfdjmeaiaaGreatDoor
