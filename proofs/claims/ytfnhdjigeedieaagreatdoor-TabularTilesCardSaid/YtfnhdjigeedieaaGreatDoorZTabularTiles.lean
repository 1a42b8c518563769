/- PROVED: for any texts and any layout TabularTiles returns true. Condition: the listed variables (the library's tables, the parser's levels, the table of check) are laid as their text lays them (the card ties them). -/
import Derived.Test.YtfnhdjigeedieaaGreatDoorCards
import Derived.Test.YtfnhdjigeedieaaGreatDoorTie
import Derived.Test.YtfnhdjigeedieaaGreatDoorZTabularTilesl
set_option linter.defProp false
set_option linter.unusedSimpArgs false
set_option linter.unusedVariables false
set_option maxRecDepth 100000
namespace Go.Proofs.YtfnhdjigeedieaaGreatDoor
open Go Go.ChangeShapes Go.WideShapes Go.ChangeAt Go.RowKit Go.A
theorem texts_of:∀ xs:List (List AV),(∀ x∈xs,Ty.str.ok x)->∃ L:List (List UInt8),xs.map Ty.str.mk=L.map AV.str
 | [],_=>⟨[],rfl⟩
 | x::xs,h=>by
   obtain ⟨L,hL⟩:=texts_of xs fun y hy=>h y (List.mem_cons_of_mem _ hy)
   obtain ⟨s,rfl,_⟩:=h x List.mem_cons_self
   exact ⟨s::L,by rw [List.map_cons,hL];rfl⟩
theorem TabularTiles_at {σ:ASt} (hC:CkT σ) (hT:Tab σ) (hM:MaxL σ) (hU:U8 σ) (hV:LV σ) (xs:List (List AV)) (hxs:∀ x∈xs,Ty.str.ok x) (k:Int) :
  ACalls Tryz.prog 7 [.sl .shr (xs.map Ty.str.mk),.int .i64 k] σ fun v σ'=>v = .bool true/\σ'=σ:=by
 obtain ⟨L,hL⟩:=texts_of xs hxs
 rw [hL]
 exact TabularTiles_any hC hT hM hU hV L k
set_option maxHeartbeats 1000000 in
theorem TabularTiles_lifted (os:Os) (started:os.Started) (H:Type) (enc:TypeId×Value->H) :
  ReturnsInHanded {} Tryz.checked os 7 .any (fun w args=>(Rows.tabularTilesSpec.pre enc Tryz.prog Tryz.f7 [] false w args/\laidMetH Tryz.prog laidL w)/\sizedMet enc Tryz.prog Tryz.f7 (OpenSpec.ofChange Rows.tabularTilesSpec) false w args)
   (Rows.tabularTilesSpec.post enc Tryz.prog Tryz.f7 false true false false):=by
 refine A.returnsInHanded_and_shaped (C:=Tryz.checked) (X:=fun w _=>laidMetH Tryz.prog laidL w) (fun _ _ _ hh h=>h.of_heap hh) row_own started (by kernel_rfl) Tryz.func7
  (ChangeSpec.witness_shaped (enc:=enc) (C:=Tryz.checked) (os:=os) (X:=fun w _=>laidMetH Tryz.prog laidL w) false (World.laidAll Tryz.prog os laidL) #[.slice none 0 0,.int .i64 0] 8 (World.laidAll_os _ _ _)
   (World.shaped_of_ZipB (by kernel_rfl) (by kernel_rfl)) (by kernel_rfl) (by kernel_rfl) (by kernel_rfl)
   (by rw [MakeChecks.laidMetH_plain _ _ _ (by kernel_rfl)];exact laidMet_laidAll _ (by kernel_rfl) (by kernel_rfl))) ?_
 intro W base args ds gs before hval0 hW hsh hL
 obtain ⟨m,hqs⟩:=l_sim hsh hL
 have hval:∀ (j:Nat) t v,Tryz.f7.params[j]? = some t->args[j]? = some v->Value.okWide Tryz.prog W .any base t v:=hval0
 have hW':=hW
 obtain ⟨p,q,hA0,hV,rfl,hfz,hnd⟩:=hW
 have hA:DataW.TrodAll enc Tryz.prog W 0 (fun _=>true) true Tryz.f7.params.toList args.toList ds p:=hA0
 obtain ⟨rfl,rfl⟩:=trodVars_none hV
 clear hA0 hval0
 simp only [List.append_nil] at hW'
 have hlt:∀ x∈p,x.block<W.heap.size:=fun x hx=>by simpa using hW'.lt x hx
 obtain ⟨avs,hr,hok⟩:=open_args (P:=Tryz.prog) (τs := [.sl .str,.int .i64]) (by kernel_rfl) hA fun j t v hj hj'=>hval j t v (by simpa using hj) (by simpa using hj')
 have hlen:ds.length=2:=(trod_len hA).trans (by kernel_rfl)
 obtain ⟨d0,d1,rfl⟩:∃ d0 d1,ds = [d0,d1]:=by
  match ds,hlen with
  | [d0,d1],_=>exact ⟨d0,d1,rfl⟩
 obtain ⟨args⟩:=args
 obtain ⟨_,_,rfl,⟨xs,rfl,_,hxs⟩,_,_,rfl,⟨a,rfl,_⟩,rfl⟩:=hok
 have hr':Reps (lSt m) W [.sl .shr (xs.map Ty.str.mk),.int .i64 a] args:=by
  exact Reps.fixed (fun _ _=>lSt_fix) hr
 refine (calls_l (TabularTiles_at (lSt_ck m) (lSt_tab m) (lSt_max m) (lSt_u8 m) (lSt_lv m) xs hxs a) hqs hr').mono fun e W' ⟨he,hw⟩=>?_
 subst he
 refine ⟨_,rfl,_,_,_,[],p,[],hW',?_,?_,rfl,hw.below.frame _,fun h=>by cases h⟩
 ·exact trodAll_mk1 (shut_bool (show Tryz.prog.underlying 4=_ by kernel_rfl) _)
 ·exact below_all row_laid (by kernel_rfl) hA hw.below hlt
theorem TabularTiles_row:Rows.TabularTilesSaid:=
 OpenClaim.holds_of_wide 7 Tryz.f7 rfl rfl rfl rfl rfl rfl rfl ⟨rfl,rfl,rfl,rfl,rfl⟩ rfl rfl rfl rfl rfl (by kernel_rfl) Tryz.func7 (by kernel_rfl)
  (of_decide_eq_true (by kernel_rfl)) (by unfold Func.isWrapper;first|(rw [if_pos (by decide +kernel)];kernel_rfl)|(rw [if_neg (by decide +kernel)];exact ⟨rfl,rfl⟩))
  (fun os started H enc _=>TabularTiles_lifted os started H enc)
theorem TabularTiles_holds:Rows.TabularTilesCardSaid:=
 Claim7.holds_tied_plain_at .later [] [.data, .data, .data, .data, .data, .widerDeep, .pinned] true (true, "5b7ed3058ad430cec207d1a659ca2f8ae62dfc09f65b05a58cc547eea5483671") true
  TabularTiles_row (fun _ h=>by cases h) (by kernel_rfl) (fun _ h=>by cases h) tabularTiles_row_tie rfl ⟨rfl,rfl⟩ (by kernel_rfl) rfl
  (fun f fn hf hfn=>by
   obtain rfl : f = 7 := (Option.some.inj ((show Tryz.prog.funcNamed "tabular/tabulartop.TabularTiles" = some 7 by kernel_rfl).symm.trans hf)).symm
   obtain rfl:fn=Tryz.f7:=(Option.some.inj (Tryz.func7.symm.trans hfn)).symm
   exact ⟨by kernel_rfl,fun j t ht=>by
    have hm:t∈Tryz.f7.params.toList:=by simpa using Array.mem_of_getElem? ht
    have hall:(Tryz.f7.params.toList.all fun u => !Tryz.prog.wantsStandIn u)=true:=by kernel_rfl
    exact (show Tryz.prog.wantsStandIn t=false by simpa using List.all_eq_true.1 hall t hm)⟩)
  (by kernel_rfl)
#print axioms TabularTiles_holds
end Go.Proofs.YtfnhdjigeedieaaGreatDoor
