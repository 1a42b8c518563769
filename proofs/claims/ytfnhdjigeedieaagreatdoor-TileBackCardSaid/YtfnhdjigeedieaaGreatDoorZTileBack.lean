/- PROVED: for any cells TileBack returns true: a tile goes as bytes, in each way, and comes back. Condition: the listed variables (the library's tables, the parser's levels) are laid as their text lays them (the card ties them). -/
import Derived.Test.YtfnhdjigeedieaaGreatDoorCards
import Derived.Test.YtfnhdjigeedieaaGreatDoorTie
import Derived.Test.YtfnhdjigeedieaaGreatDoorZTileBackk
set_option linter.defProp false
set_option linter.unusedSimpArgs false
set_option linter.unusedVariables false
set_option maxRecDepth 100000
namespace Go.Proofs.YtfnhdjigeedieaaGreatDoor
open Go Go.ChangeShapes Go.WideShapes Go.ChangeAt Go.RowKit Go.A
def madeTy:Ty := .pair (.int .i64) (.pair .str (.pair (.pair (.int .i64) (.pair (.int .i64) (.pair .str .unit))) .unit))
theorem mades_of:∀ xs:List (List AV),(∀ x∈xs,madeTy.ok x)->∃ L:List Md,xs.map madeTy.mk=L.map Md.av
 | [],_=>⟨[],rfl⟩
 | x::xs,h=>by
   obtain ⟨L,hL⟩:=mades_of xs fun y hy=>h y (List.mem_cons_of_mem _ hy)
   obtain ⟨_,_,rfl,⟨m1,rfl,_⟩,_,_,rfl,⟨f1,rfl,_⟩,_,_,rfl,⟨_,_,rfl,⟨k1,rfl,_⟩,_,_,rfl,⟨n1,rfl,_⟩,_,_,rfl,⟨s1,rfl,_⟩,rfl⟩,rfl⟩:=h x List.mem_cons_self
   exact ⟨⟨m1,f1,k1,n1,s1⟩::L,by rw [List.map_cons,hL];rfl⟩
theorem TileBack_at {σ:ASt} (hT:Tab σ) (hM:MaxL σ) (hU:U8 σ) (hV:LV σ) (xs:List (List AV)) (hxs:∀ x∈xs,madeTy.ok x) :
  ACalls Tryz.prog 6 [.sl .shr (xs.map madeTy.mk)] σ fun v σ'=>v = .bool true/\σ'=σ:=by
 obtain ⟨L,hL⟩:=mades_of xs hxs
 rw [hL]
 exact TileBack_any hT hM hU hV L
set_option maxHeartbeats 1000000 in
theorem TileBack_lifted (os:Os) (started:os.Started) (H:Type) (enc:TypeId×Value->H) :
  ReturnsInHanded {} Tryz.checked os 6 .any (fun w args=>(Rows.tileBackSpec.pre enc Tryz.prog Tryz.f6 [] false w args/\laidMetH Tryz.prog laidX w)/\sizedMet enc Tryz.prog Tryz.f6 (OpenSpec.ofChange Rows.tileBackSpec) false w args)
   (Rows.tileBackSpec.post enc Tryz.prog Tryz.f6 false true false false):=by
 refine A.returnsInHanded_and_shaped (C:=Tryz.checked) (X:=fun w _=>laidMetH Tryz.prog laidX w) (fun _ _ _ hh h=>h.of_heap hh) row_own started (by kernel_rfl) Tryz.func6
  (ChangeSpec.witness_shaped (enc:=enc) (C:=Tryz.checked) (os:=os) (X:=fun w _=>laidMetH Tryz.prog laidX w) false (World.laidAll Tryz.prog os laidX) #[.slice none 0 0] 8 (World.laidAll_os _ _ _)
   (World.shaped_of_ZipB (by kernel_rfl) (by kernel_rfl)) (by kernel_rfl) (by kernel_rfl) (by kernel_rfl)
   (by rw [MakeChecks.laidMetH_plain _ _ _ (by kernel_rfl)];exact laidMet_laidAll _ (by kernel_rfl) (by kernel_rfl))) ?_
 intro W base args ds gs before hval0 hW hsh hL
 obtain ⟨m,hqs⟩:=x_sim hsh hL
 have hval:∀ (j:Nat) t v,Tryz.f6.params[j]? = some t->args[j]? = some v->Value.okWide Tryz.prog W .any base t v:=hval0
 have hW':=hW
 obtain ⟨p,q,hA0,hV,rfl,hfz,hnd⟩:=hW
 have hA:DataW.TrodAll enc Tryz.prog W 0 (fun _=>true) true Tryz.f6.params.toList args.toList ds p:=hA0
 obtain ⟨rfl,rfl⟩:=trodVars_none hV
 clear hA0 hval0
 simp only [List.append_nil] at hW'
 have hlt:∀ x∈p,x.block<W.heap.size:=fun x hx=>by simpa using hW'.lt x hx
 obtain ⟨avs,hr,hok⟩:=open_args (P:=Tryz.prog) (τs := [.sl madeTy]) (by kernel_rfl) hA fun j t v hj hj'=>hval j t v (by simpa using hj) (by simpa using hj')
 have hlen:ds.length=1:=(trod_len hA).trans (by kernel_rfl)
 obtain ⟨d0,rfl⟩:∃ d0,ds = [d0]:=by
  match ds,hlen with
  | [d0],_=>exact ⟨d0,rfl⟩
 obtain ⟨args⟩:=args
 obtain ⟨_,_,rfl,⟨xs,rfl,_,hxs⟩,rfl⟩:=hok
 have hr':Reps (xSt m) W [.sl .shr (xs.map madeTy.mk)] args:=by
  exact Reps.fixed (fun _ _=>xSt_fix) hr
 refine (calls_x (TileBack_at (xSt_tab m) (xSt_max m) (xSt_u8 m) (xSt_lv m) xs hxs) hqs hr').mono fun e W' ⟨he,hw⟩=>?_
 subst he
 refine ⟨_,rfl,_,_,_,[],p,[],hW',?_,?_,rfl,hw.below.frame _,fun h=>by cases h⟩
 ·exact trodAll_mk1 (shut_bool (show Tryz.prog.underlying 4=_ by kernel_rfl) _)
 ·exact below_all row_laid (by kernel_rfl) hA hw.below hlt
theorem TileBack_row:Rows.TileBackSaid:=
 OpenClaim.holds_of_wide 6 Tryz.f6 rfl rfl rfl rfl rfl rfl rfl ⟨rfl,rfl,rfl,rfl,rfl⟩ rfl rfl rfl rfl rfl (by kernel_rfl) Tryz.func6 (by kernel_rfl)
  (of_decide_eq_true (by kernel_rfl)) (by unfold Func.isWrapper;first|(rw [if_pos (by decide +kernel)];kernel_rfl)|(rw [if_neg (by decide +kernel)];exact ⟨rfl,rfl⟩))
  (fun os started H enc _=>TileBack_lifted os started H enc)
theorem TileBack_holds:Rows.TileBackCardSaid:=
 Claim7.holds_tied_plain_at .later [] [.data, .data, .data, .data, .widerDeep, .pinned] true (true, "5b7ed3058ad430cec207d1a659ca2f8ae62dfc09f65b05a58cc547eea5483671") true
  TileBack_row (fun _ h=>by cases h) (by kernel_rfl) (fun _ h=>by cases h) tileBack_row_tie rfl ⟨rfl,rfl⟩ (by kernel_rfl) rfl
  (fun f fn hf hfn=>by
   obtain rfl : f = 6 := (Option.some.inj ((show Tryz.prog.funcNamed "tabular/tabularlaw20.TileBack" = some 6 by kernel_rfl).symm.trans hf)).symm
   obtain rfl:fn=Tryz.f6:=(Option.some.inj (Tryz.func6.symm.trans hfn)).symm
   exact ⟨by kernel_rfl,fun j t ht=>by
    have hm:t∈Tryz.f6.params.toList:=by simpa using Array.mem_of_getElem? ht
    have hall:(Tryz.f6.params.toList.all fun u => !Tryz.prog.wantsStandIn u)=true:=by kernel_rfl
    exact (show Tryz.prog.wantsStandIn t=false by simpa using List.all_eq_true.1 hall t hm)⟩)
  (by kernel_rfl)
#print axioms TileBack_holds
end Go.Proofs.YtfnhdjigeedieaaGreatDoor
