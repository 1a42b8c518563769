/- PROVED: for any list of moves TabularNames returns true. Condition: the listed variable (the table of check) is laid as its text lays it (the card ties it). -/
import Derived.Test.YtppjmbcjifnmgaaGreatDoorCards
import Derived.Test.YtppjmbcjifnmgaaGreatDoorTie
import Derived.Test.YtppjmbcjifnmgaaGreatDoorZTabularNamesk
set_option linter.defProp false
set_option linter.unusedSimpArgs false
set_option linter.unusedVariables false
set_option maxRecDepth 100000
namespace Go.Proofs.YtppjmbcjifnmgaaGreatDoor
open Go Go.ChangeShapes Go.WideShapes Go.ChangeAt Go.RowKit Go.A
theorem ints_of:∀ xs:List (List AV),(∀ x∈xs,(Ty.int .i64).ok x)->∃ L:List Int,xs.map (Ty.int .i64).mk=L.map (AV.int .i64)
 | [],_=>⟨[],rfl⟩
 | x::xs,h=>by
   obtain ⟨L,hL⟩:=ints_of xs fun y hy=>h y (List.mem_cons_of_mem _ hy)
   obtain ⟨s,rfl,_⟩:=h x List.mem_cons_self
   exact ⟨s::L,by rw [List.map_cons,hL];rfl⟩
theorem TabularNames_at {σ:ASt} (hT:CkT σ) (xs:List (List AV)) (hxs:∀ x∈xs,(Ty.int .i64).ok x) :
  ACalls Tryz.prog 3 [.sl .shr (xs.map (Ty.int .i64).mk)] σ fun v σ'=>v = .bool true/\σ'=σ:=by
 obtain ⟨L,hL⟩:=ints_of xs hxs
 rw [hL]
 exact TabularNames_any hT L
set_option maxHeartbeats 1000000 in
theorem TabularNames_lifted (os:Os) (started:os.Started) (H:Type) (enc:TypeId×Value->H) :
  ReturnsInHanded {} Tryz.checked os 3 .any (fun w args=>(Rows.tabularNamesSpec.pre enc Tryz.prog Tryz.f3 [] false w args/\laidMetH Tryz.prog laidC w)/\sizedMet enc Tryz.prog Tryz.f3 (OpenSpec.ofChange Rows.tabularNamesSpec) false w args)
   (Rows.tabularNamesSpec.post enc Tryz.prog Tryz.f3 false true false false):=by
 refine returnsInHanded_of_change_and (C:=Tryz.checked) (X:=fun w _=>laidMetH Tryz.prog laidC w) (fun _ _ _ hh h=>h.of_heap hh) row_own started (by kernel_rfl) Tryz.func3
  (ChangeSpec.witness_shaped (enc:=enc) (C:=Tryz.checked) (os:=os) (X:=fun w _=>laidMetH Tryz.prog laidC w) false (World.laidAll Tryz.prog os laidC) #[.slice none 0 0] 8 (World.laidAll_os _ _ _)
   (World.shaped_of_ZipB (by kernel_rfl) (by kernel_rfl)) (by kernel_rfl) (by kernel_rfl) (by kernel_rfl)
   (by rw [MakeChecks.laidMetH_plain _ _ _ (by kernel_rfl)];exact laidMet_laidAll _ (by kernel_rfl) (by kernel_rfl))) ?_
 intro W base args ds gs before hval0 hW _ _ hL _
 have hval:∀ (j:Nat) t v,Tryz.f3.params[j]? = some t->args[j]? = some v->Value.okWide Tryz.prog W .any base t v:=hval0
 have hW':=hW
 obtain ⟨p,q,hA0,hV,rfl,hfz,hnd⟩:=hW
 have hA:DataW.TrodAll enc Tryz.prog W 0 (fun _=>true) true Tryz.f3.params.toList args.toList ds p:=hA0
 obtain ⟨rfl,rfl⟩:=trodVars_none hV
 clear hA0 hval0
 simp only [List.append_nil] at hW'
 have hlt:∀ x∈p,x.block<W.heap.size:=fun x hx=>by simpa using hW'.lt x hx
 obtain ⟨avs,hr,hok⟩:=open_args (P:=Tryz.prog) (τs := [.sl (.int .i64)]) (by kernel_rfl) hA fun j t v hj hj'=>hval j t v (by simpa using hj) (by simpa using hj')
 have hlen:ds.length=1:=(trod_len hA).trans (by kernel_rfl)
 obtain ⟨d0,rfl⟩:∃ d0,ds = [d0]:=by
  match ds,hlen with
  | [d0],_=>exact ⟨d0,rfl⟩
 obtain ⟨args⟩:=args
 obtain ⟨_,_,rfl,⟨xs,rfl,_,hxs⟩,rfl⟩:=hok
 have hr':Reps cSt W [.sl .shr (xs.map (Ty.int .i64).mk)] args:=by
  exact Reps.fixed (fun _ _=>stOf_fix) hr
 refine (calls_c (TabularNames_at cSt_ck xs hxs) (c_sim hL) hr').mono fun e W' ⟨he,hw⟩=>?_
 subst he
 refine ⟨_,rfl,_,_,_,[],p,[],hW',?_,?_,rfl,hw.below.frame _,fun h=>by cases h⟩
 ·exact trodAll_mk1 (shut_bool (show Tryz.prog.underlying 4=_ by kernel_rfl) _)
 ·exact below_all row_laid (by kernel_rfl) hA hw.below hlt
theorem TabularNames_row:Rows.TabularNamesSaid:=
 OpenClaim.holds_of_wide 3 Tryz.f3 rfl rfl rfl rfl rfl rfl rfl ⟨rfl,rfl,rfl,rfl,rfl⟩ rfl rfl rfl rfl rfl (by kernel_rfl) Tryz.func3 (by kernel_rfl)
  (of_decide_eq_true (by kernel_rfl)) (by unfold Func.isWrapper;first|(rw [if_pos (by decide +kernel)];kernel_rfl)|(rw [if_neg (by decide +kernel)];exact ⟨rfl,rfl⟩))
  (fun os started H enc _=>TabularNames_lifted os started H enc)
theorem TabularNames_holds:Rows.TabularNamesCardSaid:=
 Claim7.holds_tied_plain_at .later [] [.data] true (true, "d59b67e56a2cff6e022316230585baa32ac98aff000ba8e0ebebaee306cc01e9") false
  TabularNames_row (fun _ h=>by cases h) (by kernel_rfl) (fun _ h=>by cases h) tabularNames_row_tie rfl ⟨rfl,rfl⟩ (by kernel_rfl) rfl
  (fun f fn hf hfn=>by
   obtain rfl : f = 3 := (Option.some.inj ((show Tryz.prog.funcNamed "tabular/tabulartop.TabularNames" = some 3 by kernel_rfl).symm.trans hf)).symm
   obtain rfl:fn=Tryz.f3:=(Option.some.inj (Tryz.func3.symm.trans hfn)).symm
   exact ⟨by kernel_rfl,fun j t ht=>by
    have hm:t∈Tryz.f3.params.toList:=by simpa using Array.mem_of_getElem? ht
    have hall:(Tryz.f3.params.toList.all fun u => !Tryz.prog.wantsStandIn u)=true:=by kernel_rfl
    exact (show Tryz.prog.wantsStandIn t=false by simpa using List.all_eq_true.1 hall t hm)⟩)
  (by kernel_rfl)
#print axioms TabularNames_holds
end Go.Proofs.YtppjmbcjifnmgaaGreatDoor
