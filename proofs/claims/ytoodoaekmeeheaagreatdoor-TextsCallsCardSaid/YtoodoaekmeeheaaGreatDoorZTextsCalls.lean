/- PROVED: for any name and any values TextsCalls returns true: a function of texts comes to what the document says. Condition: the listed variables (the library's tables and the program's own) are laid as their text lays them (the card ties them). -/
import Derived.Test.YtoodoaekmeeheaaGreatDoorCards
import Derived.Test.YtoodoaekmeeheaaGreatDoorTie
import Derived.Test.YtoodoaekmeeheaaGreatDoorZTextsCallsj
set_option linter.defProp false
set_option linter.unusedSimpArgs false
set_option linter.unusedVariables false
set_option maxRecDepth 100000
namespace Go.Proofs.YtoodoaekmeeheaaGreatDoor
open Go Go.ChangeShapes Go.WideShapes Go.ChangeAt Go.RowKit Go.A
def plTy:Ty := .pair (.int .i64) (.pair (.int .i64) (.pair .str .unit))
theorem pls_of:∀ {xs:List (List AV)},(∀ x∈xs,plTy.ok x)->∃ L:List Pl,xs.map plTy.mk=L.map plAV/\L.length=xs.length
 | [],_=>⟨[],rfl,rfl⟩
 | x::xs,h=>by
   obtain ⟨L,h1,h2⟩:=pls_of fun y hy=>h y (List.mem_cons_of_mem _ hy)
   obtain ⟨_,_,rfl,⟨k,rfl,_⟩,_,_,rfl,⟨n,rfl,_⟩,_,_,rfl,⟨s,rfl,_⟩,rfl⟩:=h x (List.mem_cons_self)
   exact ⟨⟨k,n,s⟩::L,by rw [List.map_cons,List.map_cons,h1];rfl,by simp [h2]⟩
set_option maxHeartbeats 1000000 in
theorem TextsCalls_lifted (os:Os) (started:os.Started) (H:Type) (enc:TypeId×Value->H) :
  ReturnsInHanded {} Tryz.checked os 3 .any (fun w args=>(Rows.textsCallsSpec.pre enc Tryz.prog Tryz.f3 [] false w args/\laidMetH Tryz.prog laidU w)/\sizedMet enc Tryz.prog Tryz.f3 (OpenSpec.ofChange Rows.textsCallsSpec) false w args)
   (Rows.textsCallsSpec.post enc Tryz.prog Tryz.f3 false true false false):=by
 refine A.returnsInHanded_and_shaped (C:=Tryz.checked) (X:=fun w _=>laidMetH Tryz.prog laidU w) (fun _ _ _ hh h=>h.of_heap hh) row_own started (by kernel_rfl) Tryz.func3
  (ChangeSpec.witness_shaped (enc:=enc) (C:=Tryz.checked) (os:=os) (X:=fun w _=>laidMetH Tryz.prog laidU w) false (World.laidAll Tryz.prog os laidU) #[.string ⟨#[]⟩,.slice none 0 0] 8 (World.laidAll_os _ _ _)
   (World.shaped_of_ZipB (by kernel_rfl) (by kernel_rfl)) (by kernel_rfl) (by kernel_rfl) (by kernel_rfl)
   (by rw [MakeChecks.laidMetH_plain _ _ _ (by kernel_rfl)];exact laidMet_laidAll _ (by kernel_rfl) (by kernel_rfl))) ?_
 intro W base args ds gs before hval0 hW hsh hL
 obtain ⟨m,hqs⟩:=z_sim hsh hL
 have hval:∀ (j:Nat) t v,Tryz.f3.params[j]? = some t->args[j]? = some v->Value.okWide Tryz.prog W .any base t v:=hval0
 have hW':=hW
 obtain ⟨p,q,hA0,hV,rfl,hfz,hnd⟩:=hW
 have hA:DataW.TrodAll enc Tryz.prog W 0 (fun _=>true) true Tryz.f3.params.toList args.toList ds p:=hA0
 obtain ⟨rfl,rfl⟩:=trodVars_none hV
 clear hA0 hval0
 simp only [List.append_nil] at hW'
 have hlt:∀ x∈p,x.block<W.heap.size:=fun x hx=>by simpa using hW'.lt x hx
 obtain ⟨avs,hr,hok⟩:=open_args (P:=Tryz.prog) (τs := [.str,.sl plTy]) (by kernel_rfl) hA fun j t v hj hj'=>hval j t v (by simpa using hj) (by simpa using hj')
 have hlen:ds.length=2:=(trod_len hA).trans (by kernel_rfl)
 obtain ⟨d0,d1,rfl⟩:∃ d0 d1,ds = [d0,d1]:=by
  match ds,hlen with
  | [d0,d1],_=>exact ⟨d0,d1,rfl⟩
 obtain ⟨args⟩:=args
 obtain ⟨_,_,rfl,⟨s,rfl,_⟩,_,_,rfl,⟨xs,rfl,hl,hx⟩,rfl⟩:=hok
 have hr':Reps (zSt m) W [.str s,.sl .shr (xs.map plTy.mk)] args:=by
  exact Reps.fixed (fun _ _=>zSt_fix) hr
 refine (calls_z (by obtain ⟨L,h1,h2⟩:=pls_of hx;rw [h1];exact TextsCalls_any (zSt_tab m) (zSt_u8 m) (zSt_tens m) (zSt_max m) s L (by unfold maxLen at hl;omega)) hqs hr').mono fun e W' ⟨he,hw⟩=>?_
 subst he
 refine ⟨_,rfl,_,_,_,[],p,[],hW',?_,?_,rfl,hw.below.frame _,fun h=>by cases h⟩
 ·exact trodAll_mk1 (shut_bool (show Tryz.prog.underlying 4=_ by kernel_rfl) _)
 ·exact below_all row_laid (by kernel_rfl) hA hw.below hlt
theorem TextsCalls_row:Rows.TextsCallsSaid:=
 OpenClaim.holds_of_wide 3 Tryz.f3 rfl rfl rfl rfl rfl rfl rfl ⟨rfl,rfl,rfl,rfl,rfl⟩ rfl rfl rfl rfl rfl (by kernel_rfl) Tryz.func3 (by kernel_rfl)
  (of_decide_eq_true (by kernel_rfl)) (by unfold Func.isWrapper;first|(rw [if_pos (by decide +kernel)];kernel_rfl)|(rw [if_neg (by decide +kernel)];exact ⟨rfl,rfl⟩))
  (fun os started H enc _=>TextsCalls_lifted os started H enc)
theorem TextsCalls_holds:Rows.TextsCallsCardSaid:=
 Claim7.holds_tied_plain_at .later [] [.data, .data, .data, .data, .data, .pinned] true (true, "e2103b4088adc2ae4ee66d48d372c4695fa35b5bc5fc5a2061e59b4e03b8b959") true
  TextsCalls_row (fun _ h=>by cases h) (by kernel_rfl) (fun _ h=>by cases h) textsCalls_row_tie rfl ⟨rfl,rfl⟩ (by kernel_rfl) rfl
  (fun f fn hf hfn=>by
   obtain rfl : f = 3 := (Option.some.inj ((show Tryz.prog.funcNamed "tabular/tabularlaw17.TextsCalls" = some 3 by kernel_rfl).symm.trans hf)).symm
   obtain rfl:fn=Tryz.f3:=(Option.some.inj (Tryz.func3.symm.trans hfn)).symm
   exact ⟨by kernel_rfl,fun j t ht=>by
    have hm:t∈Tryz.f3.params.toList:=by simpa using Array.mem_of_getElem? ht
    have hall:(Tryz.f3.params.toList.all fun u => !Tryz.prog.wantsStandIn u)=true:=by kernel_rfl
    exact (show Tryz.prog.wantsStandIn t=false by simpa using List.all_eq_true.1 hall t hm)⟩)
  (by kernel_rfl)
#print axioms TextsCalls_holds
end Go.Proofs.YtoodoaekmeeheaaGreatDoor
