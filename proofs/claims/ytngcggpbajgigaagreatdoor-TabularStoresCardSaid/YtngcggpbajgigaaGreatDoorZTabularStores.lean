/- PROVED: for any frames, any count of changes undone and any entries TabularStores returns true. Condition: the listed variable (the table of check) is laid as its text lays it (the card ties it). -/
import Derived.Test.YtngcggpbajgigaaGreatDoorCards
import Derived.Test.YtngcggpbajgigaaGreatDoorTie
import Derived.Test.YtngcggpbajgigaaGreatDoorZTabularStoresl
set_option linter.defProp false
set_option linter.unusedSimpArgs false
set_option linter.unusedVariables false
set_option maxRecDepth 100000
namespace Go.Proofs.YtngcggpbajgigaaGreatDoor
open Go Go.ChangeShapes Go.WideShapes Go.ChangeAt Go.RowKit Go.A
abbrev enTy:Ty := .pair (.int .u64) (.pair (.int .i64) (.pair .str (.pair .bool .unit)))
theorem wf_u64' {n:Int} (h:(Lit.int .u64 n).wf=true):0<=n/\n<18446744073709551616:=by
 simp [Lit.wf,IntKind.min,IntKind.max,IntKind.signed,IntKind.bits] at h
 omega
theorem ens_of:∀ xs:List (List AV),(∀ x∈xs,enTy.ok x)->∃ L:List En,xs.map enTy.mk=L.map enAV/\∀ e∈L,e.key<18446744073709551616
 | [],_=>⟨[],rfl,fun e h=>by cases h⟩
 | x::xs,h=>by
   obtain ⟨L,hL,hk⟩:=ens_of xs fun y hy=>h y (List.mem_cons_of_mem _ hy)
   obtain ⟨_,_,rfl,⟨k,rfl,hw⟩,_,_,rfl,⟨z,rfl,_⟩,_,_,rfl,⟨s,rfl,_⟩,_,_,rfl,⟨b,rfl⟩,rfl⟩:=h x List.mem_cons_self
   obtain ⟨w1,w2⟩:=wf_u64' hw
   obtain ⟨q,rfl⟩:∃ q:Nat,k=q:=⟨k.toNat,by omega⟩
   refine ⟨⟨q,z,s,b⟩::L,by rw [List.map_cons,hL];rfl,fun e he=>?_⟩
   rcases List.mem_cons.1 he with rfl|he
   ·show q<18446744073709551616
    omega
   ·exact hk e he
theorem TabularStores_at {σ:ASt} (hT:CkT σ) (a b:Int) (xs:List (List AV)) (hxs:∀ x∈xs,enTy.ok x) :
  ACalls Tryz.prog 3 [.int .i64 a,.int .i64 b,.sl .shr (xs.map enTy.mk)] σ fun v σ'=>v = .bool true/\σ'=σ:=by
 obtain ⟨L,hL,hk⟩:=ens_of xs hxs
 rw [hL]
 exact TabularStores_any hT a b L hk
set_option maxHeartbeats 1000000 in
theorem TabularStores_lifted (os:Os) (started:os.Started) (H:Type) (enc:TypeId×Value->H) :
  ReturnsInHanded {} Tryz.checked os 3 .any (fun w args=>(Rows.tabularStoresSpec.pre enc Tryz.prog Tryz.f3 [] false w args/\laidMetH Tryz.prog laidC w)/\sizedMet enc Tryz.prog Tryz.f3 (OpenSpec.ofChange Rows.tabularStoresSpec) false w args)
   (Rows.tabularStoresSpec.post enc Tryz.prog Tryz.f3 false true false false):=by
 refine returnsInHanded_of_change_and (C:=Tryz.checked) (X:=fun w _=>laidMetH Tryz.prog laidC w) (fun _ _ _ hh h=>h.of_heap hh) row_own started (by kernel_rfl) Tryz.func3
  (ChangeSpec.witness_shaped (enc:=enc) (C:=Tryz.checked) (os:=os) (X:=fun w _=>laidMetH Tryz.prog laidC w) false (World.laidAll Tryz.prog os laidC) #[.int .i64 0,.int .i64 0,.slice none 0 0] 8 (World.laidAll_os _ _ _)
   (World.shaped_of_ZipB (by kernel_rfl) (by kernel_rfl)) (by kernel_rfl) (by kernel_rfl) (by kernel_rfl)
   (by rw [MakeChecks.laidMetH_plain _ _ _ (by kernel_rfl)];exact laidMet_laidAll _ (by kernel_rfl) (by kernel_rfl))) ?_
 intro W base args ds gs before hval0 hW _ _ hL _
 have hval:∀ (j:Nat) t v,Tryz.f3.params[j]? = some t->args[j]? = some v->Value.okWide Tryz.prog W .any base t v:=hval0
 have hW':=hW
 obtain ⟨p,q,hA0,hV,rfl,hfz,hnd⟩:=hW
 have hA:DataW.TrodAll enc Tryz.prog W 0 (fun _=>true) true Tryz.f3.params.toList args.toList ds p:=hA0
 obtain ⟨rfl,rfl⟩:=trodVars_none hV
 clear hA0 hval0
 simp only [List.append_nil] at hW'
 have hlt:∀ x∈p,x.block<W.heap.size:=fun x hx=>by simpa using hW'.lt x hx
 obtain ⟨avs,hr,hok⟩:=open_args (P:=Tryz.prog) (τs := [.int .i64,.int .i64,.sl enTy]) (by kernel_rfl) hA fun j t v hj hj'=>hval j t v (by simpa using hj) (by simpa using hj')
 have hlen:ds.length=3:=(trod_len hA).trans (by kernel_rfl)
 obtain ⟨d0,d1,d2,rfl⟩:∃ d0 d1 d2,ds = [d0,d1,d2]:=by
  match ds,hlen with
  | [d0,d1,d2],_=>exact ⟨d0,d1,d2,rfl⟩
 obtain ⟨args⟩:=args
 obtain ⟨_,_,rfl,⟨a,rfl,_⟩,_,_,rfl,⟨b,rfl,_⟩,_,_,rfl,⟨xs,rfl,_,hxs⟩,rfl⟩:=hok
 have hr':Reps cSt W [.int .i64 a,.int .i64 b,.sl .shr (xs.map enTy.mk)] args:=by
  exact Reps.fixed (fun _ _=>stOf_fix) hr
 refine (calls_c (TabularStores_at cSt_ck a b xs hxs) (c_sim hL) hr').mono fun e W' ⟨he,hw⟩=>?_
 subst he
 refine ⟨_,rfl,_,_,_,[],p,[],hW',?_,?_,rfl,hw.below.frame _,fun h=>by cases h⟩
 ·exact trodAll_mk1 (shut_bool (show Tryz.prog.underlying 4=_ by kernel_rfl) _)
 ·exact below_all row_laid (by kernel_rfl) hA hw.below hlt
theorem TabularStores_row:Rows.TabularStoresSaid:=
 OpenClaim.holds_of_wide 3 Tryz.f3 rfl rfl rfl rfl rfl rfl rfl ⟨rfl,rfl,rfl,rfl,rfl⟩ rfl rfl rfl rfl rfl (by kernel_rfl) Tryz.func3 (by kernel_rfl)
  (of_decide_eq_true (by kernel_rfl)) (by unfold Func.isWrapper;first|(rw [if_pos (by decide +kernel)];kernel_rfl)|(rw [if_neg (by decide +kernel)];exact ⟨rfl,rfl⟩))
  (fun os started H enc _=>TabularStores_lifted os started H enc)
theorem TabularStores_holds:Rows.TabularStoresCardSaid:=
 Claim7.holds_tied_plain_at .later [] [.data] true (true, "f4cffb0e3617fac953a057b2f9b9837b2d5d373e5a63704f04062709d3c95848") false
  TabularStores_row (fun _ h=>by cases h) (by kernel_rfl) (fun _ h=>by cases h) tabularStores_row_tie rfl ⟨rfl,rfl⟩ (by kernel_rfl) rfl
  (fun f fn hf hfn=>by
   obtain rfl : f = 3 := (Option.some.inj ((show Tryz.prog.funcNamed "tabular/tabulartop.TabularStores" = some 3 by kernel_rfl).symm.trans hf)).symm
   obtain rfl:fn=Tryz.f3:=(Option.some.inj (Tryz.func3.symm.trans hfn)).symm
   exact ⟨by kernel_rfl,fun j t ht=>by
    have hm:t∈Tryz.f3.params.toList:=by simpa using Array.mem_of_getElem? ht
    have hall:(Tryz.f3.params.toList.all fun u => !Tryz.prog.wantsStandIn u)=true:=by kernel_rfl
    exact (show Tryz.prog.wantsStandIn t=false by simpa using List.all_eq_true.1 hall t hm)⟩)
  (by kernel_rfl)
#print axioms TabularStores_holds
end Go.Proofs.YtngcggpbajgigaaGreatDoor
