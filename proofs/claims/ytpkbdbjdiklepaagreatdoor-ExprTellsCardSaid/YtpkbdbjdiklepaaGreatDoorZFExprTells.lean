/- PROVED: for any two lists of parts ExprTells returns true. Condition: the listed variables (the library's tables) are laid as their text lays them (the card ties them). -/
import Derived.Test.YtpkbdbjdiklepaaGreatDoorCards
import Derived.Test.YtpkbdbjdiklepaaGreatDoorTie
import Derived.Test.YtpkbdbjdiklepaaGreatDoorZFExprTellsj
set_option linter.defProp false
set_option linter.unusedSimpArgs false
set_option linter.unusedVariables false
set_option maxRecDepth 100000
namespace Go.Proofs.YtpkbdbjdiklepaaGreatDoor
open Go Go.ChangeShapes Go.WideShapes Go.ChangeAt Go.RowKit Go.A
theorem ExprTells_at {σ : ASt} (hU : U8 σ) (hT : Tab σ) (hM : MaxL σ) (xs ys : List (List AV)) (hxs : ∀ x ∈ xs, partTy.ok x) (hys : ∀ x ∈ ys, partTy.ok x) :
  ACalls Tryz.prog 3 [.sl .shr (xs.map partTy.mk), .sl .shr (ys.map partTy.mk)] σ fun v σ' => v = .bool true ∧ σ' = σ := by
 obtain ⟨L, hL⟩ := parts_of xs hxs
 obtain ⟨M, hN⟩ := parts_of ys hys
 rw [hL, hN]
 exact ExprTells_any hU hT hM L M
set_option maxHeartbeats 1000000 in
theorem ExprTells_lifted (os : Os) (started : os.Started) (H : Type) (enc : TypeId × Value → H) :
  ReturnsInHanded {} Tryz.checked os 3 .any (fun w args => (Rows.exprTellsSpec.pre enc Tryz.prog Tryz.f3 [] false w args ∧ laidMetH Tryz.prog laidV w) ∧ sizedMet enc Tryz.prog Tryz.f3 (OpenSpec.ofChange Rows.exprTellsSpec) false w args)
   (Rows.exprTellsSpec.post enc Tryz.prog Tryz.f3 false true false false) := by
 refine A.returnsInHanded_and_shaped (C := Tryz.checked) (X := fun w _ => laidMetH Tryz.prog laidV w) (fun _ _ _ hh h => h.of_heap hh) row_own started (by kernel_rfl) Tryz.func3
  (ChangeSpec.witness_shaped (enc := enc) (C := Tryz.checked) (os := os) (X := fun w _ => laidMetH Tryz.prog laidV w) false (World.laidAll Tryz.prog os laidV) #[.slice none 0 0, .slice none 0 0] 8 (World.laidAll_os _ _ _)
   (World.shaped_of_ZipB (by kernel_rfl) (by kernel_rfl)) (by kernel_rfl) (by kernel_rfl) (by kernel_rfl)
   (by rw [MakeChecks.laidMetH_plain _ _ _ (by kernel_rfl)]; exact laidMet_laidAll _ (by kernel_rfl) (by kernel_rfl))) ?_
 intro W base args ds gs before hval0 hW hsh hL
 obtain ⟨m, hqs⟩ := w_sim hsh hL
 have hval : ∀ (j : Nat) t v, Tryz.f3.params[j]? = some t → args[j]? = some v → Value.okWide Tryz.prog W .any base t v := hval0
 have hW' := hW
 obtain ⟨p, q, hA0, hV, rfl, hfz, hnd⟩ := hW
 have hA : DataW.TrodAll enc Tryz.prog W 0 (fun _ => true) true Tryz.f3.params.toList args.toList ds p := hA0
 obtain ⟨rfl, rfl⟩ := trodVars_none hV
 clear hA0 hval0
 simp only [List.append_nil] at hW'
 have hlt : ∀ x ∈ p, x.block < W.heap.size := fun x hx => by simpa using hW'.lt x hx
 obtain ⟨avs, hr, hok⟩ := open_args (P := Tryz.prog) (τs := [.sl partTy, .sl partTy]) (by kernel_rfl) hA fun j t v hj hj' => hval j t v (by simpa using hj) (by simpa using hj')
 have hlen : ds.length = 2 := (trod_len hA).trans (by kernel_rfl)
 obtain ⟨d0, d1, rfl⟩ : ∃ d0 d1, ds = [d0, d1] := by
  match ds, hlen with
  | [d0, d1], _ => exact ⟨d0, d1, rfl⟩
 obtain ⟨args⟩ := args
 obtain ⟨_, _, rfl, ⟨xs, rfl, _, hxs⟩, _, _, rfl, ⟨ys, rfl, _, hys⟩, rfl⟩ := hok
 have hr' : Reps (wSt m) W [.sl .shr (xs.map partTy.mk), .sl .shr (ys.map partTy.mk)] args := by
  exact Reps.fixed (fun _ _ => wSt_fix) hr
 refine (calls_w (ExprTells_at (wSt_u8 m) (wSt_tab m) (wSt_max m) xs ys hxs hys) hqs hr').mono fun e W' ⟨he, hw⟩ => ?_
 subst he
 refine ⟨_, rfl, _, _, _, [], p, [], hW', ?_, ?_, rfl, hw.below.frame _, fun h => by cases h⟩
 ·exact trodAll_mk1 (shut_bool (show Tryz.prog.underlying 4 = _ by kernel_rfl) _)
 ·exact below_all row_laid (by kernel_rfl) hA hw.below hlt
theorem ExprTells_row : Rows.ExprTellsSaid :=
 OpenClaim.holds_of_wide 3 Tryz.f3 rfl rfl rfl rfl rfl rfl rfl ⟨rfl, rfl, rfl, rfl, rfl⟩ rfl rfl rfl rfl rfl (by kernel_rfl) Tryz.func3 (by kernel_rfl)
  (of_decide_eq_true (by kernel_rfl)) (by unfold Func.isWrapper; first | (rw [if_pos (by decide +kernel)]; kernel_rfl) | (rw [if_neg (by decide +kernel)]; exact ⟨rfl, rfl⟩))
  (fun os started H enc _ => ExprTells_lifted os started H enc)
theorem ExprTells_holds : Rows.ExprTellsCardSaid :=
 Claim7.holds_tied_plain_at .later [] [.data, .data, .data, .data, .pinned] true (true, "23b78def3f1b877d966de6de1a8762679b55f850556c65ede67ad5113006eb65") false
  ExprTells_row (fun _ h => by cases h) (by kernel_rfl) (fun _ h => by cases h) exprTells_row_tie rfl ⟨rfl, rfl⟩ (by kernel_rfl) rfl
  (fun f fn hf hfn => by
   obtain rfl : f = 3 := (Option.some.inj ((show Tryz.prog.funcNamed "tabular/tabularlaw12.ExprTells" = some 3 by kernel_rfl).symm.trans hf)).symm
   obtain rfl : fn = Tryz.f3 := (Option.some.inj (Tryz.func3.symm.trans hfn)).symm
   exact ⟨by kernel_rfl, fun j t ht => by
    have hm : t ∈ Tryz.f3.params.toList := by simpa using Array.mem_of_getElem? ht
    have hall : (Tryz.f3.params.toList.all fun u => !Tryz.prog.wantsStandIn u) = true := by kernel_rfl
    exact (show Tryz.prog.wantsStandIn t = false by simpa using List.all_eq_true.1 hall t hm)⟩)
  (by kernel_rfl)
#print axioms ExprTells_holds
end Go.Proofs.YtpkbdbjdiklepaaGreatDoor
