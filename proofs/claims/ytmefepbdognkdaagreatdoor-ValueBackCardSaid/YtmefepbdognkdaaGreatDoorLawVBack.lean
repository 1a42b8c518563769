/- PROVED: for any plain data ValueBack returns true. Condition: the listed variables (the library's tables) are laid as their text lays them (the card ties them). -/
import Derived.Test.YtmefepbdognkdaaGreatDoorJt
import Derived.Test.YtmefepbdognkdaaGreatDoorMv
import Derived.Test.YtmefepbdognkdaaGreatDoorCards
import Derived.Test.YtmefepbdognkdaaGreatDoorTie
namespace Go.Proofs.YtmefepbdognkdaaGreatDoor
open Go Go.ChangeShapes Go.WideShapes Go.ChangeAt Go.RowKit Go.A
set_option maxRecDepth 100000
/-- Plain data, as a type. -/
def plTy : Ty := .pair (.int .i64) (.pair (.int .i64) (.pair .str .unit))
set_option maxHeartbeats 1000000 in
theorem ValueBack_lifted (os : Os) (started : os.Started) (H : Type) (enc : TypeId × Value → H) :
    ReturnsInHanded {} Tryz.checked os 6 .any (fun w args => (Rows.valueBackSpec.pre enc Tryz.prog Tryz.f6 [] false w args ∧ laidMetH Tryz.prog laidV w) ∧ sizedMet enc Tryz.prog Tryz.f6 (OpenSpec.ofChange Rows.valueBackSpec) false w args)
      (Rows.valueBackSpec.post enc Tryz.prog Tryz.f6 false true false false) := by
  refine returnsInHanded_of_change_and (C := Tryz.checked) (X := fun w _ => laidMetH Tryz.prog laidV w) (fun _ _ _ hh h => h.of_heap hh) row_own started (by kernel_rfl) Tryz.func6
    (ChangeSpec.witness_shaped (enc := enc) (C := Tryz.checked) (os := os) (X := fun w _ => laidMetH Tryz.prog laidV w) false (World.laidAll Tryz.prog os laidV) #[.agg #[.int .i64 0, .int .i64 0, .string ⟨#[]⟩]] 8 (World.laidAll_os _ _ _)
      (World.shaped_of_ZipB (by kernel_rfl) (by kernel_rfl)) (by kernel_rfl) (by kernel_rfl) (by kernel_rfl)
      (by rw [MakeChecks.laidMetH_plain _ _ _ (by kernel_rfl)]; exact laidMet_laidAll _ (by kernel_rfl) (by kernel_rfl))) ?_
  intro W base args ds gs before hval0 hW _ _ hL _
  have hval : ∀ (j : Nat) t v, Tryz.f6.params[j]? = some t → args[j]? = some v → Value.okWide Tryz.prog W .any base t v := hval0
  have hW' := hW
  obtain ⟨p, q, hA0, hV, rfl, hfz, hnd⟩ := hW
  have hA : DataW.TrodAll enc Tryz.prog W 0 (fun _ => true) true Tryz.f6.params.toList args.toList ds p := hA0
  obtain ⟨rfl, rfl⟩ := trodVars_none hV
  clear hA0 hval0
  simp only [List.append_nil] at hW'
  have hlt : ∀ x ∈ p, x.block < W.heap.size := fun x hx => by simpa using hW'.lt x hx
  obtain ⟨avs, hr, hok⟩ := open_args (P := Tryz.prog) (τs := [plTy]) (by kernel_rfl) hA fun j t v hj hj' => hval j t v (by simpa using hj) (by simpa using hj')
  have hlen : ds.length = 1 := (trod_len hA).trans (by kernel_rfl)
  obtain ⟨d0, rfl⟩ : ∃ d0, ds = [d0] := by
    match ds, hlen with
    | [d0], _ => exact ⟨d0, rfl⟩
  obtain ⟨args⟩ := args
  obtain ⟨_, _, rfl, ⟨_, _, rfl, ⟨k1, rfl, _⟩, _, _, rfl, ⟨n1, rfl, _⟩, _, _, rfl, ⟨s1, rfl, l1⟩, rfl⟩, rfl⟩ := hok
  have hr' : Reps vSt W [plAV ⟨k1, n1, s1⟩] args := by
    exact Reps.fixed (fun _ _ => stOf_fix) hr
  refine (calls_v (ValueBack_any vSt_u8 vSt_tab ⟨k1, n1, s1⟩) (v_sim hL) hr').mono fun e W' ⟨he, hw⟩ => ?_
  subst he
  refine ⟨_, rfl, _, _, _, [], p, [], hW', ?_, ?_, rfl, hw.below.frame _, fun h => by cases h⟩
  · exact trodAll_mk1 (shut_bool (show Tryz.prog.underlying 4 = _ by kernel_rfl) _)
  · exact below_all row_laid (by kernel_rfl) hA hw.below hlt

theorem ValueBack_row : Rows.ValueBackSaid :=
  OpenClaim.holds_of_wide 6 Tryz.f6 rfl rfl rfl rfl rfl rfl rfl ⟨rfl, rfl, rfl, rfl, rfl⟩ rfl rfl rfl rfl rfl (by kernel_rfl) Tryz.func6 (by kernel_rfl)
    (of_decide_eq_true (by kernel_rfl)) (by unfold Func.isWrapper; first | (rw [if_pos (by decide +kernel)]; kernel_rfl) | (rw [if_neg (by decide +kernel)]; exact ⟨rfl, rfl⟩))
    (fun os started H enc _ => ValueBack_lifted os started H enc)
/-- The tied card. -/
theorem ValueBack_holds : Rows.ValueBackCardSaid :=
  Claim7.holds_tied_plain_at .later [] [.data, .data, .data, .data, .pinned] true (true, "7f2af92c6ff2ae44b00325157e30054b203dce4898e79d239d3b6c86c566c095") true
    ValueBack_row (fun _ h => by cases h) (by kernel_rfl) (fun _ h => by cases h) valueBack_row_tie rfl ⟨rfl, rfl⟩ (by kernel_rfl) rfl
    (fun f fn hf hfn => by
      obtain rfl : f = 6 := (Option.some.inj ((show Tryz.prog.funcNamed "tabular/tabularlaw15.ValueBack" = some 6 by kernel_rfl).symm.trans hf)).symm
      obtain rfl : fn = Tryz.f6 := (Option.some.inj (Tryz.func6.symm.trans hfn)).symm
      exact ⟨by kernel_rfl, fun j t ht => by
        have hm : t ∈ Tryz.f6.params.toList := by simpa using Array.mem_of_getElem? ht
        have hall : (Tryz.f6.params.toList.all fun u => !Tryz.prog.wantsStandIn u) = true := by kernel_rfl
        exact (show Tryz.prog.wantsStandIn t = false by simpa using List.all_eq_true.1 hall t hm)⟩)
    (by kernel_rfl)
#print axioms ValueBack_holds
end Go.Proofs.YtmefepbdognkdaaGreatDoor
