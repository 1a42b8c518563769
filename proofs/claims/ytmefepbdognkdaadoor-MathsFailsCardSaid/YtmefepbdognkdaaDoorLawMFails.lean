/- PROVED: for any name, any values, any failure and any place MathsFails returns true. Condition: utf8's two tables and the program's powers of ten are laid as their text lays them (the card ties them). -/
import Derived.Test.YtmefepbdognkdaaDoorJk
import Derived.Test.YtmefepbdognkdaaDoorMm
import Derived.Test.YtmefepbdognkdaaDoorCards
import Derived.Test.YtmefepbdognkdaaDoorTie
namespace Go.Proofs.YtmefepbdognkdaaDoor
open Go Go.ChangeShapes Go.WideShapes Go.ChangeAt Go.RowKit Go.A
set_option maxRecDepth 100000
/-- Plain data, as a type. -/
def plTy : Ty := .pair (.int .i64) (.pair (.int .i64) (.pair .str .unit))
theorem pls_of : ∀ {xs : List (List AV)}, (∀ x ∈ xs, plTy.ok x) → ∃ L : List Pl, xs.map plTy.mk = L.map plAV ∧ L.length = xs.length
  | [], _ => ⟨[], rfl, rfl⟩
  | x :: xs, h => by
    obtain ⟨L, h1, h2⟩ := pls_of fun y hy => h y (List.mem_cons_of_mem _ hy)
    obtain ⟨_, _, rfl, ⟨k, rfl, _⟩, _, _, rfl, ⟨n, rfl, _⟩, _, _, rfl, ⟨s, rfl, _⟩, rfl⟩ := h x (List.mem_cons_self)
    exact ⟨⟨k, n, s⟩ :: L, by rw [List.map_cons, List.map_cons, h1]; rfl, by simp [h2]⟩
set_option maxHeartbeats 1000000 in
theorem MathsFails_lifted (os : Os) (started : os.Started) (H : Type) (enc : TypeId × Value → H) :
    ReturnsInHanded {} Tryd.checked os 6 .any (fun w args => (Rows.mathsFailsSpec.pre enc Tryd.prog Tryd.f6 [] false w args ∧ laidMetH Tryd.prog laidM w) ∧ sizedMet enc Tryd.prog Tryd.f6 (OpenSpec.ofChange Rows.mathsFailsSpec) false w args)
      (Rows.mathsFailsSpec.post enc Tryd.prog Tryd.f6 false true false false) := by
  refine returnsInHanded_of_change_and (C := Tryd.checked) (X := fun w _ => laidMetH Tryd.prog laidM w) (fun _ _ _ hh h => h.of_heap hh) row_own started (by kernel_rfl) Tryd.func6
    (ChangeSpec.witness_shaped (enc := enc) (C := Tryd.checked) (os := os) (X := fun w _ => laidMetH Tryd.prog laidM w) false (World.laidAll Tryd.prog os laidM) #[.string ⟨#[]⟩, .slice none 0 0, .int .i64 0, .int .i64 0] 8 (World.laidAll_os _ _ _)
      (World.shaped_of_ZipB (by kernel_rfl) (by kernel_rfl)) (by kernel_rfl) (by kernel_rfl) (by kernel_rfl)
      (by rw [MakeChecks.laidMetH_plain _ _ _ (by kernel_rfl)]; exact laidMet_laidAll _ (by kernel_rfl) (by kernel_rfl))) ?_
  intro W base args ds gs before hval0 hW _ _ hL _
  have hval : ∀ (j : Nat) t v, Tryd.f6.params[j]? = some t → args[j]? = some v → Value.okWide Tryd.prog W .any base t v := hval0
  have hW' := hW
  obtain ⟨p, q, hA0, hV, rfl, hfz, hnd⟩ := hW
  have hA : DataW.TrodAll enc Tryd.prog W 0 (fun _ => true) true Tryd.f6.params.toList args.toList ds p := hA0
  obtain ⟨rfl, rfl⟩ := trodVars_none hV
  clear hA0 hval0
  simp only [List.append_nil] at hW'
  have hlt : ∀ x ∈ p, x.block < W.heap.size := fun x hx => by simpa using hW'.lt x hx
  obtain ⟨avs, hr, hok⟩ := open_args (P := Tryd.prog) (τs := [.str, .sl plTy, .int .i64, .int .i64]) (by kernel_rfl) hA fun j t v hj hj' => hval j t v (by simpa using hj) (by simpa using hj')
  have hlen : ds.length = 4 := (trod_len hA).trans (by kernel_rfl)
  obtain ⟨d0, d1, d2, d3, rfl⟩ : ∃ d0 d1 d2 d3, ds = [d0, d1, d2, d3] := by
    match ds, hlen with
    | [d0, d1, d2, d3], _ => exact ⟨d0, d1, d2, d3, rfl⟩
  obtain ⟨args⟩ := args
  obtain ⟨_, _, rfl, ⟨s, rfl, _⟩, _, _, rfl, ⟨xs, rfl, hl, hx⟩, _, _, rfl, ⟨n, rfl, _⟩, _, _, rfl, ⟨k, rfl, _⟩, rfl⟩ := hok
  have hr' : Reps mSt W [.str s, .sl .shr (xs.map plTy.mk), .int .i64 n, .int .i64 k] args := by
    exact Reps.fixed (fun _ _ => stOf_fix) hr
  refine (calls_m (by obtain ⟨L, h1, h2⟩ := pls_of hx; rw [h1]; exact MathsFails_any mSt_u8 mSt_tens s L (by unfold maxLen at hl; omega) n k) (m_sim hL) hr').mono fun e W' ⟨he, hw⟩ => ?_
  subst he
  refine ⟨_, rfl, _, _, _, [], p, [], hW', ?_, ?_, rfl, hw.below.frame _, fun h => by cases h⟩
  · exact trodAll_mk1 (shut_bool (show Tryd.prog.underlying 4 = _ by kernel_rfl) _)
  · exact below_all row_laid (by kernel_rfl) hA hw.below hlt

theorem MathsFails_row : Rows.MathsFailsSaid :=
  OpenClaim.holds_of_wide 6 Tryd.f6 rfl rfl rfl rfl rfl rfl rfl ⟨rfl, rfl, rfl, rfl, rfl⟩ rfl rfl rfl rfl rfl (by kernel_rfl) Tryd.func6 (by kernel_rfl)
    (of_decide_eq_true (by kernel_rfl)) (by unfold Func.isWrapper; first | (rw [if_pos (by decide +kernel)]; kernel_rfl) | (rw [if_neg (by decide +kernel)]; exact ⟨rfl, rfl⟩))
    (fun os started H enc _ => MathsFails_lifted os started H enc)
/-- The tied card. -/
theorem MathsFails_holds : Rows.MathsFailsCardSaid :=
  Claim7.holds_tied_plain_at .later [] [.data, .data, .pinned] true (true, "4aa2f026d599303c5a8a51bdd93cd061ce24aaac579b90a01962cbc64e0d009e") true
    MathsFails_row (fun _ h => by cases h) (by kernel_rfl) (fun _ h => by cases h) mathsFails_row_tie rfl ⟨rfl, rfl⟩ (by kernel_rfl) rfl
    (fun f fn hf hfn => by
      obtain rfl : f = 6 := (Option.some.inj ((show Tryd.prog.funcNamed "tabular/tabularlaw16.MathsFails" = some 6 by kernel_rfl).symm.trans hf)).symm
      obtain rfl : fn = Tryd.f6 := (Option.some.inj (Tryd.func6.symm.trans hfn)).symm
      exact ⟨by kernel_rfl, fun j t ht => by
        have hm : t ∈ Tryd.f6.params.toList := by simpa using Array.mem_of_getElem? ht
        have hall : (Tryd.f6.params.toList.all fun u => !Tryd.prog.wantsStandIn u) = true := by kernel_rfl
        exact (show Tryd.prog.wantsStandIn t = false by simpa using List.all_eq_true.1 hall t hm)⟩)
    (by kernel_rfl)
#print axioms MathsFails_holds
end Go.Proofs.YtmefepbdognkdaaDoor
