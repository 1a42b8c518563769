/- PROVED: for any texts, any place and any turn TabularSpoilt returns true. Condition: the listed variable (the table of check) is laid as its text lays it (the card ties it). -/
import Derived.Test.YtkbomeigndfbhaaDoorCards
import Derived.Test.YtkbomeigndfbhaaDoorTie
import Derived.Test.YtkbomeigndfbhaaDoorZTabularSpoiltf
set_option linter.defProp false
set_option linter.unusedSimpArgs false
set_option linter.unusedVariables false
set_option maxRecDepth 100000
namespace Go.Proofs.YtkbomeigndfbhaaDoor
open Go Go.ChangeShapes Go.WideShapes Go.ChangeAt Go.RowKit Go.A
theorem texts_of : ∀ xs : List (List AV), (∀ x ∈ xs, Ty.str.ok x) → ∃ L : List (List UInt8), xs.map Ty.str.mk = L.map AV.str
 | [], _ => ⟨[], rfl⟩
 | x :: xs, h => by
   obtain ⟨L, hL⟩ := texts_of xs fun y hy => h y (List.mem_cons_of_mem _ hy)
   obtain ⟨s, rfl, _⟩ := h x List.mem_cons_self
   exact ⟨s :: L, by rw [List.map_cons, hL]; rfl⟩
theorem wf_u32' {n : Int} (h : (Lit.int .u32 n).wf = true) : 0 ≤ n ∧ n ≤ 4294967295 := by
 simp [Lit.wf, IntKind.min, IntKind.max, IntKind.signed, IntKind.bits] at h
 omega
theorem TabularSpoilt_at {σ : ASt} (hT : CkT σ) (xs : List (List AV)) (hxs : ∀ x ∈ xs, Ty.str.ok x) (a t : Int) (ht : (Lit.int .u32 t).wf = true) :
  ACalls Tryd.prog 3 [.sl .shr (xs.map Ty.str.mk), .int .i64 a, .int .u32 t] σ fun v σ' => v = .bool true ∧ σ' = σ := by
 obtain ⟨L, hL⟩ := texts_of xs hxs
 rw [hL]
 exact TabularSpoilt_any hT L a t (wf_u32' ht)
set_option maxHeartbeats 1000000 in
theorem TabularSpoilt_lifted (os : Os) (started : os.Started) (H : Type) (enc : TypeId × Value → H) :
  ReturnsInHanded {} Tryd.checked os 3 .any (fun w args => (Rows.tabularSpoiltSpec.pre enc Tryd.prog Tryd.f3 [] false w args ∧ laidMetH Tryd.prog laidC w) ∧ sizedMet enc Tryd.prog Tryd.f3 (OpenSpec.ofChange Rows.tabularSpoiltSpec) false w args)
   (Rows.tabularSpoiltSpec.post enc Tryd.prog Tryd.f3 false true false false) := by
 refine returnsInHanded_of_change_and (C := Tryd.checked) (X := fun w _ => laidMetH Tryd.prog laidC w) (fun _ _ _ hh h => h.of_heap hh) row_own started (by kernel_rfl) Tryd.func3
  (ChangeSpec.witness_shaped (enc := enc) (C := Tryd.checked) (os := os) (X := fun w _ => laidMetH Tryd.prog laidC w) false (World.laidAll Tryd.prog os laidC) #[.slice none 0 0, .int .i64 0, .int .u32 0] 8 (World.laidAll_os _ _ _)
   (World.shaped_of_ZipB (by kernel_rfl) (by kernel_rfl)) (by kernel_rfl) (by kernel_rfl) (by kernel_rfl)
   (by rw [MakeChecks.laidMetH_plain _ _ _ (by kernel_rfl)]; exact laidMet_laidAll _ (by kernel_rfl) (by kernel_rfl))) ?_
 intro W base args ds gs before hval0 hW _ _ hL _
 have hval : ∀ (j : Nat) t v, Tryd.f3.params[j]? = some t → args[j]? = some v → Value.okWide Tryd.prog W .any base t v := hval0
 have hW' := hW
 obtain ⟨p, q, hA0, hV, rfl, hfz, hnd⟩ := hW
 have hA : DataW.TrodAll enc Tryd.prog W 0 (fun _ => true) true Tryd.f3.params.toList args.toList ds p := hA0
 obtain ⟨rfl, rfl⟩ := trodVars_none hV
 clear hA0 hval0
 simp only [List.append_nil] at hW'
 have hlt : ∀ x ∈ p, x.block < W.heap.size := fun x hx => by simpa using hW'.lt x hx
 obtain ⟨avs, hr, hok⟩ := open_args (P := Tryd.prog) (τs := [.sl .str, .int .i64, .int .u32]) (by kernel_rfl) hA fun j t v hj hj' => hval j t v (by simpa using hj) (by simpa using hj')
 have hlen : ds.length = 3 := (trod_len hA).trans (by kernel_rfl)
 obtain ⟨d0, d1, d2, rfl⟩ : ∃ d0 d1 d2, ds = [d0, d1, d2] := by
  match ds, hlen with
  | [d0, d1, d2], _ => exact ⟨d0, d1, d2, rfl⟩
 obtain ⟨args⟩ := args
 obtain ⟨_, _, rfl, ⟨xs, rfl, _, hxs⟩, _, _, rfl, ⟨a, rfl, _⟩, _, _, rfl, ⟨t, rfl, ht⟩, rfl⟩ := hok
 have hr' : Reps cSt W [.sl .shr (xs.map Ty.str.mk), .int .i64 a, .int .u32 t] args := by
  exact Reps.fixed (fun _ _ => stOf_fix) hr
 refine (calls_c (TabularSpoilt_at cSt_ck xs hxs a t ht) (c_sim hL) hr').mono fun e W' ⟨he, hw⟩ => ?_
 subst he
 refine ⟨_, rfl, _, _, _, [], p, [], hW', ?_, ?_, rfl, hw.below.frame _, fun h => by cases h⟩
 ·exact trodAll_mk1 (shut_bool (show Tryd.prog.underlying 4 = _ by kernel_rfl) _)
 ·exact below_all row_laid (by kernel_rfl) hA hw.below hlt
theorem TabularSpoilt_row : Rows.TabularSpoiltSaid :=
 OpenClaim.holds_of_wide 3 Tryd.f3 rfl rfl rfl rfl rfl rfl rfl ⟨rfl, rfl, rfl, rfl, rfl⟩ rfl rfl rfl rfl rfl (by kernel_rfl) Tryd.func3 (by kernel_rfl)
  (of_decide_eq_true (by kernel_rfl)) (by unfold Func.isWrapper; first | (rw [if_pos (by decide +kernel)]; kernel_rfl) | (rw [if_neg (by decide +kernel)]; exact ⟨rfl, rfl⟩))
  (fun os started H enc _ => TabularSpoilt_lifted os started H enc)
theorem TabularSpoilt_holds : Rows.TabularSpoiltCardSaid :=
 Claim7.holds_tied_plain_at .later [] [.data] true (true, "69e53189c74d68fa855e85748c333d67d7904ba4b6e1592e4b069e2628f5bd26") false
  TabularSpoilt_row (fun _ h => by cases h) (by kernel_rfl) (fun _ h => by cases h) tabularSpoilt_row_tie rfl ⟨rfl, rfl⟩ (by kernel_rfl) rfl
  (fun f fn hf hfn => by
   obtain rfl : f = 3 := (Option.some.inj ((show Tryd.prog.funcNamed "tabular/tabulartop.TabularSpoilt" = some 3 by kernel_rfl).symm.trans hf)).symm
   obtain rfl : fn = Tryd.f3 := (Option.some.inj (Tryd.func3.symm.trans hfn)).symm
   exact ⟨by kernel_rfl, fun j t ht => by
    have hm : t ∈ Tryd.f3.params.toList := by simpa using Array.mem_of_getElem? ht
    have hall : (Tryd.f3.params.toList.all fun u => !Tryd.prog.wantsStandIn u) = true := by kernel_rfl
    exact (show Tryd.prog.wantsStandIn t = false by simpa using List.all_eq_true.1 hall t hm)⟩)
  (by kernel_rfl)
#print axioms TabularSpoilt_holds
end Go.Proofs.YtkbomeigndfbhaaDoor
