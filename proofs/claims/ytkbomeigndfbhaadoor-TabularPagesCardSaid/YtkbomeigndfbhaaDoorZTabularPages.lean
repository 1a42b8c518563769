/- PROVED: for any lists of numbers and any numbers TabularPages returns true. Condition: the listed variables (the library's tables, the table of check) are laid as their text lays them (the card ties them). -/
import Derived.Test.YtkbomeigndfbhaaDoorCards
import Derived.Test.YtkbomeigndfbhaaDoorTie
import Derived.Test.YtkbomeigndfbhaaDoorZTabularPagesg
set_option linter.defProp false
set_option linter.unusedSimpArgs false
set_option linter.unusedVariables false
set_option maxRecDepth 100000
namespace Go.Proofs.YtkbomeigndfbhaaDoor
open Go Go.ChangeShapes Go.WideShapes Go.ChangeAt Go.RowKit Go.A
theorem ints_of : ∀ xs : List (List AV), (∀ x ∈ xs, (Ty.int .i64).ok x) → ∃ L : List Int, xs.map (Ty.int .i64).mk = L.map (AV.int .i64)
 | [], _ => ⟨[], rfl⟩
 | x :: xs, h => by
   obtain ⟨L, hL⟩ := ints_of xs fun y hy => h y (List.mem_cons_of_mem _ hy)
   obtain ⟨s, rfl, _⟩ := h x List.mem_cons_self
   exact ⟨s :: L, by rw [List.map_cons, hL]; rfl⟩
theorem lists_of : ∀ xs : List (List AV), (∀ x ∈ xs, (Ty.sl (.int .i64)).ok x) → ∃ L : List (List Int), xs.map (Ty.sl (.int .i64)).mk = L.map decsV
 | [], _ => ⟨[], rfl⟩
 | x :: xs, h => by
   obtain ⟨L, hL⟩ := lists_of xs fun y hy => h y (List.mem_cons_of_mem _ hy)
   obtain ⟨ys, rfl, _, hys⟩ := h x List.mem_cons_self
   obtain ⟨l, hl⟩ := ints_of ys hys
   refine ⟨l :: L, ?_⟩
   rw [List.map_cons, hL, List.map_cons]
   congr 1
   show AV.sl .shr (ys.map (Ty.int .i64).mk) = decsV l
   rw [hl]
   rfl
theorem TabularPages_at {σ : ASt} (hT : CkT σ) (hTab : Tab σ) (xs ys : List (List AV)) (hxs : ∀ x ∈ xs, (Ty.sl (.int .i64)).ok x) (hys : ∀ y ∈ ys, (Ty.int .i64).ok y) :
  ACalls Tryd.prog 4 [.sl .shr (xs.map (Ty.sl (.int .i64)).mk), .sl .shr (ys.map (Ty.int .i64).mk)] σ fun v σ' => v = .bool true ∧ σ' = σ := by
 obtain ⟨L, hL⟩ := lists_of xs hxs
 obtain ⟨G, hG⟩ := ints_of ys hys
 rw [hL, hG]
 exact TabularPages_any hT hTab L G
set_option maxHeartbeats 1000000 in
theorem TabularPages_lifted (os : Os) (started : os.Started) (H : Type) (enc : TypeId × Value → H) :
  ReturnsInHanded {} Tryd.checked os 4 .any (fun w args => (Rows.tabularPagesSpec.pre enc Tryd.prog Tryd.f4 [] false w args ∧ laidMetH Tryd.prog laidP w) ∧ sizedMet enc Tryd.prog Tryd.f4 (OpenSpec.ofChange Rows.tabularPagesSpec) false w args)
   (Rows.tabularPagesSpec.post enc Tryd.prog Tryd.f4 false true false false) := by
 refine returnsInHanded_of_change_and (C := Tryd.checked) (X := fun w _ => laidMetH Tryd.prog laidP w) (fun _ _ _ hh h => h.of_heap hh) row_own started (by kernel_rfl) Tryd.func4
  (ChangeSpec.witness_shaped (enc := enc) (C := Tryd.checked) (os := os) (X := fun w _ => laidMetH Tryd.prog laidP w) false (World.laidAll Tryd.prog os laidP) #[.slice none 0 0, .slice none 0 0] 8 (World.laidAll_os _ _ _)
   (World.shaped_of_ZipB (by kernel_rfl) (by kernel_rfl)) (by kernel_rfl) (by kernel_rfl) (by kernel_rfl)
   (by rw [MakeChecks.laidMetH_plain _ _ _ (by kernel_rfl)]; exact laidMet_laidAll _ (by kernel_rfl) (by kernel_rfl))) ?_
 intro W base args ds gs before hval0 hW _ _ hL _
 have hval : ∀ (j : Nat) t v, Tryd.f4.params[j]? = some t → args[j]? = some v → Value.okWide Tryd.prog W .any base t v := hval0
 have hW' := hW
 obtain ⟨p, q, hA0, hV, rfl, hfz, hnd⟩ := hW
 have hA : DataW.TrodAll enc Tryd.prog W 0 (fun _ => true) true Tryd.f4.params.toList args.toList ds p := hA0
 obtain ⟨rfl, rfl⟩ := trodVars_none hV
 clear hA0 hval0
 simp only [List.append_nil] at hW'
 have hlt : ∀ x ∈ p, x.block < W.heap.size := fun x hx => by simpa using hW'.lt x hx
 obtain ⟨avs, hr, hok⟩ := open_args (P := Tryd.prog) (τs := [.sl (.sl (.int .i64)), .sl (.int .i64)]) (by kernel_rfl) hA fun j t v hj hj' => hval j t v (by simpa using hj) (by simpa using hj')
 have hlen : ds.length = 2 := (trod_len hA).trans (by kernel_rfl)
 obtain ⟨d0, d1, rfl⟩ : ∃ d0 d1, ds = [d0, d1] := by
  match ds, hlen with
  | [d0, d1], _ => exact ⟨d0, d1, rfl⟩
 obtain ⟨args⟩ := args
 obtain ⟨_, _, rfl, ⟨xs, rfl, _, hxs⟩, _, _, rfl, ⟨ys, rfl, _, hys⟩, rfl⟩ := hok
 have hr' : Reps pSt W [.sl .shr (xs.map (Ty.sl (.int .i64)).mk), .sl .shr (ys.map (Ty.int .i64).mk)] args := by
  exact Reps.fixed (fun _ _ => stOf_fix) hr
 refine (calls_p (TabularPages_at pSt_ck pSt_tab xs ys hxs hys) (p_sim hL) hr').mono fun e W' ⟨he, hw⟩ => ?_
 subst he
 refine ⟨_, rfl, _, _, _, [], p, [], hW', ?_, ?_, rfl, hw.below.frame _, fun h => by cases h⟩
 ·exact trodAll_mk1 (shut_bool (show Tryd.prog.underlying 4 = _ by kernel_rfl) _)
 ·exact below_all row_laid (by kernel_rfl) hA hw.below hlt
theorem TabularPages_row : Rows.TabularPagesSaid :=
 OpenClaim.holds_of_wide 4 Tryd.f4 rfl rfl rfl rfl rfl rfl rfl ⟨rfl, rfl, rfl, rfl, rfl⟩ rfl rfl rfl rfl rfl (by kernel_rfl) Tryd.func4 (by kernel_rfl)
  (of_decide_eq_true (by kernel_rfl)) (by unfold Func.isWrapper; first | (rw [if_pos (by decide +kernel)]; kernel_rfl) | (rw [if_neg (by decide +kernel)]; exact ⟨rfl, rfl⟩))
  (fun os started H enc _ => TabularPages_lifted os started H enc)
theorem TabularPages_holds : Rows.TabularPagesCardSaid :=
 Claim7.holds_tied_plain_at .later [] [.data, .data, .data, .data, .data, .pinned] true (true, "69e53189c74d68fa855e85748c333d67d7904ba4b6e1592e4b069e2628f5bd26") false
  TabularPages_row (fun _ h => by cases h) (by kernel_rfl) (fun _ h => by cases h) tabularPages_row_tie rfl ⟨rfl, rfl⟩ (by kernel_rfl) rfl
  (fun f fn hf hfn => by
   obtain rfl : f = 4 := (Option.some.inj ((show Tryd.prog.funcNamed "tabular/tabulartop.TabularPages" = some 4 by kernel_rfl).symm.trans hf)).symm
   obtain rfl : fn = Tryd.f4 := (Option.some.inj (Tryd.func4.symm.trans hfn)).symm
   exact ⟨by kernel_rfl, fun j t ht => by
    have hm : t ∈ Tryd.f4.params.toList := by simpa using Array.mem_of_getElem? ht
    have hall : (Tryd.f4.params.toList.all fun u => !Tryd.prog.wantsStandIn u) = true := by kernel_rfl
    exact (show Tryd.prog.wantsStandIn t = false by simpa using List.all_eq_true.1 hall t hm)⟩)
  (by kernel_rfl)
#print axioms TabularPages_holds
end Go.Proofs.YtkbomeigndfbhaaDoor
