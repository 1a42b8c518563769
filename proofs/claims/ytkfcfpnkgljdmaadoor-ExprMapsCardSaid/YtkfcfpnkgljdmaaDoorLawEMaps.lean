/- PROVED: for any parts and any cell ExprMaps returns true. Condition: the listed variables (the library's tables) are laid as their text lays them (the card ties them). -/
import Derived.Test.YtkfcfpnkgljdmaaDoorEl
import Derived.Test.YtkfcfpnkgljdmaaDoorMw
import Derived.Test.YtkfcfpnkgljdmaaDoorCards
import Derived.Test.YtkfcfpnkgljdmaaDoorTie
namespace Go.Proofs.YtkfcfpnkgljdmaaDoor
open Go Go.ChangeShapes Go.WideShapes Go.ChangeAt Go.RowKit Go.A
set_option maxRecDepth 100000
/-- A cell's place, a part, as types. -/
def refTy : Ty := .pair (.int .i64) (.pair (.int .i64) (.pair .bool (.pair .bool .unit)))
def partTy : Ty := .pair (.int .i64) (.pair (.int .i64) (.pair .str (.pair refTy (.pair refTy .unit))))
theorem parts_of : ∀ xs : List (List AV), (∀ x ∈ xs, partTy.ok x) → ∃ L : List Pt, xs.map partTy.mk = L.map Pt.av
  | [], _ => ⟨[], rfl⟩
  | x :: xs, h => by
    obtain ⟨L, hL⟩ := parts_of xs fun y hy => h y (List.mem_cons_of_mem _ hy)
    obtain ⟨_, _, rfl, ⟨o, rfl, _⟩, _, _, rfl, ⟨n, rfl, _⟩, _, _, rfl, ⟨s, rfl, _⟩, _, _, rfl, ⟨_, _, rfl, ⟨r1, rfl, _⟩, _, _, rfl, ⟨c1, rfl, _⟩, _, _, rfl, ⟨p1, rfl⟩, _, _, rfl, ⟨q1, rfl⟩, rfl⟩, _, _, rfl, ⟨_, _, rfl, ⟨r2, rfl, _⟩, _, _, rfl, ⟨c2, rfl, _⟩, _, _, rfl, ⟨p2, rfl⟩, _, _, rfl, ⟨q2, rfl⟩, rfl⟩, rfl⟩ := h x List.mem_cons_self
    exact ⟨⟨o, n, s, ⟨r1, c1, p1, q1⟩, ⟨r2, c2, p2, q2⟩⟩ :: L, by rw [List.map_cons, hL]; rfl⟩
theorem ExprMaps_at {σ : ASt} (hT : Tab σ) (hM : MaxL σ) (xs : List (List AV)) (hxs : ∀ x ∈ xs, partTy.ok x) (r c : Int) (p q : Bool) :
    ACalls Tryd.prog 4 [.sl .shr (xs.map partTy.mk), .agg [.int .i64 r, .int .i64 c, .bool p, .bool q]] σ fun v σ' => v = .bool true ∧ σ' = σ := by
  obtain ⟨L, hL⟩ := parts_of xs hxs
  rw [hL]
  exact ExprMaps_any hT hM L ⟨r, c, p, q⟩
set_option maxHeartbeats 1000000 in
theorem ExprMaps_lifted (os : Os) (started : os.Started) (H : Type) (enc : TypeId × Value → H) :
    ReturnsInHanded {} Tryd.checked os 4 .any (fun w args => (Rows.exprMapsSpec.pre enc Tryd.prog Tryd.f4 [] false w args ∧ laidMetH Tryd.prog laidV w) ∧ sizedMet enc Tryd.prog Tryd.f4 (OpenSpec.ofChange Rows.exprMapsSpec) false w args)
      (Rows.exprMapsSpec.post enc Tryd.prog Tryd.f4 false true false false) := by
  refine A.returnsInHanded_and_shaped (C := Tryd.checked) (X := fun w _ => laidMetH Tryd.prog laidV w) (fun _ _ _ hh h => h.of_heap hh) row_own started (by kernel_rfl) Tryd.func4
    (ChangeSpec.witness_shaped (enc := enc) (C := Tryd.checked) (os := os) (X := fun w _ => laidMetH Tryd.prog laidV w) false (World.laidAll Tryd.prog os laidV) #[.slice none 0 0, .agg #[.int .i64 0, .int .i64 0, .bool false, .bool false]] 8 (World.laidAll_os _ _ _)
      (World.shaped_of_ZipB (by kernel_rfl) (by kernel_rfl)) (by kernel_rfl) (by kernel_rfl) (by kernel_rfl)
      (by rw [MakeChecks.laidMetH_plain _ _ _ (by kernel_rfl)]; exact laidMet_laidAll _ (by kernel_rfl) (by kernel_rfl))) ?_
  intro W base args ds gs before hval0 hW hsh hL
  obtain ⟨m, hqs⟩ := w_sim hsh hL
  have hval : ∀ (j : Nat) t v, Tryd.f4.params[j]? = some t → args[j]? = some v → Value.okWide Tryd.prog W .any base t v := hval0
  have hW' := hW
  obtain ⟨p, q, hA0, hV, rfl, hfz, hnd⟩ := hW
  have hA : DataW.TrodAll enc Tryd.prog W 0 (fun _ => true) true Tryd.f4.params.toList args.toList ds p := hA0
  obtain ⟨rfl, rfl⟩ := trodVars_none hV
  clear hA0 hval0
  simp only [List.append_nil] at hW'
  have hlt : ∀ x ∈ p, x.block < W.heap.size := fun x hx => by simpa using hW'.lt x hx
  obtain ⟨avs, hr, hok⟩ := open_args (P := Tryd.prog) (τs := [.sl partTy, refTy]) (by kernel_rfl) hA fun j t v hj hj' => hval j t v (by simpa using hj) (by simpa using hj')
  have hlen : ds.length = 2 := (trod_len hA).trans (by kernel_rfl)
  obtain ⟨d0, d1, rfl⟩ : ∃ d0 d1, ds = [d0, d1] := by
    match ds, hlen with
    | [d0, d1], _ => exact ⟨d0, d1, rfl⟩
  obtain ⟨args⟩ := args
  obtain ⟨_, _, rfl, ⟨xs, rfl, _, hxs⟩, _, _, rfl, ⟨_, _, rfl, ⟨r, rfl, _⟩, _, _, rfl, ⟨c, rfl, _⟩, _, _, rfl, ⟨p1, rfl⟩, _, _, rfl, ⟨q1, rfl⟩, rfl⟩, rfl⟩ := hok
  have hr' : Reps (wSt m) W [.sl .shr (xs.map partTy.mk), .agg [.int .i64 r, .int .i64 c, .bool p1, .bool q1]] args := by
    exact Reps.fixed (fun _ _ => wSt_fix) hr
  refine (calls_w (ExprMaps_at (wSt_tab m) (wSt_max m) xs hxs r c p1 q1) hqs hr').mono fun e W' ⟨he, hw⟩ => ?_
  subst he
  refine ⟨_, rfl, _, _, _, [], p, [], hW', ?_, ?_, rfl, hw.below.frame _, fun h => by cases h⟩
  · exact trodAll_mk1 (shut_bool (show Tryd.prog.underlying 4 = _ by kernel_rfl) _)
  · exact below_all row_laid (by kernel_rfl) hA hw.below hlt

theorem ExprMaps_row : Rows.ExprMapsSaid :=
  OpenClaim.holds_of_wide 4 Tryd.f4 rfl rfl rfl rfl rfl rfl rfl ⟨rfl, rfl, rfl, rfl, rfl⟩ rfl rfl rfl rfl rfl (by kernel_rfl) Tryd.func4 (by kernel_rfl)
    (of_decide_eq_true (by kernel_rfl)) (by unfold Func.isWrapper; first | (rw [if_pos (by decide +kernel)]; kernel_rfl) | (rw [if_neg (by decide +kernel)]; exact ⟨rfl, rfl⟩))
    (fun os started H enc _ => ExprMaps_lifted os started H enc)
/-- The tied card. -/
theorem ExprMaps_holds : Rows.ExprMapsCardSaid :=
  Claim7.holds_tied_plain_at .later [] [.data, .data, .data, .data, .pinned] true (true, "c42d984dc88841aea5351ca8ca9f2b1ed1a8552b68f7f4e12ddd4ea9610d49b3") false
    ExprMaps_row (fun _ h => by cases h) (by kernel_rfl) (fun _ h => by cases h) exprMaps_row_tie rfl ⟨rfl, rfl⟩ (by kernel_rfl) rfl
    (fun f fn hf hfn => by
      obtain rfl : f = 4 := (Option.some.inj ((show Tryd.prog.funcNamed "tabular/tabularlaw12.ExprMaps" = some 4 by kernel_rfl).symm.trans hf)).symm
      obtain rfl : fn = Tryd.f4 := (Option.some.inj (Tryd.func4.symm.trans hfn)).symm
      exact ⟨by kernel_rfl, fun j t ht => by
        have hm : t ∈ Tryd.f4.params.toList := by simpa using Array.mem_of_getElem? ht
        have hall : (Tryd.f4.params.toList.all fun u => !Tryd.prog.wantsStandIn u) = true := by kernel_rfl
        exact (show Tryd.prog.wantsStandIn t = false by simpa using List.all_eq_true.1 hall t hm)⟩)
    (by kernel_rfl)
#print axioms ExprMaps_holds
end Go.Proofs.YtkfcfpnkgljdmaaDoor
