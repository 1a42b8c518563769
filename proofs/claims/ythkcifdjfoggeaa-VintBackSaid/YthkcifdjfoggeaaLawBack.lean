/- PROVED: for every list of things VintBack returns true. No conditions. -/
import Derived.Test.YthkcifdjfoggeaaVq
import Derived.Test.YthkcifdjfoggeaaVp
import Derived.Test.YthkcifdjfoggeaaRows
namespace Go.Proofs.Ythkcifdjfoggeaa
open Go Go.ChangeShapes Go.WideShapes Go.ChangeAt Go.RowKit Go.A

theorem row_own : ownKnob Try.prog.godebug = none := by kernel_rfl
theorem row_laid : laidOutB Try.prog = true := by kernel_rfl
theorem VintBack_ok (avs : List AV) (h : ArgsOk [.sl thingT] avs) : ACalls Try.prog 9 avs noRole fun r _ => r = .bool true := by
  obtain ⟨cs, r, rfl, ⟨xs, rfl, hl, hx⟩, rfl⟩ := h
  obtain ⟨L, h1, h2, h3⟩ := things_of hx
  have e : (Ty.sl thingT).mk [.sl .shr (xs.map thingT.mk)] = .sl .shr (L.map thingV) := by rw [h1]; rfl
  rw [e]
  exact VintBack_any L (by unfold maxLen at hl; omega) h3 noRole
set_option maxRecDepth 100000 in
theorem VintBack_lifted (os : Os) (started : os.Started) (H : Type) (enc : TypeId × Value → H) :
    ReturnsInHanded {} Try.checked os 9 .any (Rows.vintBackSpec.pre6 enc Try.prog Try.f9 Rows.vintBackRow.domain false) (Rows.vintBackSpec.post enc Try.prog Try.f9 false true false false) := by
  refine returnsInHanded_of_change (C := Try.checked) row_own started (by kernel_rfl) Try.func9
    (ChangeSpec.witness6 (enc := enc) (C := Try.checked) false ⟨#[], #[.slice none 0 0], []⟩ 8 (by kernel_rfl) (by kernel_rfl) (by kernel_rfl) (by kernel_rfl)) ?_
  intro W base args ds gs before hval0 hW hcnd _
  have hval : ∀ (j : Nat) t v, Try.f9.params[j]? = some t → args[j]? = some v → Value.okWide Try.prog W .any base t v := hval0
  have hW' := hW
  obtain ⟨p, q, hA0, hV, rfl, hfz, hnd⟩ := hW
  have hA : DataW.TrodAll enc Try.prog W 0 (fun _ => true) true Try.f9.params.toList args.toList ds p := hA0
  obtain ⟨rfl, rfl⟩ := trodVars_none hV
  clear hA0 hval0
  simp only [List.append_nil] at hW'
  have hlt : ∀ x ∈ p, x.block < W.heap.size := fun x hx => by simpa using hW'.lt x hx
  obtain ⟨avs, hr, hok⟩ := open_args (P := Try.prog) (τs := [.sl thingT]) (by kernel_rfl) hA fun j t v hj hj' => hval j t v (by simpa using hj) (by simpa using hj')
  have hlen : ds.length = 1 := (trod_len hA).trans (by kernel_rfl)
  obtain ⟨d0, rfl⟩ : ∃ d0, ds = [d0] := by
    match ds, hlen with
    | [d0], _ => exact ⟨d0, rfl⟩
  obtain ⟨args⟩ := args
  refine (calls_true (VintBack_ok avs hok) hr).mono fun e W' ⟨he, hw⟩ => ?_
  subst he
  refine ⟨_, rfl, _, _, _, [], p, [], hW', ?_, ?_, rfl, hw.below.frame _, fun h => by cases h⟩
  · exact trodAll_mk1 (shut_bool (show Try.prog.underlying 4 = _ by kernel_rfl) _)
  · exact below_all row_laid (by kernel_rfl) hA hw.below hlt

theorem VintBack_holds : Rows.VintBackSaid :=
  OpenClaim.holds_of_wide 9 Try.f9 rfl rfl rfl rfl rfl rfl rfl ⟨rfl, rfl, rfl, rfl, rfl⟩ rfl rfl rfl rfl rfl (by kernel_rfl) Try.func9 (by kernel_rfl)
    (of_decide_eq_true (by kernel_rfl)) (by unfold Func.isWrapper; first | (rw [if_pos (by decide +kernel)]; kernel_rfl) | (rw [if_neg (by decide +kernel)]; exact ⟨rfl, rfl⟩))
    (fun os started H enc _ => VintBack_lifted os started H enc)
#print axioms VintBack_holds
end Go.Proofs.Ythkcifdjfoggeaa
