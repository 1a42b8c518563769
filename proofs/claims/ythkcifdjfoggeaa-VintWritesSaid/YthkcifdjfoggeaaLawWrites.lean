/- The law VintWrites: its row. -/
import Derived.Test.YthkcifdjfoggeaaOpen
namespace Go.Proofs.Ythkcifdjfoggeaa
open Go.ChangeShapes Go.WideShapes Go.ChangeAt Go.RowKit Go.Vint
open Go.ChangeMaps (open_string shut_string)

theorem Try.own : ownKnob Try.prog.godebug = none := by kernel_rfl
theorem Try.laidOut : laidOutB Try.prog = true := by kernel_rfl

def thingType : ThingType Try.prog 31 where
  F0 := _
  F1 := _
  F2 := _
  F3 := _
  F4 := _
  eU := _
  hT := Try.underlying31
  o0 := rfl
  o1 := rfl
  o2 := rfl
  o3 := rfl
  o4 := rfl
  u0 := Try.underlying3
  u1 := Try.underlying3
  u2 := Try.underlying28
  u3 := Try.underlying9
  u4 := Try.underlying29
  ue := Try.underlying28
  c0 := by kernel_rfl
  c1 := by kernel_rfl
  c2 := by kernel_rfl
  c3 := by kernel_rfl
  c4 := by kernel_rfl
  ce := by kernel_rfl
  cT := by kernel_rfl

set_option maxRecDepth 100000 in
theorem VintWrites_lifted (os : Os) (started : os.Started) (H : Type) (enc : TypeId × Value → H) :
    ReturnsInHanded {} Try.checked os 3 .any (Rows.vintWritesSpec.pre6 enc Try.prog Try.f3 Rows.vintWritesRow.domain false) (Rows.vintWritesSpec.post enc Try.prog Try.f3 false true false false) := by
  refine returnsInHanded_of_change (C := Try.checked) Try.own started (by kernel_rfl) Try.func3
    (ChangeSpec.witness6 (enc := enc) (C := Try.checked) false ⟨#[], #[.slice none 0 0], []⟩ 8 (by kernel_rfl) (by kernel_rfl) (by kernel_rfl) (by kernel_rfl)) ?_
  intro W base args ds gs before hval0 hW hcnd _
  have hval : ∀ (j : Nat) t v, Try.f3.params[j]? = some t → args[j]? = some v → Value.okWide Try.prog W .any base t v := hval0
  have hW' := hW
  obtain ⟨p, q, hA0, hV, rfl, hfz, hnd⟩ := hW
  have hA : DataW.TrodAll enc Try.prog W 0 (fun _ => true) true Try.f3.params.toList args.toList ds p := hA0
  rw [Try.params3] at hA hval
  obtain ⟨v0, d0, rfl, rfl, h0⟩ := trodAll_one hA
  obtain ⟨rfl, rfl⟩ := trodVars_none hV
  clear hA0 hval0
  simp only [List.append_nil] at hW'
  have hlt : ∀ x ∈ p, x.block < W.heap.size := fun x hx => by simpa using hW'.lt x hx
  have h0k := h0
  obtain ⟨a0, l0, c0, rfl⟩ := okWide_slice Try.underlying22 (hval 0 22 v0 rfl rfl)
  obtain ⟨fuel, hf⟩ := h0
  obtain ⟨A, c, Ts, hv, hR, hT⟩ := open_things thingType Try.underlying22 (by simpa [Value.cells] using hf)
  rw [hv] at h0k hW' ⊢
  refine (VintWrites_any A c Ts W hR hT).mono fun e W' ⟨he, hw⟩ => ?_
  subst he
  refine ⟨_, rfl, _, _, _, [], p, [], hW', ?_, ?_, rfl, hw.below.frame _, fun h => by cases h⟩
  · exact trodAll_mk1 (shut_bool Try.underlying4 _)
  · exact trodAll_mk1 (Below.trod Try.laidOut (by kernel_rfl) (of_decide_eq_true (by kernel_rfl)) h0k hw.below hlt)

theorem VintWrites_holds : Rows.VintWritesSaid :=
  OpenClaim.holds_of_wide 3 Try.f3 rfl rfl rfl rfl rfl rfl rfl ⟨rfl, rfl, rfl, rfl, rfl⟩ rfl rfl rfl rfl rfl (by kernel_rfl) Try.func3 (by kernel_rfl)
    (of_decide_eq_true (by kernel_rfl)) (by unfold Func.isWrapper; first | (rw [if_pos (by decide +kernel)]; kernel_rfl) | (rw [if_neg (by decide +kernel)]; exact ⟨rfl, rfl⟩))
    (fun os started H enc _ => VintWrites_lifted os started H enc)
#print axioms VintWrites_holds
end Go.Proofs.Ythkcifdjfoggeaa
