/- PROVED: for every list of spans VintOrder returns true. No conditions. -/
import Derived.Test.YthkcifdjfoggeaaBn
import Derived.Test.YthkcifdjfoggeaaVb
import Derived.Test.YthkcifdjfoggeaaRows
namespace Go.Proofs.Ythkcifdjfoggeaa
open Go Go.ChangeShapes Go.WideShapes Go.ChangeAt Go.RowKit Go.A

theorem row_own : ownKnob Try.prog.godebug = none := by kernel_rfl
theorem row_laid : laidOutB Try.prog = true := by kernel_rfl
theorem spansAV_of {xs : List (List AV)} (h : ∀ x ∈ xs, (Ty.pair (.int .u64) (.pair (.int .u64) .unit)).ok x) : ∃ L, xs.map (Ty.pair (.int .u64) (.pair (.int .u64) .unit)).mk = L.map spanAV ∧ Go.Vint.BdS L := by
  induction xs with
  | nil => exact ⟨[], rfl, fun p hp => by simp at hp⟩
  | cons x xs ih =>
    obtain ⟨L, h1, h2⟩ := ih fun y hy => h y (by simp [hy])
    obtain ⟨a, b, rfl, ⟨m, rfl, hm⟩, ⟨c, d, rfl, ⟨k, rfl, hk⟩, rfl⟩⟩ := h x (by simp)
    refine ⟨(m, k) :: L, by simp only [List.map_cons, h1]; rfl, fun p hp => ?_⟩
    rcases List.mem_cons.1 hp with rfl | hp
    · simp [Lit.wf, IntKind.min, IntKind.max, IntKind.signed, IntKind.bits] at hm hk
      exact ⟨⟨by omega, by omega⟩, by omega, by omega⟩
    · exact h2 p hp
theorem VintOrder_ok (avs : List AV) (h : ArgsOk [.sl (.pair (.int .u64) (.pair (.int .u64) .unit))] avs) : ACalls Try.prog 5 avs noRole fun r _ => r = .bool true := by
  obtain ⟨cs, r, rfl, ⟨xs, rfl, hl, hx⟩, rfl⟩ := h
  obtain ⟨L, h1, h2⟩ := spansAV_of hx
  have hlen : L.length = xs.length := by simpa using (congrArg List.length h1).symm
  have e : (Ty.sl (.pair (.int .u64) (.pair (.int .u64) .unit))).mk [.sl .shr (xs.map (Ty.pair (.int .u64) (.pair (.int .u64) .unit)).mk)] = spansAV L := by rw [h1]; rfl
  rw [e]
  exact VintOrder_any L h2 (by unfold maxLen at hl; omega)
set_option maxRecDepth 100000 in
theorem VintOrder_lifted (os : Os) (started : os.Started) (H : Type) (enc : TypeId × Value → H) :
    ReturnsInHanded {} Try.checked os 5 .any (Rows.vintOrderSpec.pre6 enc Try.prog Try.f5 Rows.vintOrderRow.domain false) (Rows.vintOrderSpec.post enc Try.prog Try.f5 false true false false) := by
  refine returnsInHanded_of_change (C := Try.checked) row_own started (by kernel_rfl) Try.func5
    (ChangeSpec.witness6 (enc := enc) (C := Try.checked) false ⟨#[], #[.slice none 0 0], []⟩ 8 (by kernel_rfl) (by kernel_rfl) (by kernel_rfl) (by kernel_rfl)) ?_
  intro W base args ds gs before hval0 hW hcnd _
  have hval : ∀ (j : Nat) t v, Try.f5.params[j]? = some t → args[j]? = some v → Value.okWide Try.prog W .any base t v := hval0
  have hW' := hW
  obtain ⟨p, q, hA0, hV, rfl, hfz, hnd⟩ := hW
  have hA : DataW.TrodAll enc Try.prog W 0 (fun _ => true) true Try.f5.params.toList args.toList ds p := hA0
  obtain ⟨rfl, rfl⟩ := trodVars_none hV
  clear hA0 hval0
  simp only [List.append_nil] at hW'
  have hlt : ∀ x ∈ p, x.block < W.heap.size := fun x hx => by simpa using hW'.lt x hx
  obtain ⟨avs, hr, hok⟩ := open_args (P := Try.prog) (τs := [.sl (.pair (.int .u64) (.pair (.int .u64) .unit))]) (by kernel_rfl) hA fun j t v hj hj' => hval j t v (by simpa using hj) (by simpa using hj')
  have hlen : ds.length = 1 := (trod_len hA).trans (by kernel_rfl)
  obtain ⟨d0, rfl⟩ : ∃ d0, ds = [d0] := by
    match ds, hlen with
    | [d0], _ => exact ⟨d0, rfl⟩
  obtain ⟨args⟩ := args
  refine (calls_true (VintOrder_ok avs hok) hr).mono fun e W' ⟨he, hw⟩ => ?_
  subst he
  refine ⟨_, rfl, _, _, _, [], p, [], hW', ?_, ?_, rfl, hw.below.frame _, fun h => by cases h⟩
  · exact trodAll_mk1 (shut_bool (show Try.prog.underlying 4 = _ by kernel_rfl) _)
  · exact below_all row_laid (by kernel_rfl) hA hw.below hlt

theorem VintOrder_holds : Rows.VintOrderSaid :=
  OpenClaim.holds_of_wide 5 Try.f5 rfl rfl rfl rfl rfl rfl rfl ⟨rfl, rfl, rfl, rfl, rfl⟩ rfl rfl rfl rfl rfl (by kernel_rfl) Try.func5 (by kernel_rfl)
    (of_decide_eq_true (by kernel_rfl)) (by unfold Func.isWrapper; first | (rw [if_pos (by decide +kernel)]; kernel_rfl) | (rw [if_neg (by decide +kernel)]; exact ⟨rfl, rfl⟩))
    (fun os started H enc _ => VintOrder_lifted os started H enc)
#print axioms VintOrder_holds
end Go.Proofs.Ythkcifdjfoggeaa
