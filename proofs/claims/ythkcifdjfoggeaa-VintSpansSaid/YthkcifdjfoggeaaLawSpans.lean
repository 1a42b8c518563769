/- PROVED: for every list of numbers, every span and all further numbers VintSpans returns true. No conditions. -/
import Derived.Test.YthkcifdjfoggeaaVt
import Derived.Test.YthkcifdjfoggeaaVp
import Derived.Test.YthkcifdjfoggeaaRows
namespace Go.Proofs.Ythkcifdjfoggeaa
open Go Go.ChangeShapes Go.WideShapes Go.ChangeAt Go.RowKit Go.A

theorem row_own : ownKnob Try.prog.godebug = none := by kernel_rfl
theorem row_laid : laidOutB Try.prog = true := by kernel_rfl
theorem VintSpans_ok (avs : List AV) (h : ArgsOk [.sl (.int .u64), .pair (.int .u64) (.pair (.int .u64) .unit), .sl (.int .u64)] avs) : ACalls Try.prog 6 avs noRole fun r _ => r = .bool true := by
  obtain ⟨_, _, rfl, ⟨xs, rfl, hl, hx⟩, _, _, rfl, ⟨_, _, rfl, ⟨s1, rfl, w1⟩, _, _, rfl, ⟨s2, rfl, w2⟩, rfl⟩, _, _, rfl, ⟨ys, rfl, hl2, hy⟩, rfl⟩ := h
  obtain ⟨L, h1, h2, h3⟩ := u64s_of hx
  obtain ⟨M, k1, k2, k3⟩ := u64s_of hy
  have e : (Ty.sl (.int .u64)).mk [.sl .shr (xs.map (Ty.int .u64).mk)] = .sl .shr (L.map (AV.int .u64)) := by rw [h1]; rfl
  have e2 : (Ty.sl (.int .u64)).mk [.sl .shr (ys.map (Ty.int .u64).mk)] = .sl .shr (M.map (AV.int .u64)) := by rw [k1]; rfl
  rw [e, e2]
  exact VintSpans_any L (by unfold maxLen at hl; omega) h3 s1 s2 (wf_u64' w1).1 M (by unfold maxLen at hl2; omega) noRole
set_option maxRecDepth 100000 in
theorem VintSpans_lifted (os : Os) (started : os.Started) (H : Type) (enc : TypeId × Value → H) :
    ReturnsInHanded {} Try.checked os 6 .any (Rows.vintSpansSpec.pre6 enc Try.prog Try.f6 Rows.vintSpansRow.domain false) (Rows.vintSpansSpec.post enc Try.prog Try.f6 false true false false) := by
  refine returnsInHanded_of_change (C := Try.checked) row_own started (by kernel_rfl) Try.func6
    (ChangeSpec.witness6 (enc := enc) (C := Try.checked) false ⟨#[], #[.slice none 0 0, .agg #[.int .u64 0, .int .u64 0], .slice none 0 0], []⟩ 8 (by kernel_rfl) (by kernel_rfl) (by kernel_rfl) (by kernel_rfl)) ?_
  intro W base args ds gs before hval0 hW hcnd _
  have hval : ∀ (j : Nat) t v, Try.f6.params[j]? = some t → args[j]? = some v → Value.okWide Try.prog W .any base t v := hval0
  have hW' := hW
  obtain ⟨p, q, hA0, hV, rfl, hfz, hnd⟩ := hW
  have hA : DataW.TrodAll enc Try.prog W 0 (fun _ => true) true Try.f6.params.toList args.toList ds p := hA0
  obtain ⟨rfl, rfl⟩ := trodVars_none hV
  clear hA0 hval0
  simp only [List.append_nil] at hW'
  have hlt : ∀ x ∈ p, x.block < W.heap.size := fun x hx => by simpa using hW'.lt x hx
  obtain ⟨avs, hr, hok⟩ := open_args (P := Try.prog) (τs := [.sl (.int .u64), .pair (.int .u64) (.pair (.int .u64) .unit), .sl (.int .u64)]) (by kernel_rfl) hA fun j t v hj hj' => hval j t v (by simpa using hj) (by simpa using hj')
  have hlen : ds.length = 3 := (trod_len hA).trans (by kernel_rfl)
  obtain ⟨d0, d1, d2, rfl⟩ : ∃ d0 d1 d2, ds = [d0, d1, d2] := by
    match ds, hlen with
    | [d0, d1, d2], _ => exact ⟨d0, d1, d2, rfl⟩
  obtain ⟨args⟩ := args
  refine (calls_true (VintSpans_ok avs hok) hr).mono fun e W' ⟨he, hw⟩ => ?_
  subst he
  refine ⟨_, rfl, _, _, _, [], p, [], hW', ?_, ?_, rfl, hw.below.frame _, fun h => by cases h⟩
  · exact trodAll_mk1 (shut_bool (show Try.prog.underlying 4 = _ by kernel_rfl) _)
  · exact below_all row_laid (by kernel_rfl) hA hw.below hlt

theorem VintSpans_holds : Rows.VintSpansSaid :=
  OpenClaim.holds_of_wide 6 Try.f6 rfl rfl rfl rfl rfl rfl rfl ⟨rfl, rfl, rfl, rfl, rfl⟩ rfl rfl rfl rfl rfl (by kernel_rfl) Try.func6 (by kernel_rfl)
    (of_decide_eq_true (by kernel_rfl)) (by unfold Func.isWrapper; first | (rw [if_pos (by decide +kernel)]; kernel_rfl) | (rw [if_neg (by decide +kernel)]; exact ⟨rfl, rfl⟩))
    (fun os started H enc _ => VintSpans_lifted os started H enc)
#print axioms VintSpans_holds
end Go.Proofs.Ythkcifdjfoggeaa
