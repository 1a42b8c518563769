/- Things, out of a row's arguments. -/
import Derived.Test.YthkcifdjfoggeaaVn
namespace Go.A
open Go.Proofs Go.Vint
set_option linter.unusedSimpArgs false
set_option linter.unusedVariables false
def thingT : Ty := .pair (.int .i64) (.pair (.int .i64) (.pair (.int .u64) (.pair .str (.pair (.sl (.int .u64)) .unit))))
theorem u64s_of {xs : List (List AV)} (h : ∀ x ∈ xs, (Ty.int .u64).ok x) : ∃ L : List Int, xs.map (Ty.int .u64).mk = L.map (AV.int .u64) ∧ L.length = xs.length ∧ ∀ x ∈ L, 0 ≤ x ∧ x ≤ 18446744073709551615 := by
  induction xs with
  | nil => exact ⟨[], rfl, rfl, by simp⟩
  | cons x xs ih =>
    obtain ⟨L, h1, h2, h3⟩ := ih fun y hy => h y (by simp [hy])
    obtain ⟨m, rfl, hm⟩ := h x (by simp)
    refine ⟨m :: L, by simp only [List.map_cons, h1]; rfl, by simp [h2], fun y hy => ?_⟩
    rcases List.mem_cons.1 hy with rfl | hy
    · exact wf_u64' hm
    · exact h3 y hy
theorem thing_of {cs : List AV} (h : thingT.ok cs) : ∃ t : Thing, thingT.mk cs = thingV t ∧ t.ok := by
  obtain ⟨_, _, rfl, ⟨kind, rfl, w1⟩, _, _, rfl, ⟨n, rfl, w2⟩, _, _, rfl, ⟨u, rfl, w3⟩, _, _, rfl, ⟨s, rfl, w4⟩, _, _, rfl, ⟨xs, rfl, hl, hx⟩, rfl⟩ := h
  obtain ⟨L, h1, h2, h3⟩ := u64s_of hx
  refine ⟨⟨kind, n, u, s, L⟩, ?_, ⟨(wf_i64' w2).1, (wf_i64' w2).2, (wf_u64' w3).1, (wf_u64' w3).2, ?_, h3⟩⟩
  · simp only [thingV, h1.symm]; rfl
  · dsimp only; unfold maxLen at hl; omega
theorem things_of {xs : List (List AV)} (h : ∀ x ∈ xs, thingT.ok x) : ∃ L : List Thing, xs.map thingT.mk = L.map thingV ∧ L.length = xs.length ∧ ∀ t ∈ L, t.ok := by
  induction xs with
  | nil => exact ⟨[], rfl, rfl, by simp⟩
  | cons x xs ih =>
    obtain ⟨L, h1, h2, h3⟩ := ih fun y hy => h y (by simp [hy])
    obtain ⟨t, ht1, ht2⟩ := thing_of (h x (by simp))
    refine ⟨t :: L, by simp only [List.map_cons, h1, ht1], by simp [h2], fun y hy => ?_⟩
    rcases List.mem_cons.1 hy with rfl | hy
    · exact ht2
    · exact h3 y hy
end Go.A
