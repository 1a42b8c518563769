/- More words for walks: a cut between two parts; a loop that lays no role down; freshness. -/
import Derived.Test.YtfjnahkcfdcbeaaBn
namespace Go.A
set_option linter.unusedSimpArgs false
set_option linter.unusedVariables false
section
variable {P : Program} {Q : APost} {a : AFr} {σ σ0 : ASt}

/-- What holds between two parts. -/
theorem wp_cut {x y : ACode} (M : AFr → ASt → Prop) (h1 : x.wp P (SeqQ (fun _ => M) Q) a σ) (h2 : ∀ a σ, M a σ → y.wp P Q a σ) : ACode.wp P (.seq x y) Q a σ := by
  rw [wp_seq']
  refine ACode.wp_mono P x _ _ (fun e a σ h => ?_) a σ h1
  cases e with
  | normal => exact h2 a σ h
  | exit i => exact h
  | ret => exact h
/-- A part that leaves the roles. -/
theorem wp_cutS {x y : ACode} (M : AFr → Prop) (h1 : x.wp P (SeqQ (fun _ a' σ' => M a' ∧ σ' = σ) Q) a σ) (h2 : ∀ a, M a → y.wp P Q a σ) : ACode.wp P (.seq x y) Q a σ :=
  wp_cut (fun a' σ' => M a' ∧ σ' = σ) h1 fun a' σ' ⟨h, he⟩ => by subst he; exact h2 a' h
/-- A loop whose rounds lay no role down. -/
theorem wp_loop_on {ι : Type} {x : ACode} (I : ι → AFr → ASt → Prop) (μ : ι → Nat) (i0 : ι) (h0 : I i0 a σ) (round : ∀ i a σ, I i a σ → x.wp P (LoopQ (fun a σ => ∃ j, μ j < μ i ∧ I j a σ) Q) a σ) : ACode.wp P (.loop x) Q a σ := by
  refine wp_loop_by I μ i0 (Dr.now h0) fun i a σ hI => ?_
  refine ACode.wp_mono P x _ _ (fun e a σ h => ?_) a σ (round i a σ hI)
  cases e with
  | normal =>
    obtain ⟨j, hj, h⟩ := h
    exact ⟨j, hj, Dr.now h⟩
  | exit i => exact h
  | ret => exact h
theorem Pure.ret {f : FuncId} {args : List AV} {r v : AV} (h : Pure P f args v) (he : v = r) : Pure P f args r := he ▸ h
theorem set_swap {b c : Nat} {r q : Option Role} (h : b ≠ c) : (σ.set b r).set c q = (σ.set c q).set b r := by
  funext x
  simp only [ASt.set]
  by_cases h1 : x = b
  · subst h1; simp [h]
  · by_cases h2 : x = c
    · subst h2; simp [h1]
    · simp [h1, h2]
end
theorem wf_i64' {n : Int} (h : (Lit.int .i64 n).wf = true) : -9223372036854775808 ≤ n ∧ n ≤ 9223372036854775807 := by
  simp [Lit.wf, IntKind.min, IntKind.max, IntKind.signed, IntKind.bits] at h
  omega
theorem wf_u64' {n : Int} (h : (Lit.int .u64 n).wf = true) : 0 ≤ n ∧ n ≤ 18446744073709551615 := by
  simp [Lit.wf, IntKind.min, IntKind.max, IntKind.signed, IntKind.bits] at h
  omega
end Go.A
