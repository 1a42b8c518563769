/- Itoa, for the abstract walk. -/
import Derived.Test.YtkfcfpnkgljdmaaDoorWz
namespace Go.A
open Go.Proofs
theorem itoa_ok {σ : ASt} (h : Tab σ) {n : Int} (h0 : -9223372036854775808 ≤ n) (h1 : n ≤ 9223372036854775807) : ACalls Tryd.prog 47 [.int .i64 n] σ fun v σ' => v = .str (Lib.itoa n) ∧ σ' = σ := by
  refine ACalls.of_ext (u := .string ⟨(Lib.itoa n).toArray⟩) (fun w vs hs ha => ?_) fun w => .str _
  cases ha with
  | cons h2 h3 =>
    cases h2; cases h3
    refine (Tryd.strconv_Itoa n h0 h1 w (tabIs_of hs (by kernel_rfl) h)).mono ?_
    rintro e w' ⟨he, k, os, rfl⟩
    exact ⟨he, ext_grow w k os⟩
end Go.A
