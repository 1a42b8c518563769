/- Decimals walked: sizes, sums, quotients, rounding. -/
import Derived.Test.YtkfcfpnkgljdmaaDoorHc
import Derived.Test.YtkfcfpnkgljdmaaDoorCodeH
namespace Go.A
open Go.Proofs
set_option maxRecDepth 100000
set_option linter.unusedSimpArgs false
set_option linter.unusedVariables false

/-- A number that there is, or isn't. -/
def resAV (o : Option Int) : AV := .tuple [.int .i64 (o.getD 0), .bool o.isSome]
theorem size_ok (a : Int) (h0 : -9223372036854775808 ≤ a) (h1 : a ≤ 9223372036854775807) : Pure Tryd.prog 39 [.int .i64 a] (.int .u64 (a.natAbs : Nat)) := by
  intro σ
  refine a39 (by simp) ?_
  by_cases h : a < 0
  · have e : IntKind.u64.wrap (IntKind.i64.wrap (0 - a)) = ((a.natAbs : Nat) : Int) := by rw [IntKind.wrap_u64, IntKind.wrap_i64]; omega
    simp (disch := first | assumption | omega | (simp only [List.length_append, List.length_cons, List.length_nil]; omega)) only [go_sem, reduceCtorEq, Nat.reduceEqDiff, Nat.reduceAdd, Nat.reduceSub, Nat.reduceMul, Nat.reduceLeDiff, Int.reduceLT, Int.reduceLE, Int.reduceEq, ↓reduceIte, Int.reduceNeg, Int.reduceAdd, Int.reduceSub, Int.reduceMul, true_imp_iff, forall_const, Nat.mul_one, Int.reduceToNat, Nat.reducePow, Int.reducePow, Bool.true_and, Bool.false_and, Bool.and_false, h, e]
    exact retC_by (by repeat' (first | exact Drop.refl _ | with_reducible refine Drop.off ?_ (by assumption))) (.refl _) ⟨rfl, rfl⟩
  · have e : IntKind.u64.wrap a = ((a.natAbs : Nat) : Int) := by rw [IntKind.wrap_u64]; omega
    simp (disch := first | assumption | omega | (simp only [List.length_append, List.length_cons, List.length_nil]; omega)) only [go_sem, reduceCtorEq, Nat.reduceEqDiff, Nat.reduceAdd, Nat.reduceSub, Nat.reduceMul, Nat.reduceLeDiff, Int.reduceLT, Int.reduceLE, Int.reduceEq, ↓reduceIte, Int.reduceNeg, Int.reduceAdd, Int.reduceSub, Int.reduceMul, true_imp_iff, forall_const, Nat.mul_one, Int.reduceToNat, Nat.reducePow, Int.reducePow, Bool.true_and, Bool.false_and, Bool.and_false, h, e]
    exact retC_by (by repeat' (first | exact Drop.refl _ | with_reducible refine Drop.off ?_ (by assumption))) (.refl _) ⟨rfl, rfl⟩
/-- The powers of ten, as they lie. -/
def tensL : List Int := [1, 10, 100, 1000, 10000, 100000, 1000000, 10000000, 100000000, 1000000000, 10000000000, 100000000000, 1000000000000, 10000000000000, 100000000000000, 1000000000000000, 10000000000000000, 100000000000000000, 1000000000000000000]
theorem tens_at {k : Nat} (h : k < 19) : (tensL.map (AV.int .u64))[k]? = some (.int .u64 ((10 ^ k : Nat) : Int)) := by
  have key : ∀ k : Nat, k < 19 → (tensL.map (AV.int .u64))[k]? = some (.int .u64 ((10 ^ k : Nat) : Int)) := by
    intro k hk
    have : k ∈ List.range 19 := List.mem_range.2 hk
    rw [List.getElem?_map]
    have h2 : ∀ k ∈ List.range 19, tensL[k]? = some ((10 ^ k : Nat) : Int) := by decide +kernel
    rw [h2 k this]
    rfl
  exact key k h
end Go.A
