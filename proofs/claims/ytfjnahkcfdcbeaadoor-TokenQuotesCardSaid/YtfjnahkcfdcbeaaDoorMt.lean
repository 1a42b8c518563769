/- What the document fixes of tokens, walked. -/
import Derived.Test.YtfjnahkcfdcbeaaDoorYd
namespace Go.A
open Go.Proofs Go.Lib
set_option maxRecDepth 100000
set_option linter.unusedSimpArgs false
set_option linter.unusedVariables false

theorem taw1 : lexP [115, 117, 109, 40, 97, 49, 58, 66, 36, 50, 41, 226, 137, 164, 49, 46, 53] = ([⟨3, [83, 85, 77], 0, 0⟩, ⟨6, [40], 3, 3⟩, ⟨4, [65, 49], 4, 4⟩, ⟨6, [58], 6, 6⟩, ⟨4, [66, 36, 50], 7, 7⟩, ⟨6, [41], 10, 10⟩, ⟨6, [60, 61], 11, 11⟩, ⟨1, [49, 46, 53], 14, 12⟩, ⟨0, [], 17, 15⟩], 0, 0) := by decide +kernel
theorem taw2 : lexP [32, 34, 195, 169] = ([], 1, 10) := by decide +kernel
theorem tawake_ok {σ : ASt} (hU : U8 σ) : ACalls Tryd.prog 23 [] σ fun v σ' => v = .bool true ∧ σ' = σ := by
  refine a23 (by simp) ?_
  simp (disch := first | assumption | omega | (simp only [List.length_append, List.length_cons, List.length_nil]; omega)) only [go_sem, reduceCtorEq, Nat.reduceEqDiff, Nat.reduceAdd, Nat.reduceSub, Nat.reduceMul, Nat.reduceLeDiff, Int.reduceLT, Int.reduceLE, Int.reduceEq, ↓reduceIte, Int.reduceNeg, Int.reduceAdd, Int.reduceSub, Int.reduceMul, true_imp_iff, forall_const, Nat.mul_one, Int.reduceToNat, Nat.reducePow, Int.reducePow, Bool.true_and, Bool.false_and, Bool.and_false]
  refine (lex_ok hU _ (by decide)).mono ?_
  rintro v σ' ⟨rfl, rfl⟩
  rw [taw1]
  simp (disch := first | assumption | omega | (simp only [List.length_append, List.length_cons, List.length_nil]; omega)) only [go_sem, reduceCtorEq, Nat.reduceEqDiff, Nat.reduceAdd, Nat.reduceSub, Nat.reduceMul, Nat.reduceLeDiff, Int.reduceLT, Int.reduceLE, Int.reduceEq, ↓reduceIte, Int.reduceNeg, Int.reduceAdd, Int.reduceSub, Int.reduceMul, true_imp_iff, forall_const, Nat.mul_one, Int.reduceToNat, Nat.reducePow, Int.reducePow, Bool.true_and, Bool.false_and, Bool.and_false]
  refine (lex_ok hU _ (by decide)).mono ?_
  rintro v σ' ⟨rfl, rfl⟩
  rw [taw2]
  simp (disch := first | assumption | omega | (simp only [List.length_append, List.length_cons, List.length_nil]; omega)) only [go_sem, reduceCtorEq, Nat.reduceEqDiff, Nat.reduceAdd, Nat.reduceSub, Nat.reduceMul, Nat.reduceLeDiff, Int.reduceLT, Int.reduceLE, Int.reduceEq, ↓reduceIte, Int.reduceNeg, Int.reduceAdd, Int.reduceSub, Int.reduceMul, true_imp_iff, forall_const, Nat.mul_one, Int.reduceToNat, Nat.reducePow, Int.reducePow, Bool.true_and, Bool.false_and, Bool.and_false, tokAV]
  exact retC_by (Drop.refl _) (.refl _) ⟨rfl, rfl⟩
theorem tok_at {L : List Tok} {i : Nat} {t : Tok} (h : L[i]? = some t) : (L.map tokAV)[i]? = some (.agg [.int .i64 t.kind, .str t.text, .int .i64 t.at', .int .i64 t.col]) := by
  rw [List.getElem?_map, h]; rfl
end Go.A
