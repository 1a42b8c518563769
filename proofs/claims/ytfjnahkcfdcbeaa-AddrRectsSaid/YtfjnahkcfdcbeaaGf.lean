/- Rectangles: has, good; AddrNorm, walked. -/
import Derived.Test.YtfjnahkcfdcbeaaGe
namespace Go.A
open Go.Proofs
set_option maxRecDepth 100000
set_option linter.unusedSimpArgs false
set_option linter.unusedVariables false

def hasP (row col rows cols r c : Int) : Bool := decide (row ≤ r ∧ r - row < rows ∧ col ≤ c ∧ c - col < cols)
theorem has_ok (row col rows cols r c : Int) (h1 : 0 ≤ row) (h2 : 0 ≤ col) (h3 : r ≤ 9223372036854775807) (h4 : c ≤ 9223372036854775807) :
    Pure Try.prog 17 [rectAV row col rows cols, .int .i64 r, .int .i64 c] (.bool (hasP row col rows cols r c)) := by
  intro σ
  refine a17 (by simp) ?_
  repeat' (first | (simp (disch := first | assumption | omega | (simp only [List.length_append]; omega)) only [go_sem, reduceCtorEq, Nat.reduceEqDiff, Nat.reduceAdd, Nat.reduceSub, Nat.reduceMul, Nat.reduceLeDiff, Int.reduceLT, Int.reduceLE, Int.reduceEq, ↓reduceIte, Int.reduceNeg, Int.reduceAdd, Int.reduceSub, Int.reduceMul, true_imp_iff, forall_const, Nat.mul_one, Int.reduceToNat, Nat.reducePow, Int.reducePow, Bool.true_and, Bool.false_and, Bool.and_false, rectAV]) | with_reducible refine gC_d (fun h => ?_) (fun h => ?_) | with_reducible refine gC_dn (fun h => ?_) (fun h => ?_) | with_reducible refine condC_d (fun h => ?_) (fun h => ?_) | with_reducible refine condC_n (fun h => ?_) (fun h => ?_) | with_reducible refine condC_b (fun h => ?_) (fun h => ?_) | with_reducible refine boxC_by ?_ fun b hb => ?_)
  all_goals refine retC_by (by repeat' (first | exact Drop.refl _ | with_reducible refine Drop.off ?_ (by assumption))) (.refl _) ⟨?_, rfl⟩
  all_goals (simp only [hasP, resV_one]; congr 1; rw [Bool.eq_iff_iff]; simp; try omega)
def goodRP (row col rows cols : Int) : Bool := decide (0 ≤ row ∧ 0 ≤ col ∧ 0 < rows ∧ 0 < cols ∧ rows ≤ 3000 ∧ cols ≤ 700 ∧ row ≤ 3000 - rows ∧ col ≤ 700 - cols)
theorem goodRect_ok (row col rows cols : Int) : Pure Try.prog 18 [rectAV row col rows cols] (.bool (goodRP row col rows cols)) := by
  intro σ
  refine a18 (by simp) ?_
  repeat' (first | (simp (disch := first | assumption | omega | (simp only [List.length_append]; omega)) only [go_sem, reduceCtorEq, Nat.reduceEqDiff, Nat.reduceAdd, Nat.reduceSub, Nat.reduceMul, Nat.reduceLeDiff, Int.reduceLT, Int.reduceLE, Int.reduceEq, ↓reduceIte, Int.reduceNeg, Int.reduceAdd, Int.reduceSub, Int.reduceMul, true_imp_iff, forall_const, Nat.mul_one, Int.reduceToNat, Nat.reducePow, Int.reducePow, Bool.true_and, Bool.false_and, Bool.and_false, rectAV]) | with_reducible refine gC_d (fun h => ?_) (fun h => ?_) | with_reducible refine gC_dn (fun h => ?_) (fun h => ?_) | with_reducible refine condC_d (fun h => ?_) (fun h => ?_) | with_reducible refine condC_n (fun h => ?_) (fun h => ?_) | with_reducible refine condC_b (fun h => ?_) (fun h => ?_) | with_reducible refine boxC_by ?_ fun b hb => ?_)
  all_goals refine retC_by (by repeat' (first | exact Drop.refl _ | with_reducible refine Drop.off ?_ (by assumption))) (.refl _) ⟨?_, rfl⟩
  all_goals (simp only [goodRP, resV_one]; congr 1; rw [Bool.eq_iff_iff]; simp; try omega)

theorem norm_idem (a b : Ref) : normP (normP a b).1 (normP a b).2 = normP a b := by
  have h1 : (normP a b).1.row ≤ (normP a b).2.row := by unfold normP normC normR; split <;> split <;> dsimp only at * <;> omega
  have h2 : (normP a b).1.col ≤ (normP a b).2.col := by unfold normP normC normR; split <;> split <;> dsimp only at * <;> omega
  obtain ⟨q, hq⟩ : ∃ q, normP a b = q := ⟨_, rfl⟩
  rw [hq] at h1 h2 ⊢
  obtain ⟨x, y⟩ := q
  dsimp only at h1 h2 ⊢
  unfold normP
  have e : normR x y = (x, y) := by unfold normR; rw [if_neg (by omega)]
  rw [e]
  unfold normC
  dsimp only
  rw [if_neg (by omega)]
theorem norm_vals (a b : Ref) : (normP a b).1.row = min a.row b.row ∧ (normP a b).2.row = max a.row b.row ∧ (normP a b).1.col = min a.col b.col ∧ (normP a b).2.col = max a.col b.col := by
  unfold normP normC normR
  split <;> split <;> dsimp only at * <;> omega
end Go.A
