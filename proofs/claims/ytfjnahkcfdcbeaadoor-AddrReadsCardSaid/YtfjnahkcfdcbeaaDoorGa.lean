/- addr: letters, columns, references. -/
import Derived.Test.YtfjnahkcfdcbeaaDoorBo
import Derived.Test.YtfjnahkcfdcbeaaDoorCodeA
namespace Go.A
open Go.Proofs
set_option maxRecDepth 100000
set_option linter.unusedSimpArgs false
set_option linter.unusedVariables false

def letterP (c : Int) : Int := if 65 ≤ c ∧ c ≤ 90 then c - 64 else if 97 ≤ c ∧ c ≤ 122 then c - 96 else 0
theorem letter_ok (c : Int) (h0 : 0 ≤ c) (h1 : c ≤ 255) : Pure Tryd.prog 31 [.int .u8 c] (.int .i64 (letterP c)) := by
  intro σ
  refine a31 (by simp) ?_
  repeat' (first | (simp (disch := first | assumption | omega | (simp only [List.length_append]; omega)) only [go_sem, reduceCtorEq, Nat.reduceEqDiff, Nat.reduceAdd, Nat.reduceSub, Nat.reduceMul, Nat.reduceLeDiff, Int.reduceLT, Int.reduceLE, Int.reduceEq, ↓reduceIte, Int.reduceNeg, Int.reduceAdd, Int.reduceSub, Int.reduceMul, true_imp_iff, forall_const, Nat.mul_one, Int.reduceToNat, Nat.reducePow, Int.reducePow, Bool.true_and, Bool.false_and, Bool.and_false]) | with_reducible refine gC_d (fun h => ?_) (fun h => ?_) | with_reducible refine gC_dn (fun h => ?_) (fun h => ?_) | with_reducible refine condC_d (fun h => ?_) (fun h => ?_) | with_reducible refine condC_n (fun h => ?_) (fun h => ?_) | with_reducible refine condC_b (fun h => ?_) (fun h => ?_) | with_reducible refine boxC_by ?_ fun b hb => ?_)
  all_goals refine retC_by (Drop.refl _) (.refl _) ⟨?_, rfl⟩
  all_goals (simp only [letterP, resV_one]; congr 1; repeat' split) <;> omega

structure Ref where
  row : Int
  col : Int
  absRow : Bool
  absCol : Bool
  deriving DecidableEq, Inhabited
def refAV (r : Ref) : AV := .agg [.int .i64 r.row, .int .i64 r.col, .bool r.absRow, .bool r.absCol]
def Ref.good (r : Ref) : Bool := decide (0 ≤ r.row ∧ r.row < 3000 ∧ 0 ≤ r.col ∧ r.col < 700)
def Ref.zero : Ref := ⟨0, 0, false, false⟩

theorem good_ok (r : Ref) : Pure Tryd.prog 9 [refAV r] (.bool r.good) := by
  intro σ
  obtain ⟨row, col, ar, ac⟩ := r
  refine a9 (by simp) ?_
  repeat' (first | (simp (disch := first | assumption | omega | (simp only [List.length_append]; omega)) only [go_sem, reduceCtorEq, Nat.reduceEqDiff, Nat.reduceAdd, Nat.reduceSub, Nat.reduceMul, Nat.reduceLeDiff, Int.reduceLT, Int.reduceLE, Int.reduceEq, ↓reduceIte, Int.reduceNeg, Int.reduceAdd, Int.reduceSub, Int.reduceMul, true_imp_iff, forall_const, Nat.mul_one, Int.reduceToNat, Nat.reducePow, Int.reducePow, Bool.true_and, Bool.false_and, Bool.and_false, refAV]) | with_reducible refine gC_d (fun h => ?_) (fun h => ?_) | with_reducible refine gC_dn (fun h => ?_) (fun h => ?_) | with_reducible refine condC_d (fun h => ?_) (fun h => ?_) | with_reducible refine condC_n (fun h => ?_) (fun h => ?_) | with_reducible refine condC_b (fun h => ?_) (fun h => ?_) | with_reducible refine boxC_by ?_ fun b hb => ?_)
  all_goals refine retC_by (Drop.set (by assumption)) (.refl _) ⟨?_, rfl⟩
  all_goals (simp only [Ref.good, resV_one]; congr 1; rw [Bool.eq_iff_iff]; simp; try omega)
def movedP (r : Ref) (rows cols : Int) : Ref × Bool :=
  if (r.absRow = false ∧ (rows ≤ -3000 ∨ 3000 ≤ rows)) ∨ (r.absCol = false ∧ (cols ≤ -700 ∨ 700 ≤ cols)) then (.zero, false)
  else
    let q : Ref := ⟨if r.absRow then r.row else r.row + rows, if r.absCol then r.col else r.col + cols, r.absRow, r.absCol⟩
    if q.good then (q, true) else (.zero, false)
theorem moved_ok (r : Ref) (rows cols : Int) (h1 : -4000000 ≤ r.row ∧ r.row ≤ 4000000) (h2 : -4000000 ≤ r.col ∧ r.col ≤ 4000000) :
    Pure Tryd.prog 19 [refAV r, .int .i64 rows, .int .i64 cols] (.tuple [refAV (movedP r rows cols).1, .bool (movedP r rows cols).2]) := by
  intro σ
  obtain ⟨row, col, ar, ac⟩ := r
  simp only at h1 h2
  obtain ⟨q, hq⟩ : ∃ q, movedP ⟨row, col, ar, ac⟩ rows cols = q := ⟨_, rfl⟩
  rw [hq]
  refine a19 (by simp) ?_
  simp (disch := first | assumption | omega | (simp only [List.length_append]; omega)) only [go_sem, reduceCtorEq, Nat.reduceEqDiff, Nat.reduceAdd, Nat.reduceSub, Nat.reduceMul, Nat.reduceLeDiff, Int.reduceLT, Int.reduceLE, Int.reduceEq, ↓reduceIte, Int.reduceNeg, Int.reduceAdd, Int.reduceSub, Int.reduceMul, true_imp_iff, forall_const, Nat.mul_one, Int.reduceToNat, Nat.reducePow, Int.reducePow, Bool.true_and, Bool.false_and, Bool.and_false, refAV]
  refine boxC_by rfl fun b hb => ?_
  simp (disch := first | assumption | omega | (simp only [List.length_append]; omega)) only [go_sem, reduceCtorEq, Nat.reduceEqDiff, Nat.reduceAdd, Nat.reduceSub, Nat.reduceMul, Nat.reduceLeDiff, Int.reduceLT, Int.reduceLE, Int.reduceEq, ↓reduceIte, Int.reduceNeg, Int.reduceAdd, Int.reduceSub, Int.reduceMul, true_imp_iff, forall_const, Nat.mul_one, Int.reduceToNat, Nat.reducePow, Int.reducePow, Bool.true_and, Bool.false_and, Bool.and_false]
  refine allocC_by fun b2 hb2 => ?_
  obtain ⟨n1, n2, hb3⟩ := set_none hb2
  cases ar <;> cases ac
  repeat' (first | (simp (disch := first | assumption | omega | (simp only [List.length_append]; omega)) only [go_sem, reduceCtorEq, Nat.reduceEqDiff, Nat.reduceAdd, Nat.reduceSub, Nat.reduceMul, Nat.reduceLeDiff, Int.reduceLT, Int.reduceLE, Int.reduceEq, ↓reduceIte, Int.reduceNeg, Int.reduceAdd, Int.reduceSub, Int.reduceMul, true_imp_iff, forall_const, Nat.mul_one, Int.reduceToNat, Nat.reducePow, Int.reducePow, Bool.true_and, Bool.false_and, Bool.and_false, n1, n2]) | refine (good_ok ⟨_, _, _, _⟩).use ?_ | with_reducible refine gC_d (fun h => ?_) (fun h => ?_) | with_reducible refine gC_dn (fun h => ?_) (fun h => ?_) | with_reducible refine condC_d (fun h => ?_) (fun h => ?_) | with_reducible refine condC_n (fun h => ?_) (fun h => ?_) | with_reducible refine condC_b (fun h => ?_) (fun h => ?_) | with_reducible refine boxC_by ?_ fun b hb => ?_)
  all_goals refine retC_by ?_ (.refl _) ⟨?_, rfl⟩
  all_goals first
    | (repeat' (first | exact Drop.refl _ | with_reducible refine Drop.off ?_ (by assumption))
       done)
    | skip
  all_goals try simp only [resV_two, movedP, Ref.zero, Ref.good, Bool.false_eq_true, if_true, if_false, true_and, false_and, or_false, false_or, decide_eq_true_eq, decide_eq_false_iff_not, reduceCtorEq, Bool.not_eq_true', Bool.not_eq_false'] at *
  all_goals (repeat' (split at hq)) <;> first | (subst hq; rfl) | (exfalso; omega) | skip
end Go.A
