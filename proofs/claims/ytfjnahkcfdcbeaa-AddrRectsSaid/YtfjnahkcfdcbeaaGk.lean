/- Rectangles: cells, has, good, where two meet. -/
import Derived.Test.YtfjnahkcfdcbeaaGf
import Derived.Test.YtfjnahkcfdcbeaaCodeB
namespace Go.A
open Go.Proofs
set_option maxRecDepth 100000
set_option linter.unusedSimpArgs false
set_option linter.unusedVariables false

structure Rct where
  row : Int
  col : Int
  rows : Int
  cols : Int
  deriving DecidableEq, Inhabited
def Rct.av (r : Rct) : AV := rectAV r.row r.col r.rows r.cols
def Rct.good (r : Rct) : Bool := goodRP r.row r.col r.rows r.cols
def Rct.has (r : Rct) (i j : Int) : Bool := hasP r.row r.col r.rows r.cols i j
def Rct.cells (r : Rct) : Int := r.rows * r.cols
theorem Rct.good_iff {r : Rct} : r.good = true ↔ 0 ≤ r.row ∧ 0 ≤ r.col ∧ 0 < r.rows ∧ 0 < r.cols ∧ r.rows ≤ 3000 ∧ r.cols ≤ 700 ∧ r.row ≤ 3000 - r.rows ∧ r.col ≤ 700 - r.cols := by
  simp only [Rct.good, goodRP, decide_eq_true_eq]
theorem Rct.cells_bd {r : Rct} (h : r.good = true) : 0 ≤ r.cells ∧ r.cells ≤ 2100000 := by
  obtain ⟨h1, h2, h3, h4, h5, h6, h7, h8⟩ := Rct.good_iff.1 h
  constructor
  · exact Int.mul_nonneg (by omega) (by omega)
  · calc r.rows * r.cols ≤ 3000 * 700 := Int.mul_le_mul h5 h6 (by omega) (by omega)
      _ = 2100000 := by decide
theorem rgood_ok (r : Rct) : Pure Try.prog 20 [r.av] (.bool r.good) := by
  intro σ
  obtain ⟨row, col, rows, cols⟩ := r
  refine a20 (by simp) ?_
  repeat' (first | (simp (disch := first | assumption | omega | (simp only [List.length_append]; omega)) only [go_sem, reduceCtorEq, Nat.reduceEqDiff, Nat.reduceAdd, Nat.reduceSub, Nat.reduceMul, Nat.reduceLeDiff, Int.reduceLT, Int.reduceLE, Int.reduceEq, ↓reduceIte, Int.reduceNeg, Int.reduceAdd, Int.reduceSub, Int.reduceMul, true_imp_iff, forall_const, Nat.mul_one, Int.reduceToNat, Nat.reducePow, Int.reducePow, Bool.true_and, Bool.false_and, Bool.and_false, rectAV, Rct.av]) | with_reducible refine gC_d (fun h => ?_) (fun h => ?_) | with_reducible refine gC_dn (fun h => ?_) (fun h => ?_) | with_reducible refine condC_d (fun h => ?_) (fun h => ?_) | with_reducible refine condC_n (fun h => ?_) (fun h => ?_) | with_reducible refine condC_b (fun h => ?_) (fun h => ?_) | with_reducible refine boxC_by ?_ fun b hb => ?_)
  all_goals refine retC_by (by repeat' (first | exact Drop.refl _ | with_reducible refine Drop.off ?_ (by assumption))) (.refl _) ⟨?_, rfl⟩
  all_goals (simp only [Rct.good, goodRP, resV_one]; congr 1; rw [Bool.eq_iff_iff]; simp; try omega)
theorem rhas_ok {r : Rct} (h : r.good = true) (i j : Int) : Pure Try.prog 24 [r.av, .int .i64 i, .int .i64 j] (.bool (r.has i j)) := by
  intro σ
  obtain ⟨h1, h2, h3, h4, h5, h6, h7, h8⟩ := Rct.good_iff.1 h
  obtain ⟨row, col, rows, cols⟩ := r
  simp only at h1 h2 h3 h4 h5 h6 h7 h8
  refine a24 (by simp) ?_
  repeat' (first | (simp (disch := first | assumption | omega | (simp only [List.length_append]; omega)) only [go_sem, reduceCtorEq, Nat.reduceEqDiff, Nat.reduceAdd, Nat.reduceSub, Nat.reduceMul, Nat.reduceLeDiff, Int.reduceLT, Int.reduceLE, Int.reduceEq, ↓reduceIte, Int.reduceNeg, Int.reduceAdd, Int.reduceSub, Int.reduceMul, true_imp_iff, forall_const, Nat.mul_one, Int.reduceToNat, Nat.reducePow, Int.reducePow, Bool.true_and, Bool.false_and, Bool.and_false, rectAV, Rct.av]) | with_reducible refine gC_d (fun h => ?_) (fun h => ?_) | with_reducible refine gC_dn (fun h => ?_) (fun h => ?_) | with_reducible refine condC_d (fun h => ?_) (fun h => ?_) | with_reducible refine condC_n (fun h => ?_) (fun h => ?_) | with_reducible refine condC_b (fun h => ?_) (fun h => ?_) | with_reducible refine boxC_by ?_ fun b hb => ?_)
  all_goals refine retC_by (by repeat' (first | exact Drop.refl _ | with_reducible refine Drop.off ?_ (by assumption))) (.refl _) ⟨?_, rfl⟩
  all_goals (simp only [Rct.has, hasP, resV_one]; congr 1; rw [Bool.eq_iff_iff]; simp; try omega)
theorem cells_ok {r : Rct} (h : r.good = true) : Pure Try.prog 23 [r.av] (.int .i64 r.cells) := by
  intro σ
  obtain ⟨c1, c2⟩ := Rct.cells_bd h
  obtain ⟨row, col, rows, cols⟩ := r
  simp only [Rct.cells] at c1 c2
  obtain ⟨p, hp⟩ : ∃ p, rows * cols = p := ⟨_, rfl⟩
  refine a23 (by simp) ?_
  rw [hp] at c1 c2
  simp (disch := first | assumption | omega | (simp only [List.length_append]; omega)) only [go_sem, reduceCtorEq, Nat.reduceEqDiff, Nat.reduceAdd, Nat.reduceSub, Nat.reduceMul, Nat.reduceLeDiff, Int.reduceLT, Int.reduceLE, Int.reduceEq, ↓reduceIte, Int.reduceNeg, Int.reduceAdd, Int.reduceSub, Int.reduceMul, true_imp_iff, forall_const, Nat.mul_one, Int.reduceToNat, Nat.reducePow, Int.reducePow, Bool.true_and, Bool.false_and, Bool.and_false, rectAV, Rct.av]
  refine boxC_by rfl fun b hb => ?_
  simp (disch := first | assumption | omega | (simp only [List.length_append]; omega)) only [go_sem, reduceCtorEq, Nat.reduceEqDiff, Nat.reduceAdd, Nat.reduceSub, Nat.reduceMul, Nat.reduceLeDiff, Int.reduceLT, Int.reduceLE, Int.reduceEq, ↓reduceIte, Int.reduceNeg, Int.reduceAdd, Int.reduceSub, Int.reduceMul, true_imp_iff, forall_const, Nat.mul_one, Int.reduceToNat, Nat.reducePow, Int.reducePow, Bool.true_and, Bool.false_and, Bool.and_false, hp]
  refine retC_by (by repeat' (first | exact Drop.refl _ | with_reducible refine Drop.off ?_ (by assumption))) (.refl _) ⟨?_, rfl⟩
  simp only [Rct.cells, hp, resV_one]

def meetP (a b : Rct) : Rct × Bool :=
  let row := max a.row b.row
  let col := max a.col b.col
  let rows := min (a.row + a.rows) (b.row + b.rows) - row
  let cols := min (a.col + a.cols) (b.col + b.cols) - col
  if rows < 1 ∨ cols < 1 then (⟨0, 0, 0, 0⟩, false) else (⟨row, col, rows, cols⟩, true)
theorem meet_ok {a b : Rct} (ha : a.good = true) (hb : b.good = true) : Pure Try.prog 21 [a.av, b.av] (.tuple [(meetP a b).1.av, .bool (meetP a b).2]) := by
  intro σ
  obtain ⟨h1, h2, h3, h4, h5, h6, h7, h8⟩ := Rct.good_iff.1 ha
  obtain ⟨k1, k2, k3, k4, k5, k6, k7, k8⟩ := Rct.good_iff.1 hb
  obtain ⟨arow, acol, arows, acols⟩ := a
  obtain ⟨brow, bcol, brows, bcols⟩ := b
  simp only at h1 h2 h3 h4 h5 h6 h7 h8 k1 k2 k3 k4 k5 k6 k7 k8
  clear ha hb
  obtain ⟨row, hrow⟩ : ∃ x, max arow brow = x := ⟨_, rfl⟩
  obtain ⟨col, hcol⟩ : ∃ x, max acol bcol = x := ⟨_, rfl⟩
  obtain ⟨er, her⟩ : ∃ x, min (arow + arows) (brow + brows) = x := ⟨_, rfl⟩
  obtain ⟨ec, hec⟩ : ∃ x, min (acol + acols) (bcol + bcols) = x := ⟨_, rfl⟩
  have m1 : 0 ≤ row ∧ row ≤ 3000 := by omega
  have m2 : 0 ≤ col ∧ col ≤ 700 := by omega
  have m3 : 0 ≤ er ∧ er ≤ 3000 := by omega
  have m4 : 0 ≤ ec ∧ ec ≤ 700 := by omega
  obtain ⟨m1, m1'⟩ := m1
  obtain ⟨m2, m2'⟩ := m2
  obtain ⟨m3, m3'⟩ := m3
  obtain ⟨m4, m4'⟩ := m4
  obtain ⟨q, hq⟩ : ∃ q, meetP ⟨arow, acol, arows, acols⟩ ⟨brow, bcol, brows, bcols⟩ = q := ⟨_, rfl⟩
  rw [hq]
  simp only [meetP, hrow, hcol, her, hec] at hq
  refine a21 (by simp) ?_
  simp (disch := first | assumption | omega | (simp only [List.length_append]; omega)) only [go_sem, reduceCtorEq, Nat.reduceEqDiff, Nat.reduceAdd, Nat.reduceSub, Nat.reduceMul, Nat.reduceLeDiff, Int.reduceLT, Int.reduceLE, Int.reduceEq, ↓reduceIte, Int.reduceNeg, Int.reduceAdd, Int.reduceSub, Int.reduceMul, true_imp_iff, forall_const, Nat.mul_one, Int.reduceToNat, Nat.reducePow, Int.reducePow, Bool.true_and, Bool.false_and, Bool.and_false, rectAV, Rct.av]
  refine boxC_by rfl fun b0 hb0 => ?_
  simp (disch := first | assumption | omega | (simp only [List.length_append]; omega)) only [go_sem, reduceCtorEq, Nat.reduceEqDiff, Nat.reduceAdd, Nat.reduceSub, Nat.reduceMul, Nat.reduceLeDiff, Int.reduceLT, Int.reduceLE, Int.reduceEq, ↓reduceIte, Int.reduceNeg, Int.reduceAdd, Int.reduceSub, Int.reduceMul, true_imp_iff, forall_const, Nat.mul_one, Int.reduceToNat, Nat.reducePow, Int.reducePow, Bool.true_and, Bool.false_and, Bool.and_false]
  refine boxC_by rfl fun b1 hb1 => ?_
  repeat (with_reducible replace hb1 := set_none hb1; obtain ⟨_, _, hb1⟩ := hb1)
  simp (disch := first | assumption | omega | (simp only [List.length_append]; omega)) only [go_sem, reduceCtorEq, Nat.reduceEqDiff, Nat.reduceAdd, Nat.reduceSub, Nat.reduceMul, Nat.reduceLeDiff, Int.reduceLT, Int.reduceLE, Int.reduceEq, ↓reduceIte, Int.reduceNeg, Int.reduceAdd, Int.reduceSub, Int.reduceMul, true_imp_iff, forall_const, Nat.mul_one, Int.reduceToNat, Nat.reducePow, Int.reducePow, Bool.true_and, Bool.false_and, Bool.and_false]
  refine allocC_by fun b2 hb2 => ?_
  repeat (with_reducible replace hb2 := set_none hb2; obtain ⟨_, _, hb2⟩ := hb2)
  simp (disch := first | assumption | omega | (simp only [List.length_append]; omega)) only [go_sem, reduceCtorEq, Nat.reduceEqDiff, Nat.reduceAdd, Nat.reduceSub, Nat.reduceMul, Nat.reduceLeDiff, Int.reduceLT, Int.reduceLE, Int.reduceEq, ↓reduceIte, Int.reduceNeg, Int.reduceAdd, Int.reduceSub, Int.reduceMul, true_imp_iff, forall_const, Nat.mul_one, Int.reduceToNat, Nat.reducePow, Int.reducePow, Bool.true_and, Bool.false_and, Bool.and_false, hrow, hcol, her, hec]
  by_cases g1 : er - row < 1
  · simp (disch := first | assumption | omega | (simp only [List.length_append]; omega)) only [go_sem, reduceCtorEq, Nat.reduceEqDiff, Nat.reduceAdd, Nat.reduceSub, Nat.reduceMul, Nat.reduceLeDiff, Int.reduceLT, Int.reduceLE, Int.reduceEq, ↓reduceIte, Int.reduceNeg, Int.reduceAdd, Int.reduceSub, Int.reduceMul, true_imp_iff, forall_const, Nat.mul_one, Int.reduceToNat, Nat.reducePow, Int.reducePow, Bool.true_and, Bool.false_and, Bool.and_false, g1]
    refine retC_by (by repeat' (first | exact Drop.refl _ | with_reducible refine Drop.off ?_ (by assumption))) (.refl _) ⟨?_, rfl⟩
    rw [if_pos (.inl g1)] at hq
    rw [← hq]
    rfl
  · by_cases g2 : ec - col < 1
    · simp (disch := first | assumption | omega | (simp only [List.length_append]; omega)) only [go_sem, reduceCtorEq, Nat.reduceEqDiff, Nat.reduceAdd, Nat.reduceSub, Nat.reduceMul, Nat.reduceLeDiff, Int.reduceLT, Int.reduceLE, Int.reduceEq, ↓reduceIte, Int.reduceNeg, Int.reduceAdd, Int.reduceSub, Int.reduceMul, true_imp_iff, forall_const, Nat.mul_one, Int.reduceToNat, Nat.reducePow, Int.reducePow, Bool.true_and, Bool.false_and, Bool.and_false, g1, g2]
      refine retC_by (by repeat' (first | exact Drop.refl _ | with_reducible refine Drop.off ?_ (by assumption))) (.refl _) ⟨?_, rfl⟩
      rw [if_pos (.inr g2)] at hq
      rw [← hq]
      rfl
    · simp (disch := first | assumption | omega | (simp only [List.length_append]; omega)) only [go_sem, reduceCtorEq, Nat.reduceEqDiff, Nat.reduceAdd, Nat.reduceSub, Nat.reduceMul, Nat.reduceLeDiff, Int.reduceLT, Int.reduceLE, Int.reduceEq, ↓reduceIte, Int.reduceNeg, Int.reduceAdd, Int.reduceSub, Int.reduceMul, true_imp_iff, forall_const, Nat.mul_one, Int.reduceToNat, Nat.reducePow, Int.reducePow, Bool.true_and, Bool.false_and, Bool.and_false, g1, g2]
      refine retC_by (by repeat' (first | exact Drop.refl _ | with_reducible refine Drop.off ?_ (by assumption))) (.refl _) ⟨?_, rfl⟩
      rw [if_neg (by omega)] at hq
      rw [← hq]
      rfl
end Go.A
