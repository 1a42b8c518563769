/- addr: references and areas parsed, put in order; what the document fixes. -/
import Derived.Test.YtkfcfpnkgljdmaaDoorGc
import Derived.Test.YtkfcfpnkgljdmaaDoorCodeGd
namespace Go.A
open Go.Proofs
set_option maxRecDepth 100000
set_option linter.unusedSimpArgs false
set_option linter.unusedVariables false

theorem readQ_bd (l : List UInt8) (i : Nat) (hi : i ≤ l.length) (col : Int) (ar ac : Bool) : 0 ≤ (readQ l i col ar ac).2 ∧ (readQ l i col ar ac).2 ≤ l.length := by
  have h := runL_le isD (l.drop i)
  rw [List.length_drop] at h
  unfold readQ
  split
  · exact ⟨by decide, by dsimp only; omega⟩
  · exact ⟨by dsimp only; omega, by dsimp only; omega⟩
theorem readR_bd (l : List UInt8) (i : Nat) (hi : i ≤ l.length) (ac : Bool) : 0 ≤ (readR l i ac).2 ∧ (readR l i ac).2 ≤ l.length := by
  have h := runL_le isL (l.drop i)
  rw [List.length_drop] at h
  unfold readR
  split
  · exact ⟨by decide, by dsimp only; omega⟩
  · split
    · rename_i h36
      refine readQ_bd l _ ?_ _ _ _
      unfold atP at h36
      split at h36
      · rename_i c hc
        have := (List.getElem?_eq_some_iff.1 hc).1
        omega
      · cases h36
    · exact readQ_bd l _ (by omega) _ _ _
theorem readP_bd (l : List UInt8) : 0 ≤ (readP l).2 ∧ (readP l).2 ≤ l.length := by
  unfold readP
  split
  · rename_i h36
    refine readR_bd l 1 ?_ _
    unfold atP at h36
    split at h36
    · rename_i c hc
      have := (List.getElem?_eq_some_iff.1 hc).1
      omega
    · cases h36
  · exact readR_bd l 0 (by omega) _

def parseP (l : List UInt8) : Ref × Bool := if (readP l).2 = 0 ∨ (readP l).2 < l.length then (.zero, false) else ((readP l).1, true)
def areaAV (a b : Ref) : AV := .agg [.int .i64 a.row, .int .i64 a.col, .bool a.absRow, .bool a.absCol, .int .i64 b.row, .int .i64 b.col, .bool b.absRow, .bool b.absCol]
def parseAreaP (l : List UInt8) : (Ref × Ref) × Bool :=
  if (readP l).2 = 0 then ((.zero, .zero), false)
  else if (readP l).2 = l.length then (((readP l).1, (readP l).1), true)
  else if atP l (readP l).2.toNat ≠ 58 then ((.zero, .zero), false)
  else if (parseP (l.drop ((readP l).2.toNat + 1))).2 = false then ((.zero, .zero), false)
  else (((readP l).1, (parseP (l.drop ((readP l).2.toNat + 1))).1), true)
def normR (a b : Ref) : Ref × Ref := if b.row < a.row then (⟨b.row, a.col, b.absRow, a.absCol⟩, ⟨a.row, b.col, a.absRow, b.absCol⟩) else (a, b)
def normC (a b : Ref) : Ref × Ref := if b.col < a.col then (⟨a.row, b.col, a.absRow, b.absCol⟩, ⟨b.row, a.col, b.absRow, a.absCol⟩) else (a, b)
def normP (a b : Ref) : Ref × Ref := normC (normR a b).1 (normR a b).2
theorem norm_ok (a b : Ref) : Pure Tryd.prog 49 [areaAV a b] (areaAV (normP a b).1 (normP a b).2) := by
  intro σ
  obtain ⟨q, hq⟩ : ∃ q, normP a b = q := ⟨_, rfl⟩
  rw [hq]
  unfold normP normC normR at hq
  obtain ⟨row, col, ar, ac⟩ := a
  obtain ⟨row2, col2, ar2, ac2⟩ := b
  dsimp only at hq
  refine a49 (by simp) ?_
  simp (disch := first | assumption | omega | (simp only [List.length_append, List.length_cons, List.length_nil]; omega)) only [go_sem, reduceCtorEq, Nat.reduceEqDiff, Nat.reduceAdd, Nat.reduceSub, Nat.reduceMul, Nat.reduceLeDiff, Int.reduceLT, Int.reduceLE, Int.reduceEq, ↓reduceIte, Int.reduceNeg, Int.reduceAdd, Int.reduceSub, Int.reduceMul, true_imp_iff, forall_const, Nat.mul_one, Int.reduceToNat, Nat.reducePow, Int.reducePow, Bool.true_and, Bool.false_and, Bool.and_false, areaAV]
  refine boxC_by rfl fun b0 hb0 => ?_
  simp (disch := first | assumption | omega | (simp only [List.length_append, List.length_cons, List.length_nil]; omega)) only [go_sem, reduceCtorEq, Nat.reduceEqDiff, Nat.reduceAdd, Nat.reduceSub, Nat.reduceMul, Nat.reduceLeDiff, Int.reduceLT, Int.reduceLE, Int.reduceEq, ↓reduceIte, Int.reduceNeg, Int.reduceAdd, Int.reduceSub, Int.reduceMul, true_imp_iff, forall_const, Nat.mul_one, Int.reduceToNat, Nat.reducePow, Int.reducePow, Bool.true_and, Bool.false_and, Bool.and_false]
  refine allocC_by fun b1 hb1 => ?_
  obtain ⟨n1, n2, hb3⟩ := set_none hb1
  by_cases h1 : row2 < row
  · rw [if_pos h1] at hq
    dsimp only at hq
    by_cases h2 : col2 < col
    · rw [if_pos h2] at hq
      subst hq
      simp (disch := first | assumption | omega | (simp only [List.length_append, List.length_cons, List.length_nil]; omega)) only [go_sem, reduceCtorEq, Nat.reduceEqDiff, Nat.reduceAdd, Nat.reduceSub, Nat.reduceMul, Nat.reduceLeDiff, Int.reduceLT, Int.reduceLE, Int.reduceEq, ↓reduceIte, Int.reduceNeg, Int.reduceAdd, Int.reduceSub, Int.reduceMul, true_imp_iff, forall_const, Nat.mul_one, Int.reduceToNat, Nat.reducePow, Int.reducePow, Bool.true_and, Bool.false_and, Bool.and_false, h1, h2, n1, n2]
      exact retC_by (by repeat' (first | exact Drop.refl _ | with_reducible refine Drop.off ?_ (by assumption))) (.refl _) ⟨rfl, rfl⟩
    · rw [if_neg h2] at hq
      subst hq
      simp (disch := first | assumption | omega | (simp only [List.length_append, List.length_cons, List.length_nil]; omega)) only [go_sem, reduceCtorEq, Nat.reduceEqDiff, Nat.reduceAdd, Nat.reduceSub, Nat.reduceMul, Nat.reduceLeDiff, Int.reduceLT, Int.reduceLE, Int.reduceEq, ↓reduceIte, Int.reduceNeg, Int.reduceAdd, Int.reduceSub, Int.reduceMul, true_imp_iff, forall_const, Nat.mul_one, Int.reduceToNat, Nat.reducePow, Int.reducePow, Bool.true_and, Bool.false_and, Bool.and_false, h1, h2, n1, n2]
      exact retC_by (by repeat' (first | exact Drop.refl _ | with_reducible refine Drop.off ?_ (by assumption))) (.refl _) ⟨rfl, rfl⟩
  · rw [if_neg h1] at hq
    dsimp only at hq
    by_cases h2 : col2 < col
    · rw [if_pos h2] at hq
      subst hq
      simp (disch := first | assumption | omega | (simp only [List.length_append, List.length_cons, List.length_nil]; omega)) only [go_sem, reduceCtorEq, Nat.reduceEqDiff, Nat.reduceAdd, Nat.reduceSub, Nat.reduceMul, Nat.reduceLeDiff, Int.reduceLT, Int.reduceLE, Int.reduceEq, ↓reduceIte, Int.reduceNeg, Int.reduceAdd, Int.reduceSub, Int.reduceMul, true_imp_iff, forall_const, Nat.mul_one, Int.reduceToNat, Nat.reducePow, Int.reducePow, Bool.true_and, Bool.false_and, Bool.and_false, h1, h2, n1, n2]
      exact retC_by (by repeat' (first | exact Drop.refl _ | with_reducible refine Drop.off ?_ (by assumption))) (.refl _) ⟨rfl, rfl⟩
    · rw [if_neg h2] at hq
      subst hq
      simp (disch := first | assumption | omega | (simp only [List.length_append, List.length_cons, List.length_nil]; omega)) only [go_sem, reduceCtorEq, Nat.reduceEqDiff, Nat.reduceAdd, Nat.reduceSub, Nat.reduceMul, Nat.reduceLeDiff, Int.reduceLT, Int.reduceLE, Int.reduceEq, ↓reduceIte, Int.reduceNeg, Int.reduceAdd, Int.reduceSub, Int.reduceMul, true_imp_iff, forall_const, Nat.mul_one, Int.reduceToNat, Nat.reducePow, Int.reducePow, Bool.true_and, Bool.false_and, Bool.and_false, h1, h2, n1, n2]
      exact retC_by (by repeat' (first | exact Drop.refl _ | with_reducible refine Drop.off ?_ (by assumption))) (.refl _) ⟨rfl, rfl⟩

def rectAV (row col rows cols : Int) : AV := .agg [.int .i64 row, .int .i64 col, .int .i64 rows, .int .i64 cols]
def Ref.near (r : Ref) : Prop := -4000000 ≤ r.row ∧ r.row ≤ 4000000 ∧ -4000000 ≤ r.col ∧ r.col ≤ 4000000
theorem norm_near {a b : Ref} (ha : a.near) (hb : b.near) : (normP a b).1.near ∧ (normP a b).2.near := by
  unfold normP normC normR Ref.near at *
  split <;> split <;> dsimp only at * <;> omega
theorem rect_ok (a b : Ref) (ha : a.near) (hb : b.near) : Pure Tryd.prog 36 [areaAV a b]
    (rectAV (normP a b).1.row (normP a b).1.col ((normP a b).2.row - (normP a b).1.row + 1) ((normP a b).2.col - (normP a b).1.col + 1)) := by
  intro σ
  obtain ⟨hn1, hn2⟩ := norm_near ha hb
  refine a36 (by simp) ?_
  simp (disch := first | assumption | omega | (simp only [List.length_append, List.length_cons, List.length_nil]; omega)) only [go_sem, reduceCtorEq, Nat.reduceEqDiff, Nat.reduceAdd, Nat.reduceSub, Nat.reduceMul, Nat.reduceLeDiff, Int.reduceLT, Int.reduceLE, Int.reduceEq, ↓reduceIte, Int.reduceNeg, Int.reduceAdd, Int.reduceSub, Int.reduceMul, true_imp_iff, forall_const, Nat.mul_one, Int.reduceToNat, Nat.reducePow, Int.reducePow, Bool.true_and, Bool.false_and, Bool.and_false, areaAV]
  refine boxC_by rfl fun b0 hb0 => ?_
  simp (disch := first | assumption | omega | (simp only [List.length_append, List.length_cons, List.length_nil]; omega)) only [go_sem, reduceCtorEq, Nat.reduceEqDiff, Nat.reduceAdd, Nat.reduceSub, Nat.reduceMul, Nat.reduceLeDiff, Int.reduceLT, Int.reduceLE, Int.reduceEq, ↓reduceIte, Int.reduceNeg, Int.reduceAdd, Int.reduceSub, Int.reduceMul, true_imp_iff, forall_const, Nat.mul_one, Int.reduceToNat, Nat.reducePow, Int.reducePow, Bool.true_and, Bool.false_and, Bool.and_false]
  refine allocC_by fun b1 hb1 => ?_
  obtain ⟨n1, n2, hb3⟩ := set_none hb1
  simp (disch := first | assumption | omega | (simp only [List.length_append, List.length_cons, List.length_nil]; omega)) only [go_sem, reduceCtorEq, Nat.reduceEqDiff, Nat.reduceAdd, Nat.reduceSub, Nat.reduceMul, Nat.reduceLeDiff, Int.reduceLT, Int.reduceLE, Int.reduceEq, ↓reduceIte, Int.reduceNeg, Int.reduceAdd, Int.reduceSub, Int.reduceMul, true_imp_iff, forall_const, Nat.mul_one, Int.reduceToNat, Nat.reducePow, Int.reducePow, Bool.true_and, Bool.false_and, Bool.and_false, n1, n2]
  refine (norm_ok a b).use ?_
  obtain ⟨q, hq⟩ : ∃ q, normP a b = q := ⟨_, rfl⟩
  rw [hq] at hn1 hn2 ⊢
  obtain ⟨⟨row, col, ar, ac⟩, ⟨row2, col2, ar2, ac2⟩⟩ := q
  simp only [Ref.near] at hn1 hn2
  obtain ⟨m1, m2, m3, m4⟩ := hn1
  obtain ⟨m5, m6, m7, m8⟩ := hn2
  simp (disch := first | assumption | omega | (simp only [List.length_append, List.length_cons, List.length_nil]; omega)) only [go_sem, reduceCtorEq, Nat.reduceEqDiff, Nat.reduceAdd, Nat.reduceSub, Nat.reduceMul, Nat.reduceLeDiff, Int.reduceLT, Int.reduceLE, Int.reduceEq, ↓reduceIte, Int.reduceNeg, Int.reduceAdd, Int.reduceSub, Int.reduceMul, true_imp_iff, forall_const, Nat.mul_one, Int.reduceToNat, Nat.reducePow, Int.reducePow, Bool.true_and, Bool.false_and, Bool.and_false, areaAV, n1, n2]
  exact retC_by (by repeat' (first | exact Drop.refl _ | with_reducible refine Drop.off ?_ (by assumption))) (.refl _) ⟨rfl, rfl⟩

theorem gaw1 : readP [66, 36, 55, 43, 49] = (⟨6, 1, true, false⟩, 3) := by decide +kernel
theorem gaw2 : (readP [65, 49, 66]).2 = 0 := by decide +kernel
theorem gaw3 : parseAreaP [67, 51, 58, 65, 49] = ((⟨2, 2, false, false⟩, ⟨0, 0, false, false⟩), true) := by decide +kernel
theorem gaw4 : lettersP 27 = [65, 66] := by decide +kernel
end Go.A
