/- References' texts, walked. -/
import Derived.Test.YtkfcfpnkgljdmaaDoorWa
import Derived.Test.YtkfcfpnkgljdmaaDoorWc
import Derived.Test.YtkfcfpnkgljdmaaDoorCodeWb
namespace Go.A
open Go.Proofs
set_option maxRecDepth 100000
set_option linter.unusedSimpArgs false
set_option linter.unusedVariables false

theorem dollar_ok (b : Bool) : Pure Tryd.prog 45 [.bool b] (.str (dolP b)) := by
  intro σ
  refine a45 (by simp) ?_
  cases b
  · simp (disch := first | assumption | omega | (simp only [List.length_append, List.length_cons, List.length_nil]; omega)) only [go_sem, reduceCtorEq, Nat.reduceEqDiff, Nat.reduceAdd, Nat.reduceSub, Nat.reduceMul, Nat.reduceLeDiff, Int.reduceLT, Int.reduceLE, Int.reduceEq, ↓reduceIte, Int.reduceNeg, Int.reduceAdd, Int.reduceSub, Int.reduceMul, true_imp_iff, forall_const, Nat.mul_one, Int.reduceToNat, Nat.reducePow, Int.reducePow, Bool.true_and, Bool.false_and, Bool.and_false]
    exact retC_by (Drop.refl _) (.refl _) ⟨rfl, rfl⟩
  · simp (disch := first | assumption | omega | (simp only [List.length_append, List.length_cons, List.length_nil]; omega)) only [go_sem, reduceCtorEq, Nat.reduceEqDiff, Nat.reduceAdd, Nat.reduceSub, Nat.reduceMul, Nat.reduceLeDiff, Int.reduceLT, Int.reduceLE, Int.reduceEq, ↓reduceIte, Int.reduceNeg, Int.reduceAdd, Int.reduceSub, Int.reduceMul, true_imp_iff, forall_const, Nat.mul_one, Int.reduceToNat, Nat.reducePow, Int.reducePow, Bool.true_and, Bool.false_and, Bool.and_false]
    exact retC_by (Drop.refl _) (.refl _) ⟨rfl, rfl⟩
theorem text_ok {σ : ASt} (ht : Tab σ) {r : Ref} (hg : r.good = true) : ACalls Tryd.prog 28 [refAV r] σ fun v σ' => v = .str (textP r) ∧ σ' = σ := by
  have hg' := hg
  simp only [Ref.good, decide_eq_true_eq] at hg'
  obtain ⟨g1, g2, g3, g4⟩ := hg'
  have hi := itoa_num g1 g2
  have hl := letters_len r.col
  have hn := (num_facts g1 g2).2.2.2.1
  have hd1 : (dolP r.absCol).length ≤ 1 := by unfold dolP; split <;> simp
  have hd2 : (dolP r.absRow).length ≤ 1 := by unfold dolP; split <;> simp
  obtain ⟨l, hlq⟩ : ∃ l, textP r = l := ⟨_, rfl⟩
  rw [hlq]
  unfold textP at hlq
  refine a28 (by simp) ?_
  simp (disch := first | assumption | omega | (simp only [List.length_append, List.length_cons, List.length_nil]; omega)) only [go_sem, reduceCtorEq, Nat.reduceEqDiff, Nat.reduceAdd, Nat.reduceSub, Nat.reduceMul, Nat.reduceLeDiff, Int.reduceLT, Int.reduceLE, Int.reduceEq, ↓reduceIte, Int.reduceNeg, Int.reduceAdd, Int.reduceSub, Int.reduceMul, true_imp_iff, forall_const, Nat.mul_one, Int.reduceToNat, Nat.reducePow, Int.reducePow, Bool.true_and, Bool.false_and, Bool.and_false, refAV]
  refine boxC_by rfl fun b hb => ?_
  simp (disch := first | assumption | omega | (simp only [List.length_append, List.length_cons, List.length_nil]; omega)) only [go_sem, reduceCtorEq, Nat.reduceEqDiff, Nat.reduceAdd, Nat.reduceSub, Nat.reduceMul, Nat.reduceLeDiff, Int.reduceLT, Int.reduceLE, Int.reduceEq, ↓reduceIte, Int.reduceNeg, Int.reduceAdd, Int.reduceSub, Int.reduceMul, true_imp_iff, forall_const, Nat.mul_one, Int.reduceToNat, Nat.reducePow, Int.reducePow, Bool.true_and, Bool.false_and, Bool.and_false]
  refine (dollar_ok _).use ?_
  simp (disch := first | assumption | omega | (simp only [List.length_append, List.length_cons, List.length_nil]; omega)) only [go_sem, reduceCtorEq, Nat.reduceEqDiff, Nat.reduceAdd, Nat.reduceSub, Nat.reduceMul, Nat.reduceLeDiff, Int.reduceLT, Int.reduceLE, Int.reduceEq, ↓reduceIte, Int.reduceNeg, Int.reduceAdd, Int.reduceSub, Int.reduceMul, true_imp_iff, forall_const, Nat.mul_one, Int.reduceToNat, Nat.reducePow, Int.reducePow, Bool.true_and, Bool.false_and, Bool.and_false]
  refine (letters_ok _).use ?_
  simp (disch := first | assumption | omega | (simp only [List.length_append, List.length_cons, List.length_nil]; omega)) only [go_sem, reduceCtorEq, Nat.reduceEqDiff, Nat.reduceAdd, Nat.reduceSub, Nat.reduceMul, Nat.reduceLeDiff, Int.reduceLT, Int.reduceLE, Int.reduceEq, ↓reduceIte, Int.reduceNeg, Int.reduceAdd, Int.reduceSub, Int.reduceMul, true_imp_iff, forall_const, Nat.mul_one, Int.reduceToNat, Nat.reducePow, Int.reducePow, Bool.true_and, Bool.false_and, Bool.and_false]
  refine (dollar_ok _).use ?_
  simp (disch := first | assumption | omega | (simp only [List.length_append, List.length_cons, List.length_nil]; omega)) only [go_sem, reduceCtorEq, Nat.reduceEqDiff, Nat.reduceAdd, Nat.reduceSub, Nat.reduceMul, Nat.reduceLeDiff, Int.reduceLT, Int.reduceLE, Int.reduceEq, ↓reduceIte, Int.reduceNeg, Int.reduceAdd, Int.reduceSub, Int.reduceMul, true_imp_iff, forall_const, Nat.mul_one, Int.reduceToNat, Nat.reducePow, Int.reducePow, Bool.true_and, Bool.false_and, Bool.and_false]
  refine (itoa_ok (ht.set hb) (by omega) (by omega)).mono ?_
  rintro v σ' ⟨rfl, rfl⟩
  rw [hi]
  simp (disch := first | assumption | omega | (simp only [List.length_append, List.length_cons, List.length_nil]; omega)) only [go_sem, reduceCtorEq, Nat.reduceEqDiff, Nat.reduceAdd, Nat.reduceSub, Nat.reduceMul, Nat.reduceLeDiff, Int.reduceLT, Int.reduceLE, Int.reduceEq, ↓reduceIte, Int.reduceNeg, Int.reduceAdd, Int.reduceSub, Int.reduceMul, true_imp_iff, forall_const, Nat.mul_one, Int.reduceToNat, Nat.reducePow, Int.reducePow, Bool.true_and, Bool.false_and, Bool.and_false, hlq]
  exact retC_by (by repeat' (first | exact Drop.refl _ | with_reducible refine Drop.off ?_ (by assumption))) (.refl _) ⟨rfl, rfl⟩
theorem atext_ok {σ : ASt} (ht : Tab σ) {a b : Ref} (ha : a.good = true) (hb : b.good = true) : ACalls Tryd.prog 29 [areaAV a b] σ fun v σ' => v = .str (textP a ++ [58] ++ textP b) ∧ σ' = σ := by
  have l1 := text_len ha
  have l2 := text_len hb
  refine a29 (by simp) ?_
  simp (disch := first | assumption | omega | (simp only [List.length_append, List.length_cons, List.length_nil]; omega)) only [go_sem, reduceCtorEq, Nat.reduceEqDiff, Nat.reduceAdd, Nat.reduceSub, Nat.reduceMul, Nat.reduceLeDiff, Int.reduceLT, Int.reduceLE, Int.reduceEq, ↓reduceIte, Int.reduceNeg, Int.reduceAdd, Int.reduceSub, Int.reduceMul, true_imp_iff, forall_const, Nat.mul_one, Int.reduceToNat, Nat.reducePow, Int.reducePow, Bool.true_and, Bool.false_and, Bool.and_false, areaAV]
  refine boxC_by rfl fun b0 hb0 => ?_
  simp (disch := first | assumption | omega | (simp only [List.length_append, List.length_cons, List.length_nil]; omega)) only [go_sem, reduceCtorEq, Nat.reduceEqDiff, Nat.reduceAdd, Nat.reduceSub, Nat.reduceMul, Nat.reduceLeDiff, Int.reduceLT, Int.reduceLE, Int.reduceEq, ↓reduceIte, Int.reduceNeg, Int.reduceAdd, Int.reduceSub, Int.reduceMul, true_imp_iff, forall_const, Nat.mul_one, Int.reduceToNat, Nat.reducePow, Int.reducePow, Bool.true_and, Bool.false_and, Bool.and_false]
  refine (text_ok (ht.set hb0) ha).mono ?_
  rintro v σ' ⟨rfl, rfl⟩
  have e1 : binS .add (textP a) [58] = some (.str (textP a ++ [58])) := binS_add (by simp only [List.length_cons, List.length_nil]; omega)
  have e2 : binS .add (textP a ++ [58]) (textP b) = some (.str (textP a ++ [58] ++ textP b)) := binS_add (by simp only [List.length_append, List.length_cons, List.length_nil]; omega)
  simp (disch := first | assumption | omega | (simp only [List.length_append, List.length_cons, List.length_nil]; omega)) only [go_sem, reduceCtorEq, Nat.reduceEqDiff, Nat.reduceAdd, Nat.reduceSub, Nat.reduceMul, Nat.reduceLeDiff, Int.reduceLT, Int.reduceLE, Int.reduceEq, ↓reduceIte, Int.reduceNeg, Int.reduceAdd, Int.reduceSub, Int.reduceMul, true_imp_iff, forall_const, Nat.mul_one, Int.reduceToNat, Nat.reducePow, Int.reducePow, Bool.true_and, Bool.false_and, Bool.and_false, e1]
  refine (text_ok (ht.set hb0) hb).mono ?_
  rintro v σ' ⟨rfl, rfl⟩
  simp (disch := first | assumption | omega | (simp only [List.length_append, List.length_cons, List.length_nil]; omega)) only [go_sem, reduceCtorEq, Nat.reduceEqDiff, Nat.reduceAdd, Nat.reduceSub, Nat.reduceMul, Nat.reduceLeDiff, Int.reduceLT, Int.reduceLE, Int.reduceEq, ↓reduceIte, Int.reduceNeg, Int.reduceAdd, Int.reduceSub, Int.reduceMul, true_imp_iff, forall_const, Nat.mul_one, Int.reduceToNat, Nat.reducePow, Int.reducePow, Bool.true_and, Bool.false_and, Bool.and_false, e2]
  exact retC_by (by repeat' (first | exact Drop.refl _ | with_reducible refine Drop.off ?_ (by assumption))) (.refl _) ⟨rfl, rfl⟩

end Go.A
