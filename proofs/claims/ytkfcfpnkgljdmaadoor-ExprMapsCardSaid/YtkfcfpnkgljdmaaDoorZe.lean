/- The builder's writes; small functions of the lexer, walked. -/
import Derived.Test.YtkfcfpnkgljdmaaDoorZd
import Derived.Test.YtkfcfpnkgljdmaaDoorCodeZe
namespace Go.A
open Go.Proofs Go.Lib
set_option maxRecDepth 100000
set_option linter.unusedSimpArgs false
set_option linter.unusedVariables false

theorem errs_ok : Pure Tryd.prog 44 [] (.sl .full (errTexts.map AV.str)) := by
  intro σ
  refine a44 (by simp) ?_
  simp (disch := first | assumption | omega | (simp only [List.length_append, List.length_cons, List.length_nil]; omega)) only [go_sem, reduceCtorEq, Nat.reduceEqDiff, Nat.reduceAdd, Nat.reduceSub, Nat.reduceMul, Nat.reduceLeDiff, Int.reduceLT, Int.reduceLE, Int.reduceEq, ↓reduceIte, Int.reduceNeg, Int.reduceAdd, Int.reduceSub, Int.reduceMul, true_imp_iff, forall_const, Nat.mul_one, Int.reduceToNat, Nat.reducePow, Int.reducePow, Bool.true_and, Bool.false_and, Bool.and_false]
  exact retC_by (by repeat' (first | exact Drop.refl _ | with_reducible refine Drop.off ?_ (by assumption))) (.refl _) ⟨rfl, rfl⟩

theorem index_dot : ∀ l : List UInt8, (cutDot l).2 = none ∧ indexByte l 46 = -1 ∧ (cutDot l).1 = l ∨ ∃ (i : Nat) (p : List UInt8), indexByte l 46 = i ∧ i < l.length ∧ cutDot l = (l.take i, some p) ∧ p = l.drop (i + 1)
  | [] => .inl ⟨rfl, rfl, rfl⟩
  | c :: l => by
    unfold indexByte cutDot
    by_cases hc : c.toNat = 46
    · have : c = 46 := by apply UInt8.toNat_inj.1; simpa using hc
      subst this
      exact .inr ⟨0, l, by simp, by simp, by simp, by simp⟩
    · have hne : ¬ (c == 46) = true := by
        intro h
        rw [beq_iff_eq] at h
        subst h
        exact hc rfl
      rw [if_neg hc, if_neg hne]
      rcases index_dot l with ⟨h1, h2, h3⟩ | ⟨i, p, h1, h2, h3, h4⟩
      · exact .inl ⟨h1, by rw [h2]; rfl, by rw [h3]⟩
      · refine .inr ⟨i + 1, p, ?_, by simpa using h2, ?_, by simpa using h4⟩
        · rw [h1, if_neg (by rw [beq_iff_eq]; omega)]; rfl
        · rw [h3]; rfl
theorem cutDot_len (l : List UInt8) : (cutDot l).1.length + ((cutDot l).2.getD []).length ≤ l.length := by
  rcases index_dot l with ⟨h1, h2, h3⟩ | ⟨i, p, h1, h2, h3, h4⟩
  · rw [h1, h3]; simp
  · rw [h3, h4]; simp; omega
end Go.A
