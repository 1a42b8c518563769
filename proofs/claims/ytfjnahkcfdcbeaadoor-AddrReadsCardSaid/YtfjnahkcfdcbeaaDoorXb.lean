/- The document's references: Good, Moved, Text, walked. -/
import Derived.Test.YtfjnahkcfdcbeaaDoorXa
import Derived.Test.YtfjnahkcfdcbeaaDoorCodeB
namespace Go.A
open Go.Proofs
set_option maxRecDepth 100000
set_option linter.unusedSimpArgs false
set_option linter.unusedVariables false

theorem rgood_ok (r : Ref) : Pure Tryd.prog 18 [refAV r] (.bool r.good) := by
  intro σ
  obtain ⟨row, col, ar, ac⟩ := r
  refine a18 (by simp) ?_
  repeat' (first | (simp (disch := first | assumption | omega | (simp only [List.length_append]; omega)) only [go_sem, reduceCtorEq, Nat.reduceEqDiff, Nat.reduceAdd, Nat.reduceSub, Nat.reduceMul, Nat.reduceLeDiff, Int.reduceLT, Int.reduceLE, Int.reduceEq, ↓reduceIte, Int.reduceNeg, Int.reduceAdd, Int.reduceSub, Int.reduceMul, true_imp_iff, forall_const, Nat.mul_one, Int.reduceToNat, Nat.reducePow, Int.reducePow, Bool.true_and, Bool.false_and, Bool.and_false, refAV]) | with_reducible refine gC_d (fun h => ?_) (fun h => ?_) | with_reducible refine gC_dn (fun h => ?_) (fun h => ?_) | with_reducible refine condC_d (fun h => ?_) (fun h => ?_) | with_reducible refine condC_n (fun h => ?_) (fun h => ?_) | with_reducible refine condC_b (fun h => ?_) (fun h => ?_) | with_reducible refine boxC_by ?_ fun b hb => ?_)
  all_goals refine retC_by (Drop.set (by assumption)) (.refl _) ⟨?_, rfl⟩
  all_goals (simp only [Ref.good, resV_one]; congr 1; rw [Bool.eq_iff_iff]; simp; try omega)
theorem rmoved_ok (r : Ref) (hg : r.good = true) (rows cols : Int) :
    Pure Tryd.prog 20 [refAV r, .int .i64 rows, .int .i64 cols] (.tuple [refAV (movedP r rows cols).1, .bool (movedP r rows cols).2]) := by
  intro σ
  obtain ⟨row, col, ar, ac⟩ := r
  simp only [Ref.good, decide_eq_true_eq] at hg
  obtain ⟨g1, g2, g3, g4⟩ := hg
  obtain ⟨q, hq⟩ : ∃ q, movedP ⟨row, col, ar, ac⟩ rows cols = q := ⟨_, rfl⟩
  rw [hq]
  refine a20 (by simp) ?_
  simp (disch := first | assumption | omega | (simp only [List.length_append]; omega)) only [go_sem, reduceCtorEq, Nat.reduceEqDiff, Nat.reduceAdd, Nat.reduceSub, Nat.reduceMul, Nat.reduceLeDiff, Int.reduceLT, Int.reduceLE, Int.reduceEq, ↓reduceIte, Int.reduceNeg, Int.reduceAdd, Int.reduceSub, Int.reduceMul, true_imp_iff, forall_const, Nat.mul_one, Int.reduceToNat, Nat.reducePow, Int.reducePow, Bool.true_and, Bool.false_and, Bool.and_false, refAV]
  refine boxC_by rfl fun b hb => ?_
  simp (disch := first | assumption | omega | (simp only [List.length_append]; omega)) only [go_sem, reduceCtorEq, Nat.reduceEqDiff, Nat.reduceAdd, Nat.reduceSub, Nat.reduceMul, Nat.reduceLeDiff, Int.reduceLT, Int.reduceLE, Int.reduceEq, ↓reduceIte, Int.reduceNeg, Int.reduceAdd, Int.reduceSub, Int.reduceMul, true_imp_iff, forall_const, Nat.mul_one, Int.reduceToNat, Nat.reducePow, Int.reducePow, Bool.true_and, Bool.false_and, Bool.and_false]
  refine allocC_by fun b2 hb2 => ?_
  obtain ⟨n1, n2, hb3⟩ := set_none hb2
  cases ar <;> cases ac
  repeat' (first | (simp (disch := first | assumption | omega | (simp only [List.length_append]; omega)) only [go_sem, reduceCtorEq, Nat.reduceEqDiff, Nat.reduceAdd, Nat.reduceSub, Nat.reduceMul, Nat.reduceLeDiff, Int.reduceLT, Int.reduceLE, Int.reduceEq, ↓reduceIte, Int.reduceNeg, Int.reduceAdd, Int.reduceSub, Int.reduceMul, true_imp_iff, forall_const, Nat.mul_one, Int.reduceToNat, Nat.reducePow, Int.reducePow, Bool.true_and, Bool.false_and, Bool.and_false, n1, n2]) | refine (rgood_ok ⟨_, _, _, _⟩).use ?_ | with_reducible refine gC_d (fun h => ?_) (fun h => ?_) | with_reducible refine gC_dn (fun h => ?_) (fun h => ?_) | with_reducible refine condC_d (fun h => ?_) (fun h => ?_) | with_reducible refine condC_n (fun h => ?_) (fun h => ?_) | with_reducible refine condC_b (fun h => ?_) (fun h => ?_) | with_reducible refine boxC_by ?_ fun b hb => ?_)
  all_goals refine retC_by ?_ (.refl _) ⟨?_, rfl⟩
  all_goals first
    | (repeat' (first | exact Drop.refl _ | with_reducible refine Drop.off ?_ (by assumption))
       done)
    | skip
  all_goals try simp only [resV_two, movedP, Ref.zero, Ref.good, Bool.false_eq_true, if_true, if_false, true_and, false_and, or_false, false_or, decide_eq_true_eq, decide_eq_false_iff_not, reduceCtorEq, Bool.not_eq_true', Bool.not_eq_false'] at *
  all_goals (repeat' (split at hq)) <;> first | (subst hq; rfl) | (exfalso; omega) | skip

theorem letterP_pos (c : Int) : 0 < letterP c ↔ (65 ≤ c ∧ c ≤ 90) ∨ (97 ≤ c ∧ c ≤ 122) := by
  unfold letterP
  split
  · omega
  · split <;> omega
theorem risLetter_ok (c : Int) : Pure Tryd.prog 34 [.int .u8 c] (.bool (decide (0 < letterP c))) := by
  intro σ
  refine a34 (by simp) ?_
  repeat' (first | (simp (disch := first | assumption | omega | (simp only [List.length_append]; omega)) only [go_sem, reduceCtorEq, Nat.reduceEqDiff, Nat.reduceAdd, Nat.reduceSub, Nat.reduceMul, Nat.reduceLeDiff, Int.reduceLT, Int.reduceLE, Int.reduceEq, ↓reduceIte, Int.reduceNeg, Int.reduceAdd, Int.reduceSub, Int.reduceMul, true_imp_iff, forall_const, Nat.mul_one, Int.reduceToNat, Nat.reducePow, Int.reducePow, Bool.true_and, Bool.false_and, Bool.and_false]) | with_reducible refine gC_d (fun h => ?_) (fun h => ?_) | with_reducible refine gC_dn (fun h => ?_) (fun h => ?_) | with_reducible refine condC_d (fun h => ?_) (fun h => ?_) | with_reducible refine condC_n (fun h => ?_) (fun h => ?_) | with_reducible refine condC_b (fun h => ?_) (fun h => ?_) | with_reducible refine boxC_by ?_ fun b hb => ?_)
  all_goals refine retC_by (Drop.refl _) (.refl _) ⟨?_, rfl⟩
  all_goals (simp only [resV_one]; congr 1; rw [Bool.eq_iff_iff]; simp only [decide_eq_true_eq, letterP_pos, Bool.false_eq_true, false_iff, true_iff]; try omega)

theorem refRect_ok (r : Ref) : Pure Tryd.prog 22 [refAV r] (rectAV r.row r.col 1 1) := by
  intro σ
  obtain ⟨row, col, ar, ac⟩ := r
  refine a22 (by simp) ?_
  simp (disch := first | assumption | omega | (simp only [List.length_append]; omega)) only [go_sem, reduceCtorEq, Nat.reduceEqDiff, Nat.reduceAdd, Nat.reduceSub, Nat.reduceMul, Nat.reduceLeDiff, Int.reduceLT, Int.reduceLE, Int.reduceEq, ↓reduceIte, Int.reduceNeg, Int.reduceAdd, Int.reduceSub, Int.reduceMul, true_imp_iff, forall_const, Nat.mul_one, Int.reduceToNat, Nat.reducePow, Int.reducePow, Bool.true_and, Bool.false_and, Bool.and_false, refAV]
  refine boxC_by rfl fun b hb => ?_
  simp (disch := first | assumption | omega | (simp only [List.length_append]; omega)) only [go_sem, reduceCtorEq, Nat.reduceEqDiff, Nat.reduceAdd, Nat.reduceSub, Nat.reduceMul, Nat.reduceLeDiff, Int.reduceLT, Int.reduceLE, Int.reduceEq, ↓reduceIte, Int.reduceNeg, Int.reduceAdd, Int.reduceSub, Int.reduceMul, true_imp_iff, forall_const, Nat.mul_one, Int.reduceToNat, Nat.reducePow, Int.reducePow, Bool.true_and, Bool.false_and, Bool.and_false]
  refine allocC_by fun b2 hb2 => ?_
  obtain ⟨n1, n2, hb3⟩ := set_none hb2
  simp (disch := first | assumption | omega | (simp only [List.length_append]; omega)) only [go_sem, reduceCtorEq, Nat.reduceEqDiff, Nat.reduceAdd, Nat.reduceSub, Nat.reduceMul, Nat.reduceLeDiff, Int.reduceLT, Int.reduceLE, Int.reduceEq, ↓reduceIte, Int.reduceNeg, Int.reduceAdd, Int.reduceSub, Int.reduceMul, true_imp_iff, forall_const, Nat.mul_one, Int.reduceToNat, Nat.reducePow, Int.reducePow, Bool.true_and, Bool.false_and, Bool.and_false, n1, n2]
  exact retC_by (by repeat' (first | exact Drop.refl _ | with_reducible refine Drop.off ?_ (by assumption))) (.refl _) ⟨rfl, rfl⟩

/-- The document's digits of any number. -/
theorem rdigits_ok (n : Nat) (hn : n < 18446744073709551616) : Pure Tryd.prog 37 [.int .u64 n] (.str (Lib.decDigits n)) := by
  intro σ
  refine a37 (by simp) ?_
  obtain ⟨D, hD⟩ : ∃ D, Lib.decDigits n = D := ⟨_, rfl⟩
  rw [hD]
  simp (disch := first | assumption | omega | (simp only [List.length_append]; omega)) only [go_sem, reduceCtorEq, Nat.reduceEqDiff, Nat.reduceAdd, Nat.reduceSub, Nat.reduceMul, Nat.reduceLeDiff, Int.reduceLT, Int.reduceLE, Int.reduceEq, ↓reduceIte, Int.reduceNeg, Int.reduceAdd, Int.reduceSub, Int.reduceMul, true_imp_iff, forall_const, Nat.mul_one, Int.reduceToNat, Nat.reducePow, Int.reducePow, Bool.true_and, Bool.false_and, Bool.and_false]
  refine wp_loop_on (fun (i : Nat × Nat × List UInt8) a σ' => i.1 ≤ 20 ∧ i.2.1 ≤ n ∧ i.2.1 < 10 ^ (20 - i.1) ∧ i.2.2.length = i.1 ∧ ((i.1 = 0 ∧ Lib.decDigits i.2.1 = D) ∨ (0 < i.1 ∧ (if i.2.1 = 0 then [] else Lib.decDigits i.2.1) ++ i.2.2 = D)) ∧ (a 0 = .int .u64 i.2.1 ∧ a 3 = .str i.2.2 ∧ a 4 = .int .i64 i.1) ∧ σ' = σ)
    (fun i => 20 - i.1) (0, n, []) ⟨by simp, Nat.le_refl _, by simp; omega, rfl, .inl ⟨rfl, hD⟩, ?_, rfl⟩ ?_
  · simp (disch := first | assumption | omega | (simp only [List.length_append]; omega)) only [go_sem, reduceCtorEq, Nat.reduceEqDiff, Nat.reduceAdd, Nat.reduceSub, Nat.reduceMul, Nat.reduceLeDiff, Int.reduceLT, Int.reduceLE, Int.reduceEq, ↓reduceIte, Int.reduceNeg, Int.reduceAdd, Int.reduceSub, Int.reduceMul, true_imp_iff, forall_const, Nat.mul_one, Int.reduceToNat, Nat.reducePow, Int.reducePow, Bool.true_and, Bool.false_and, Bool.and_false]
  rintro ⟨i, m, s⟩ a σ1 ⟨hi, hmn, hm, hs, hx, ⟨f0, f3, f4⟩, rfl⟩
  dsimp only at hi hmn hm hs hx f0 f3 f4
  by_cases hend : i = 20 ∨ (0 < i ∧ m = 0)
  · have hsD : s = D := by
      rcases hx with ⟨h1, h2⟩ | ⟨h1, h2⟩
      · omega
      · have : m = 0 := by
          rcases hend with rfl | h
          · simpa using hm
          · exact h.2
        rw [if_pos this] at h2
        exact h2
    by_cases h20 : i = 20
    · have e1 : ¬ (i : Int) < 20 := by omega
      simp (disch := first | assumption | omega | (simp only [List.length_append]; omega)) only [go_sem, reduceCtorEq, Nat.reduceEqDiff, Nat.reduceAdd, Nat.reduceSub, Nat.reduceMul, Nat.reduceLeDiff, Int.reduceLT, Int.reduceLE, Int.reduceEq, ↓reduceIte, Int.reduceNeg, Int.reduceAdd, Int.reduceSub, Int.reduceMul, true_imp_iff, forall_const, Nat.mul_one, Int.reduceToNat, Nat.reducePow, Int.reducePow, Bool.true_and, Bool.false_and, Bool.and_false, f0, f3, f4, e1]
      exact retC_by (Drop.refl _) (.refl _) ⟨by rw [← hsD]; rfl, rfl⟩
    · have e1 : (i : Int) < 20 := by omega
      have e2 : ¬ (i : Int) = 0 := by omega
      have e3 : ¬ (0 : Int) < m := by omega
      simp (disch := first | assumption | omega | (simp only [List.length_append]; omega)) only [go_sem, reduceCtorEq, Nat.reduceEqDiff, Nat.reduceAdd, Nat.reduceSub, Nat.reduceMul, Nat.reduceLeDiff, Int.reduceLT, Int.reduceLE, Int.reduceEq, ↓reduceIte, Int.reduceNeg, Int.reduceAdd, Int.reduceSub, Int.reduceMul, true_imp_iff, forall_const, Nat.mul_one, Int.reduceToNat, Nat.reducePow, Int.reducePow, Bool.true_and, Bool.false_and, Bool.and_false, f0, f3, f4, e1, e2, e3]
      exact retC_by (Drop.refl _) (.refl _) ⟨by rw [← hsD]; rfl, rfl⟩
  · have e1 : (i : Int) < 20 := by omega
    have t1 : (m : Int).tmod 10 = ((m % 10 : Nat) : Int) := rfl
    have t2 : (m : Int).tdiv 10 = ((m / 10 : Nat) : Int) := rfl
    have e4 : (48 + ((m % 10 : Nat) : Int)).toNat = 48 + m % 10 := by omega
    have hs1 : 1 + s.length ≤ 9223372036854775807 := by omega
    have hstep : (0 < i → m ≠ 0) → (if m / 10 = 0 then [] else Lib.decDigits (m / 10)) ++ (UInt8.ofNat (48 + m % 10) :: s) = Lib.decDigits m ++ s := by
      intro _
      rw [dec_step m]
      by_cases h10 : m < 10
      · rw [if_pos h10, if_pos (by omega), show m % 10 = m by omega]; rfl
      · rw [if_neg h10, if_neg (by omega)]; simp
    have g2 : m / 10 < 10 ^ (20 - (i + 1)) := by
      rw [show 20 - i = (20 - (i + 1)) + 1 by omega, Nat.pow_succ] at hm
      omega
    have g4 : (if m / 10 = 0 then [] else Lib.decDigits (m / 10)) ++ (UInt8.ofNat (48 + m % 10) :: s) = D := by
      rw [hstep (by omega)]
      rcases hx with ⟨h1, h2⟩ | ⟨h1, h2⟩
      · subst h1
        rw [List.eq_nil_of_length_eq_zero hs, List.append_nil]
        exact h2
      · rw [if_neg (by omega)] at h2
        exact h2
    by_cases h0 : i = 0
    · subst h0
      simp (disch := first | assumption | omega | (simp only [List.length_append]; omega)) only [go_sem, reduceCtorEq, Nat.reduceEqDiff, Nat.reduceAdd, Nat.reduceSub, Nat.reduceMul, Nat.reduceLeDiff, Int.reduceLT, Int.reduceLE, Int.reduceEq, ↓reduceIte, Int.reduceNeg, Int.reduceAdd, Int.reduceSub, Int.reduceMul, true_imp_iff, forall_const, Nat.mul_one, Int.reduceToNat, Nat.reducePow, Int.reducePow, Bool.true_and, Bool.false_and, Bool.and_false, f0, f3, f4, e1, t1, t2, e4, hs1]
      exact ⟨(0 + 1, m / 10, UInt8.ofNat (48 + m % 10) :: s), by dsimp only; omega, by dsimp only; omega, by dsimp only; omega, g2, by simp [hs], .inr ⟨by dsimp only; omega, g4⟩, rfl, rfl, rfl⟩
    · have e2 : ¬ (i : Int) = 0 := by omega
      have e3 : (0 : Int) < m := by omega
      simp (disch := first | assumption | omega | (simp only [List.length_append]; omega)) only [go_sem, reduceCtorEq, Nat.reduceEqDiff, Nat.reduceAdd, Nat.reduceSub, Nat.reduceMul, Nat.reduceLeDiff, Int.reduceLT, Int.reduceLE, Int.reduceEq, ↓reduceIte, Int.reduceNeg, Int.reduceAdd, Int.reduceSub, Int.reduceMul, true_imp_iff, forall_const, Nat.mul_one, Int.reduceToNat, Nat.reducePow, Int.reducePow, Bool.true_and, Bool.false_and, Bool.and_false, f0, f3, f4, e1, e2, e3, t1, t2, e4, hs1]
      exact ⟨(i + 1, m / 10, UInt8.ofNat (48 + m % 10) :: s), by dsimp only; omega, by dsimp only; omega, by dsimp only; omega, g2, by simp [hs], .inr ⟨by dsimp only; omega, g4⟩, rfl, rfl, rfl⟩
end Go.A
