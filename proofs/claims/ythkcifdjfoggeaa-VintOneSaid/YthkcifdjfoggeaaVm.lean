/- VintOne, walked. -/
import Derived.Test.YthkcifdjfoggeaaVj
namespace Go.A
open Go.Proofs Go.Vint
set_option maxRecDepth 100000
set_option linter.unusedSimpArgs false
set_option linter.unusedVariables false

theorem done0 {e : Int} {p n : Nat} (h : (if p < n then firstErr e 3 else e) = 0) : e = 0 ∧ n ≤ p := by
  unfold firstErr at h
  split at h
  · split at h
    · omega
    · exact absurd h (by assumption)
  · exact ⟨h, by omega⟩

set_option maxHeartbeats 1000000 in
theorem VintOne_any (l : List UInt8) (σ : ASt) : ACalls Try.prog 7 [.str l] σ fun v _ => v = .bool true := by
  refine a7 (by simp) ?_
  simp (disch := first | assumption | omega | (simp only [List.length_append]; omega)) only [go_sem, reduceCtorEq, Nat.reduceEqDiff, Nat.reduceAdd, Nat.reduceSub, Nat.reduceMul, Nat.reduceLeDiff, Int.reduceLT, Int.reduceLE, Int.reduceEq, ↓reduceIte, Int.reduceNeg, Int.reduceAdd, Int.reduceSub, Int.reduceMul, true_imp_iff, forall_const, Nat.mul_one, Int.reduceToNat, Nat.reducePow, Int.reducePow, Bool.true_and, Bool.false_and, Bool.and_false]
  refine (cut_ok l 100).use ?_
  have hl : (l.take 100).length ≤ 100 := by simp; omega
  generalize l.take 100 = s at hl
  simp (disch := first | assumption | omega | (simp only [List.length_append]; omega)) only [go_sem, reduceCtorEq, Nat.reduceEqDiff, Nat.reduceAdd, Nat.reduceSub, Nat.reduceMul, Nat.reduceLeDiff, Int.reduceLT, Int.reduceLE, Int.reduceEq, ↓reduceIte, Int.reduceNeg, Int.reduceAdd, Int.reduceSub, Int.reduceMul, true_imp_iff, forall_const, Nat.mul_one, Int.reduceToNat, Nat.reducePow, Int.reducePow, Bool.true_and, Bool.false_and, Bool.and_false]
  refine (rread_ok s σ).mono ?_
  rintro v σ' ⟨b, rfl, hb, rfl⟩
  simp (disch := first | assumption | omega | (simp only [List.length_append]; omega)) only [go_sem, reduceCtorEq, Nat.reduceEqDiff, Nat.reduceAdd, Nat.reduceSub, Nat.reduceMul, Nat.reduceLeDiff, Int.reduceLT, Int.reduceLE, Int.reduceEq, ↓reduceIte, Int.reduceNeg, Int.reduceAdd, Int.reduceSub, Int.reduceMul, true_imp_iff, forall_const, Nat.mul_one, Int.reduceToNat, Nat.reducePow, Int.reducePow, Bool.true_and, Bool.false_and, Bool.and_false]
  refine (ruint_ok s 0 0 b _ (ASt.set_same _ _ _) (by omega) (by omega)).mono ?_
  rintro v σ' ⟨rfl, rfl⟩
  simp (disch := first | assumption | omega | (simp only [List.length_append]; omega)) only [go_sem, reduceCtorEq, Nat.reduceEqDiff, Nat.reduceAdd, Nat.reduceSub, Nat.reduceMul, Nat.reduceLeDiff, Int.reduceLT, Int.reduceLE, Int.reduceEq, ↓reduceIte, Int.reduceNeg, Int.reduceAdd, Int.reduceSub, Int.reduceMul, true_imp_iff, forall_const, Nat.mul_one, Int.reduceToNat, Nat.reducePow, Int.reducePow, Bool.true_and, Bool.false_and, Bool.and_false]
  obtain ⟨u1, u2, u3, u4⟩ := readU_facts s 0 0 (by omega)
  have hu : (if (readU s 0 0).2.1 < s.length then firstErr (readU s 0 0).2.2 3 else (readU s 0 0).2.2) = 0 → s = uintB (readU s 0 0).1 := fun h => by
    obtain ⟨h1, h2⟩ := done0 h
    obtain ⟨_, _, h5⟩ := readU_ok (Prod.ext rfl (Prod.ext rfl h1) : readU s 0 0 = ((readU s 0 0).1, (readU s 0 0).2.1, 0))
    rw [List.drop_eq_nil_of_le h2] at h5
    simpa using h5
  refine (rdone_ok s _ _ b _ (ASt.set_same _ _ _)).mono ?_
  rintro v σ' ⟨rfl, rfl⟩
  generalize readU s 0 0 = R at *
  obtain ⟨u, p, e⟩ := R
  dsimp only at *
  obtain ⟨D, hD⟩ : ∃ D, (if p < s.length then firstErr e 3 else e) = D := ⟨_, rfl⟩
  rw [hD] at hu ⊢
  have rest : ∀ (a : AFr), a 0 = .str s → ACode.wp Try.prog c7_24 (RetQ [.t 2] fun v _ => v = .bool true) a (σ.set b (rd s p D)) := by
    intro a h0
    simp (disch := first | assumption | omega | (simp only [List.length_append]; omega)) only [go_sem, reduceCtorEq, Nat.reduceEqDiff, Nat.reduceAdd, Nat.reduceSub, Nat.reduceMul, Nat.reduceLeDiff, Int.reduceLT, Int.reduceLE, Int.reduceEq, ↓reduceIte, Int.reduceNeg, Int.reduceAdd, Int.reduceSub, Int.reduceMul, true_imp_iff, forall_const, Nat.mul_one, Int.reduceToNat, Nat.reducePow, Int.reducePow, Bool.true_and, Bool.false_and, Bool.and_false, h0]
    refine (rread_ok s _).mono ?_
    rintro v σ' ⟨c, rfl, hc, rfl⟩
    simp (disch := first | assumption | omega | (simp only [List.length_append]; omega)) only [go_sem, reduceCtorEq, Nat.reduceEqDiff, Nat.reduceAdd, Nat.reduceSub, Nat.reduceMul, Nat.reduceLeDiff, Int.reduceLT, Int.reduceLE, Int.reduceEq, ↓reduceIte, Int.reduceNeg, Int.reduceAdd, Int.reduceSub, Int.reduceMul, true_imp_iff, forall_const, Nat.mul_one, Int.reduceToNat, Nat.reducePow, Int.reducePow, Bool.true_and, Bool.false_and, Bool.and_false, h0]
    refine (rrising_ok s 0 0 100 c _ (ASt.set_same _ _ _) (by omega) (by omega) (by omega)).mono ?_
    rintro v σ' ⟨rfl, rfl⟩
    simp (disch := first | assumption | omega | (simp only [List.length_append]; omega)) only [go_sem, reduceCtorEq, Nat.reduceEqDiff, Nat.reduceAdd, Nat.reduceSub, Nat.reduceMul, Nat.reduceLeDiff, Int.reduceLT, Int.reduceLE, Int.reduceEq, ↓reduceIte, Int.reduceNeg, Int.reduceAdd, Int.reduceSub, Int.reduceMul, true_imp_iff, forall_const, Nat.mul_one, Int.reduceToNat, Nat.reducePow, Int.reducePow, Bool.true_and, Bool.false_and, Bool.and_false, h0]
    have hR : (if (risingR s 0 0 100).2.1 < s.length then firstErr (risingR s 0 0 100).2.2 3 else (risingR s 0 0 100).2.2) = 0 → Rises (risingR s 0 0 100).1 ∧ (risingR s 0 0 100).1.length ≤ 100 ∧ s = risingB (risingR s 0 0 100).1 := fun h => by
      obtain ⟨h1, h2⟩ := done0 h
      obtain ⟨_, h4, h5, h6⟩ := risingR_of (by omega) (Prod.ext rfl (Prod.ext rfl h1) : risingR s 0 0 100 = ((risingR s 0 0 100).1, (risingR s 0 0 100).2.1, 0))
      rw [List.drop_eq_nil_of_le h2] at h5
      exact ⟨h4, h6, by simpa using h5⟩
    refine (rdone_ok s _ _ c _ (ASt.set_same _ _ _)).mono ?_
    rintro v σ' ⟨rfl, rfl⟩
    generalize risingR s 0 0 100 = R at *
    obtain ⟨L, p2, e2⟩ := R
    dsimp only at *
    obtain ⟨D2, hD2⟩ : ∃ D, (if p2 < s.length then firstErr e2 3 else e2) = D := ⟨_, rfl⟩
    rw [hD2] at hR ⊢
    have rest2 : ∀ (a : AFr), a 0 = .str s → ACode.wp Try.prog c7_21 (RetQ [.t 2] fun v _ => v = .bool true) a ((σ.set b (rd s p D)).set c (rd s p2 D2)) := by
      intro a h0
      simp (disch := first | assumption | omega | (simp only [List.length_append]; omega)) only [go_sem, reduceCtorEq, Nat.reduceEqDiff, Nat.reduceAdd, Nat.reduceSub, Nat.reduceMul, Nat.reduceLeDiff, Int.reduceLT, Int.reduceLE, Int.reduceEq, ↓reduceIte, Int.reduceNeg, Int.reduceAdd, Int.reduceSub, Int.reduceMul, true_imp_iff, forall_const, Nat.mul_one, Int.reduceToNat, Nat.reducePow, Int.reducePow, Bool.true_and, Bool.false_and, Bool.and_false, h0]
      refine (rread_ok s _).mono ?_
      rintro v σ' ⟨d, rfl, hd, rfl⟩
      simp (disch := first | assumption | omega | (simp only [List.length_append]; omega)) only [go_sem, reduceCtorEq, Nat.reduceEqDiff, Nat.reduceAdd, Nat.reduceSub, Nat.reduceMul, Nat.reduceLeDiff, Int.reduceLT, Int.reduceLE, Int.reduceEq, ↓reduceIte, Int.reduceNeg, Int.reduceAdd, Int.reduceSub, Int.reduceMul, true_imp_iff, forall_const, Nat.mul_one, Int.reduceToNat, Nat.reducePow, Int.reducePow, Bool.true_and, Bool.false_and, Bool.and_false, h0]
      refine (rspans_ok s 0 0 100 d _ (ASt.set_same _ _ _) (by omega) (by omega) (by omega)).mono ?_
      rintro v σ' ⟨rfl, rfl⟩
      simp (disch := first | assumption | omega | (simp only [List.length_append]; omega)) only [go_sem, reduceCtorEq, Nat.reduceEqDiff, Nat.reduceAdd, Nat.reduceSub, Nat.reduceMul, Nat.reduceLeDiff, Int.reduceLT, Int.reduceLE, Int.reduceEq, ↓reduceIte, Int.reduceNeg, Int.reduceAdd, Int.reduceSub, Int.reduceMul, true_imp_iff, forall_const, Nat.mul_one, Int.reduceToNat, Nat.reducePow, Int.reducePow, Bool.true_and, Bool.false_and, Bool.and_false, h0]
      refine awake_ok.use ?_
      simp (disch := first | assumption | omega | (simp only [List.length_append]; omega)) only [go_sem, reduceCtorEq, Nat.reduceEqDiff, Nat.reduceAdd, Nat.reduceSub, Nat.reduceMul, Nat.reduceLeDiff, Int.reduceLT, Int.reduceLE, Int.reduceEq, ↓reduceIte, Int.reduceNeg, Int.reduceAdd, Int.reduceSub, Int.reduceMul, true_imp_iff, forall_const, Nat.mul_one, Int.reduceToNat, Nat.reducePow, Int.reducePow, Bool.true_and, Bool.false_and, Bool.and_false, h0]
      have hS : (if (spansR s 0 0 100).2.1 < s.length then firstErr (spansR s 0 0 100).2.2 3 else (spansR s 0 0 100).2.2) = 0 → Rises (flat (spansR s 0 0 100).1) ∧ (spansR s 0 0 100).1.length ≤ 100 ∧ s = spansB (spansR s 0 0 100).1 := fun h => by
        obtain ⟨h1, h2⟩ := done0 h
        obtain ⟨_, h4, h5, h6⟩ := spansR_of (by omega) (Prod.ext rfl (Prod.ext rfl h1) : spansR s 0 0 100 = ((spansR s 0 0 100).1, (spansR s 0 0 100).2.1, 0))
        rw [List.drop_eq_nil_of_le h2] at h5
        exact ⟨h4, h6, by simpa using h5⟩
      refine (rdone_ok s _ _ d _ (ASt.set_same _ _ _)).mono ?_
      rintro v σ' ⟨rfl, rfl⟩
      generalize spansR s 0 0 100 = R at *
      obtain ⟨X, p3, e3⟩ := R
      dsimp only at *
      obtain ⟨D3, hD3⟩ : ∃ D, (if p3 < s.length then firstErr e3 3 else e3) = D := ⟨_, rfl⟩
      rw [hD3] at hS ⊢
      by_cases h3 : D3 = 0
      · obtain ⟨k1, k2, k3⟩ := hS h3
        simp (disch := first | assumption | omega | (simp only [List.length_append]; omega)) only [go_sem, reduceCtorEq, Nat.reduceEqDiff, Nat.reduceAdd, Nat.reduceSub, Nat.reduceMul, Nat.reduceLeDiff, Int.reduceLT, Int.reduceLE, Int.reduceEq, ↓reduceIte, Int.reduceNeg, Int.reduceAdd, Int.reduceSub, Int.reduceMul, true_imp_iff, forall_const, Nat.mul_one, Int.reduceToNat, Nat.reducePow, Int.reducePow, Bool.true_and, Bool.false_and, Bool.and_false, h0, h3]
        refine (told_ok X (by omega)).use ?_
        simp (disch := first | assumption | omega | (simp only [List.length_append]; omega)) only [go_sem, reduceCtorEq, Nat.reduceEqDiff, Nat.reduceAdd, Nat.reduceSub, Nat.reduceMul, Nat.reduceLeDiff, Int.reduceLT, Int.reduceLE, Int.reduceEq, ↓reduceIte, Int.reduceNeg, Int.reduceAdd, Int.reduceSub, Int.reduceMul, true_imp_iff, forall_const, Nat.mul_one, Int.reduceToNat, Nat.reducePow, Int.reducePow, Bool.true_and, Bool.false_and, Bool.and_false, h0]
        refine (refSpans_ok X k1 (by omega)).use ?_
        rw [← k3]
        simp (disch := first | assumption | omega | (simp only [List.length_append]; omega)) only [go_sem, reduceCtorEq, Nat.reduceEqDiff, Nat.reduceAdd, Nat.reduceSub, Nat.reduceMul, Nat.reduceLeDiff, Int.reduceLT, Int.reduceLE, Int.reduceEq, ↓reduceIte, Int.reduceNeg, Int.reduceAdd, Int.reduceSub, Int.reduceMul, true_imp_iff, forall_const, Nat.mul_one, Int.reduceToNat, Nat.reducePow, Int.reducePow, Bool.true_and, Bool.false_and, Bool.and_false, h0]
        exact retC_by (Drop.refl _) (.refl _) rfl
      · simp (disch := first | assumption | omega | (simp only [List.length_append]; omega)) only [go_sem, reduceCtorEq, Nat.reduceEqDiff, Nat.reduceAdd, Nat.reduceSub, Nat.reduceMul, Nat.reduceLeDiff, Int.reduceLT, Int.reduceLE, Int.reduceEq, ↓reduceIte, Int.reduceNeg, Int.reduceAdd, Int.reduceSub, Int.reduceMul, true_imp_iff, forall_const, Nat.mul_one, Int.reduceToNat, Nat.reducePow, Int.reducePow, Bool.true_and, Bool.false_and, Bool.and_false, h0, h3]
        exact retC_by (Drop.refl _) (.refl _) rfl
    by_cases h2 : D2 = 0
    · obtain ⟨k1, k2, k3⟩ := hR h2
      rw [h2] at rest2
      obtain ⟨F, hF⟩ : ∃ F, F = ACode.wp Try.prog c7_21 := ⟨_, rfl⟩
      rw [← hF] at rest2
      simp (disch := first | assumption | omega | (simp only [List.length_append]; omega)) only [go_sem, reduceCtorEq, Nat.reduceEqDiff, Nat.reduceAdd, Nat.reduceSub, Nat.reduceMul, Nat.reduceLeDiff, Int.reduceLT, Int.reduceLE, Int.reduceEq, ↓reduceIte, Int.reduceNeg, Int.reduceAdd, Int.reduceSub, Int.reduceMul, true_imp_iff, forall_const, Nat.mul_one, Int.reduceToNat, Nat.reducePow, Int.reducePow, Bool.true_and, Bool.false_and, Bool.and_false, h0, h2, ←hF]
      refine (refRising_ok L k1 (by omega)).use ?_
      rw [← k3]
      simp (disch := first | assumption | omega | (simp only [List.length_append]; omega)) only [go_sem, reduceCtorEq, Nat.reduceEqDiff, Nat.reduceAdd, Nat.reduceSub, Nat.reduceMul, Nat.reduceLeDiff, Int.reduceLT, Int.reduceLE, Int.reduceEq, ↓reduceIte, Int.reduceNeg, Int.reduceAdd, Int.reduceSub, Int.reduceMul, true_imp_iff, forall_const, Nat.mul_one, Int.reduceToNat, Nat.reducePow, Int.reducePow, Bool.true_and, Bool.false_and, Bool.and_false, h0, ←hF]
      refine rest2 _ ?_
      simp (disch := first | assumption | omega | (simp only [List.length_append]; omega)) only [go_sem, reduceCtorEq, Nat.reduceEqDiff, Nat.reduceAdd, Nat.reduceSub, Nat.reduceMul, Nat.reduceLeDiff, Int.reduceLT, Int.reduceLE, Int.reduceEq, ↓reduceIte, Int.reduceNeg, Int.reduceAdd, Int.reduceSub, Int.reduceMul, true_imp_iff, forall_const, Nat.mul_one, Int.reduceToNat, Nat.reducePow, Int.reducePow, Bool.true_and, Bool.false_and, Bool.and_false, h0]
    · obtain ⟨F, hF⟩ : ∃ F, F = ACode.wp Try.prog c7_21 := ⟨_, rfl⟩
      rw [← hF] at rest2
      simp (disch := first | assumption | omega | (simp only [List.length_append]; omega)) only [go_sem, reduceCtorEq, Nat.reduceEqDiff, Nat.reduceAdd, Nat.reduceSub, Nat.reduceMul, Nat.reduceLeDiff, Int.reduceLT, Int.reduceLE, Int.reduceEq, ↓reduceIte, Int.reduceNeg, Int.reduceAdd, Int.reduceSub, Int.reduceMul, true_imp_iff, forall_const, Nat.mul_one, Int.reduceToNat, Nat.reducePow, Int.reducePow, Bool.true_and, Bool.false_and, Bool.and_false, h0, h2, ←hF]
      refine rest2 _ ?_
      simp (disch := first | assumption | omega | (simp only [List.length_append]; omega)) only [go_sem, reduceCtorEq, Nat.reduceEqDiff, Nat.reduceAdd, Nat.reduceSub, Nat.reduceMul, Nat.reduceLeDiff, Int.reduceLT, Int.reduceLE, Int.reduceEq, ↓reduceIte, Int.reduceNeg, Int.reduceAdd, Int.reduceSub, Int.reduceMul, true_imp_iff, forall_const, Nat.mul_one, Int.reduceToNat, Nat.reducePow, Int.reducePow, Bool.true_and, Bool.false_and, Bool.and_false, h0]
  obtain ⟨F, hF⟩ : ∃ F, F = ACode.wp Try.prog c7_24 := ⟨_, rfl⟩
  rw [← hF] at rest
  by_cases h1 : D = 0
  · have k := hu h1
    rw [h1] at rest
    simp (disch := first | assumption | omega | (simp only [List.length_append]; omega)) only [go_sem, reduceCtorEq, Nat.reduceEqDiff, Nat.reduceAdd, Nat.reduceSub, Nat.reduceMul, Nat.reduceLeDiff, Int.reduceLT, Int.reduceLE, Int.reduceEq, ↓reduceIte, Int.reduceNeg, Int.reduceAdd, Int.reduceSub, Int.reduceMul, true_imp_iff, forall_const, Nat.mul_one, Int.reduceToNat, Nat.reducePow, Int.reducePow, Bool.true_and, Bool.false_and, Bool.and_false, h1, ←hF]
    refine (refUint_ok' u (by omega) (by omega)).use ?_
    rw [Int.toNat_natCast, ← k]
    simp (disch := first | assumption | omega | (simp only [List.length_append]; omega)) only [go_sem, reduceCtorEq, Nat.reduceEqDiff, Nat.reduceAdd, Nat.reduceSub, Nat.reduceMul, Nat.reduceLeDiff, Int.reduceLT, Int.reduceLE, Int.reduceEq, ↓reduceIte, Int.reduceNeg, Int.reduceAdd, Int.reduceSub, Int.reduceMul, true_imp_iff, forall_const, Nat.mul_one, Int.reduceToNat, Nat.reducePow, Int.reducePow, Bool.true_and, Bool.false_and, Bool.and_false, ←hF]
    refine rest _ ?_
    simp (disch := first | assumption | omega | (simp only [List.length_append]; omega)) only [go_sem, reduceCtorEq, Nat.reduceEqDiff, Nat.reduceAdd, Nat.reduceSub, Nat.reduceMul, Nat.reduceLeDiff, Int.reduceLT, Int.reduceLE, Int.reduceEq, ↓reduceIte, Int.reduceNeg, Int.reduceAdd, Int.reduceSub, Int.reduceMul, true_imp_iff, forall_const, Nat.mul_one, Int.reduceToNat, Nat.reducePow, Int.reducePow, Bool.true_and, Bool.false_and, Bool.and_false]
  · simp (disch := first | assumption | omega | (simp only [List.length_append]; omega)) only [go_sem, reduceCtorEq, Nat.reduceEqDiff, Nat.reduceAdd, Nat.reduceSub, Nat.reduceMul, Nat.reduceLeDiff, Int.reduceLT, Int.reduceLE, Int.reduceEq, ↓reduceIte, Int.reduceNeg, Int.reduceAdd, Int.reduceSub, Int.reduceMul, true_imp_iff, forall_const, Nat.mul_one, Int.reduceToNat, Nat.reducePow, Int.reducePow, Bool.true_and, Bool.false_and, Bool.and_false, h1, ←hF]
    refine rest _ ?_
    simp (disch := first | assumption | omega | (simp only [List.length_append]; omega)) only [go_sem, reduceCtorEq, Nat.reduceEqDiff, Nat.reduceAdd, Nat.reduceSub, Nat.reduceMul, Nat.reduceLeDiff, Int.reduceLT, Int.reduceLE, Int.reduceEq, ↓reduceIte, Int.reduceNeg, Int.reduceAdd, Int.reduceSub, Int.reduceMul, true_imp_iff, forall_const, Nat.mul_one, Int.reduceToNat, Nat.reducePow, Int.reducePow, Bool.true_and, Bool.false_and, Bool.and_false]
end Go.A
