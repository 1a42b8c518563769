/- The reader's methods, walked: whole numbers, texts, counts, lists. -/
import Derived.Test.YthkcifdjfoggeaaVe
namespace Go.A
open Go.Proofs Go.Vint
set_option maxRecDepth 100000
set_option linter.unusedSimpArgs false
set_option linter.unusedVariables false

theorem scan_facts : ∀ (l : List UInt8) (k U : Nat), U < 128 ^ k → k ≤ 9 → (scan k U l).2.1 < 18446744073709551616 ∧ (scan k U l).2.2 ≤ k + l.length ∧ ((scan k U l).1 = 0 ∨ (scan k U l).1 = 2 ∧ (scan k U l).2.1 = 0 ∧ (scan k U l).2.2 = 0 ∨ (scan k U l).1 = 3 ∧ (scan k U l).2.1 = 0 ∧ (scan k U l).2.2 = 0)
  | [], k, U, hU, hk => by simp [scan]
  | c :: r, k, U, hU, hk => by
    have hbd := or_shift_bd (k := k) (U := U) (c := c) hU
    have hcb := c.toNat_lt
    unfold scan
    split
    · simp
    · rename_i hbad
      split
      · refine ⟨?_, by simp only [List.length_cons]; omega, .inl rfl⟩
        dsimp only
        rcases Nat.lt_or_ge k 9 with h | h
        · have h2 : 128 ^ (k + 1) ≤ 128 ^ 9 := Nat.pow_le_pow_right (by omega) (by omega)
          have e9 : (128 : Nat) ^ 9 = 9223372036854775808 := by decide
          omega
        · obtain rfl : k = 9 := by omega
          have e9 : (128 : Nat) ^ 9 = 9223372036854775808 := by decide
          rw [e9] at hU ⊢
          have : c.toNat ≤ 1 := by omega
          omega
      · have hk9 : k ≠ 9 := by omega
        have ih := scan_facts r (k + 1) (U + c.toNat % 128 * 128 ^ k) hbd (by omega)
        refine ⟨ih.1, by simp; omega, ih.2.2⟩
theorem readU_facts (s : List UInt8) (p : Nat) (e : Int) (hp : p ≤ s.length) : (readU s p e).1 < 18446744073709551616 ∧ (readU s p e).2.1 ≤ s.length ∧ ((readU s p e).2.2 ≠ 0 → (readU s p e).1 = 0 ∧ (readU s p e).2.1 = p) ∧ (e ≠ 0 → (readU s p e).2.2 = e) := by
  unfold readU
  by_cases he : e ≠ 0
  · rw [if_pos he]; simp; exact hp
  · rw [if_neg he]
    obtain ⟨h1, h2, h3⟩ := scan_facts (s.drop p) 0 0 (by simp) (by omega)
    refine ⟨h1, by simp at h2 ⊢; omega, fun h => ?_, fun h => absurd h he⟩
    dsimp only at h ⊢
    omega

/-- What was folded, unfolded. -/
def unfI (u : Nat) : Int := if u % 2 = 1 then -((u / 2 : Nat) : Int) - 1 else ((u / 2 : Nat) : Int)
theorem unf_fold {n : Int} (h1 : -9223372036854775808 ≤ n) (h2 : n ≤ 9223372036854775807) : unfI (foldI n).toNat = n := by
  unfold foldI unfI
  split <;> split <;> omega
theorem unf_bits {u : Nat} (hu : u < 18446744073709551616) :
    IntKind.wrap .i64 ((BitVec.ofInt 64 ((u : Int) / 2) ^^^ BitVec.ofInt 64 (IntKind.wrap .i64 (0 - IntKind.wrap .i64 ((BitVec.ofInt 64 (u : Int) &&& BitVec.ofInt 64 1).toNat : Int)))).toNat : Int) = unfI u := by
  have ofi : ∀ a : Nat, a < 18446744073709551616 → (BitVec.ofInt 64 (a : Int)).toNat = a := fun a ha => ofInt_u64 a ha
  have h1 : (BitVec.ofInt 64 (u : Int) &&& BitVec.ofInt 64 1).toNat = u % 2 := by
    rw [BitVec.toNat_and, ofi u hu, show BitVec.ofInt 64 1 = 1#64 by decide +kernel]
    simp [Nat.and_one_is_mod]
  rw [h1, show (u : Int) / 2 = ((u / 2 : Nat) : Int) by omega]
  unfold unfI
  rcases Nat.mod_two_eq_zero_or_one u with h | h
  · rw [h, if_neg (by omega)]
    have e3 : BitVec.ofInt 64 (IntKind.wrap .i64 (0 - IntKind.wrap .i64 ((0 : Nat) : Int))) = 0#64 := by decide +kernel
    rw [e3, BitVec.xor_zero, ofi _ (by omega), wrap_i64 (by omega) (by omega)]
  · rw [h, if_pos rfl]
    have e3 : BitVec.ofInt 64 (IntKind.wrap .i64 (0 - IntKind.wrap .i64 ((1 : Nat) : Int))) = BitVec.allOnes 64 := by decide +kernel
    rw [e3, BitVec.xor_allOnes, BitVec.toNat_not, ofi _ (by omega)]
    rw [IntKind.wrap_i64]
    omega
theorem rint_ok (s : List UInt8) (p : Nat) (e : Int) (b : Nat) (σ : ASt) (hb : σ b = rd s p e) (hs : s.length ≤ 4611686018427387904) (hp : p ≤ s.length) :
    ACalls Try.prog 35 [.ptr b 0] σ fun v σ' => v = .int .i64 (unfI (readU s p e).1) ∧ σ' = σ.set b (rd s (readU s p e).2.1 (readU s p e).2.2) := by
  refine a35 (by simp) ?_
  obtain ⟨f1, f2, f3, f4⟩ := readU_facts s p e hp
  simp (disch := first | assumption | omega | (simp only [List.length_append]; omega)) only [go_sem, reduceCtorEq, Nat.reduceEqDiff, Nat.reduceAdd, Nat.reduceSub, Nat.reduceMul, Nat.reduceLeDiff, Int.reduceLT, Int.reduceLE, Int.reduceEq, ↓reduceIte, Int.reduceNeg, Int.reduceAdd, Int.reduceSub, Int.reduceMul, true_imp_iff, forall_const, Nat.mul_one, Int.reduceToNat, Nat.reducePow, Int.reducePow, Bool.true_and, Bool.false_and, Bool.and_false]
  refine (ruint_ok s p e b σ hb hs hp).mono ?_
  rintro v σ' ⟨rfl, rfl⟩
  generalize readU s p e = R at *
  obtain ⟨u, p', e'⟩ := R
  dsimp only at *
  simp (disch := first | assumption | omega | (simp only [List.length_append]; omega)) only [go_sem, reduceCtorEq, Nat.reduceEqDiff, Nat.reduceAdd, Nat.reduceSub, Nat.reduceMul, Nat.reduceLeDiff, Int.reduceLT, Int.reduceLE, Int.reduceEq, ↓reduceIte, Int.reduceNeg, Int.reduceAdd, Int.reduceSub, Int.reduceMul, true_imp_iff, forall_const, Nat.mul_one, Int.reduceToNat, Nat.reducePow, Int.reducePow, Bool.true_and, Bool.false_and, Bool.and_false]
  exact retC_by (Drop.refl _) (.refl _) ⟨congrArg (AV.int .i64) (unf_bits f1), rfl⟩

def textP (s : List UInt8) (p : Nat) (e : Int) (most : Nat) : List UInt8 × Nat × Int :=
  if (readU s p e).2.2 ≠ 0 then ([], (readU s p e).2.1, (readU s p e).2.2)
  else if most < (readU s p e).1 then ([], (readU s p e).2.1, 11)
  else if s.length < (readU s p e).2.1 + (readU s p e).1 then ([], (readU s p e).2.1, 2)
  else ((s.drop (readU s p e).2.1).take (readU s p e).1, (readU s p e).2.1 + (readU s p e).1, 0)
theorem rtext_ok (s : List UInt8) (p : Nat) (e : Int) (most : Nat) (b : Nat) (σ : ASt) (hb : σ b = rd s p e) (hs : s.length ≤ 4611686018427387904) (hp : p ≤ s.length) (hm : most ≤ 1000000) :
    ACalls Try.prog 36 [.ptr b 0, .int .i64 most] σ fun v σ' => v = .str (textP s p e most).1 ∧ σ' = σ.set b (rd s (textP s p e most).2.1 (textP s p e most).2.2) := by
  refine a36 (by simp) ?_
  obtain ⟨q, hq⟩ : ∃ q, textP s p e most = q := ⟨_, rfl⟩
  rw [hq]
  unfold textP at hq
  obtain ⟨f1, f2, f3, f4⟩ := readU_facts s p e hp
  simp (disch := first | assumption | omega | (simp only [List.length_append]; omega)) only [go_sem, reduceCtorEq, Nat.reduceEqDiff, Nat.reduceAdd, Nat.reduceSub, Nat.reduceMul, Nat.reduceLeDiff, Int.reduceLT, Int.reduceLE, Int.reduceEq, ↓reduceIte, Int.reduceNeg, Int.reduceAdd, Int.reduceSub, Int.reduceMul, true_imp_iff, forall_const, Nat.mul_one, Int.reduceToNat, Nat.reducePow, Int.reducePow, Bool.true_and, Bool.false_and, Bool.and_false]
  refine (ruint_ok s p e b σ hb hs hp).mono ?_
  rintro v σ' ⟨rfl, rfl⟩
  generalize readU s p e = R at *
  obtain ⟨u, p', e'⟩ := R
  dsimp only at *
  have hmx : max (most : Int) 0 = most := by omega
  by_cases he : e' = 0
  · subst he
    rw [if_neg (by simp)] at hq
    by_cases h1 : most < u
    · have h1' : (most : Int) < u := by omega
      rw [if_pos h1] at hq
      subst hq
      simp (disch := first | assumption | omega | (simp only [List.length_append]; omega)) only [go_sem, reduceCtorEq, Nat.reduceEqDiff, Nat.reduceAdd, Nat.reduceSub, Nat.reduceMul, Nat.reduceLeDiff, Int.reduceLT, Int.reduceLE, Int.reduceEq, ↓reduceIte, Int.reduceNeg, Int.reduceAdd, Int.reduceSub, Int.reduceMul, true_imp_iff, forall_const, Nat.mul_one, Int.reduceToNat, Nat.reducePow, Int.reducePow, Bool.true_and, Bool.false_and, Bool.and_false, rd, hmx, h1']
      refine (rfail_ok s p' 0 11 b _ (ASt.set_same _ _ _)).mono ?_
      rintro v σ' ⟨rfl, rfl⟩
      simp (disch := first | assumption | omega | (simp only [List.length_append]; omega)) only [go_sem, reduceCtorEq, Nat.reduceEqDiff, Nat.reduceAdd, Nat.reduceSub, Nat.reduceMul, Nat.reduceLeDiff, Int.reduceLT, Int.reduceLE, Int.reduceEq, ↓reduceIte, Int.reduceNeg, Int.reduceAdd, Int.reduceSub, Int.reduceMul, true_imp_iff, forall_const, Nat.mul_one, Int.reduceToNat, Nat.reducePow, Int.reducePow, Bool.true_and, Bool.false_and, Bool.and_false, rd, firstErr]
      exact retC_by (Drop.refl _) (.refl _) ⟨rfl, rfl⟩
    · have h1' : ¬ (most : Int) < u := by omega
      rw [if_neg h1] at hq
      by_cases h2 : s.length < p' + u
      · have h2' : (s.length : Int) - p' < u := by omega
        rw [if_pos h2] at hq
        subst hq
        simp (disch := first | assumption | omega | (simp only [List.length_append]; omega)) only [go_sem, reduceCtorEq, Nat.reduceEqDiff, Nat.reduceAdd, Nat.reduceSub, Nat.reduceMul, Nat.reduceLeDiff, Int.reduceLT, Int.reduceLE, Int.reduceEq, ↓reduceIte, Int.reduceNeg, Int.reduceAdd, Int.reduceSub, Int.reduceMul, true_imp_iff, forall_const, Nat.mul_one, Int.reduceToNat, Nat.reducePow, Int.reducePow, Bool.true_and, Bool.false_and, Bool.and_false, rd, hmx, h1', h2']
        refine (rfail_ok s p' 0 2 b _ (ASt.set_same _ _ _)).mono ?_
        rintro v σ' ⟨rfl, rfl⟩
        simp (disch := first | assumption | omega | (simp only [List.length_append]; omega)) only [go_sem, reduceCtorEq, Nat.reduceEqDiff, Nat.reduceAdd, Nat.reduceSub, Nat.reduceMul, Nat.reduceLeDiff, Int.reduceLT, Int.reduceLE, Int.reduceEq, ↓reduceIte, Int.reduceNeg, Int.reduceAdd, Int.reduceSub, Int.reduceMul, true_imp_iff, forall_const, Nat.mul_one, Int.reduceToNat, Nat.reducePow, Int.reducePow, Bool.true_and, Bool.false_and, Bool.and_false, rd, firstErr]
        exact retC_by (Drop.refl _) (.refl _) ⟨rfl, rfl⟩
      · have h2' : ¬ (s.length : Int) - p' < u := by omega
        rw [if_neg h2] at hq
        subst hq
        have e1 : (p' : Int) + u - u = p' := by omega
        have e2 : ((p' : Int) + u).toNat = p' + u := by omega
        simp (disch := first | assumption | omega | (simp only [List.length_append]; omega)) only [go_sem, reduceCtorEq, Nat.reduceEqDiff, Nat.reduceAdd, Nat.reduceSub, Nat.reduceMul, Nat.reduceLeDiff, Int.reduceLT, Int.reduceLE, Int.reduceEq, ↓reduceIte, Int.reduceNeg, Int.reduceAdd, Int.reduceSub, Int.reduceMul, true_imp_iff, forall_const, Nat.mul_one, Int.reduceToNat, Nat.reducePow, Int.reducePow, Bool.true_and, Bool.false_and, Bool.and_false, rd, hmx, h1', h2', e1, e2]
        refine retC_by (Drop.refl _) (.refl _) ⟨?_, rfl⟩
        rw [List.drop_take, Nat.add_sub_cancel_left]
        rfl
  · rw [if_pos he] at hq
    subst hq
    simp (disch := first | assumption | omega | (simp only [List.length_append]; omega)) only [go_sem, reduceCtorEq, Nat.reduceEqDiff, Nat.reduceAdd, Nat.reduceSub, Nat.reduceMul, Nat.reduceLeDiff, Int.reduceLT, Int.reduceLE, Int.reduceEq, ↓reduceIte, Int.reduceNeg, Int.reduceAdd, Int.reduceSub, Int.reduceMul, true_imp_iff, forall_const, Nat.mul_one, Int.reduceToNat, Nat.reducePow, Int.reducePow, Bool.true_and, Bool.false_and, Bool.and_false, rd, he]
    exact retC_by (Drop.refl _) (.refl _) ⟨rfl, rfl⟩

def countP (s : List UInt8) (p : Nat) (e : Int) (most : Nat) : Nat × Nat × Int :=
  if (readU s p e).2.2 ≠ 0 then (0, (readU s p e).2.1, (readU s p e).2.2)
  else if most < (readU s p e).1 then (0, (readU s p e).2.1, 11)
  else ((readU s p e).1, (readU s p e).2.1, 0)
theorem rcount_ok (s : List UInt8) (p : Nat) (e : Int) (most : Nat) (b : Nat) (σ : ASt) (hb : σ b = rd s p e) (hs : s.length ≤ 4611686018427387904) (hp : p ≤ s.length) (hm : most ≤ 1000000) :
    ACalls Try.prog 49 [.ptr b 0, .int .i64 most] σ fun v σ' => v = .int .i64 (countP s p e most).1 ∧ σ' = σ.set b (rd s (countP s p e most).2.1 (countP s p e most).2.2) := by
  refine a49 (by simp) ?_
  obtain ⟨q, hq⟩ : ∃ q, countP s p e most = q := ⟨_, rfl⟩
  rw [hq]
  unfold countP at hq
  obtain ⟨f1, f2, f3, f4⟩ := readU_facts s p e hp
  simp (disch := first | assumption | omega | (simp only [List.length_append]; omega)) only [go_sem, reduceCtorEq, Nat.reduceEqDiff, Nat.reduceAdd, Nat.reduceSub, Nat.reduceMul, Nat.reduceLeDiff, Int.reduceLT, Int.reduceLE, Int.reduceEq, ↓reduceIte, Int.reduceNeg, Int.reduceAdd, Int.reduceSub, Int.reduceMul, true_imp_iff, forall_const, Nat.mul_one, Int.reduceToNat, Nat.reducePow, Int.reducePow, Bool.true_and, Bool.false_and, Bool.and_false]
  refine (ruint_ok s p e b σ hb hs hp).mono ?_
  rintro v σ' ⟨rfl, rfl⟩
  generalize readU s p e = R at *
  obtain ⟨u, p', e'⟩ := R
  dsimp only at *
  have hmx : max (most : Int) 0 = most := by omega
  by_cases he : e' = 0
  · subst he
    rw [if_neg (by simp)] at hq
    by_cases h1 : most < u
    · have h1' : (most : Int) < u := by omega
      rw [if_pos h1] at hq
      subst hq
      simp (disch := first | assumption | omega | (simp only [List.length_append]; omega)) only [go_sem, reduceCtorEq, Nat.reduceEqDiff, Nat.reduceAdd, Nat.reduceSub, Nat.reduceMul, Nat.reduceLeDiff, Int.reduceLT, Int.reduceLE, Int.reduceEq, ↓reduceIte, Int.reduceNeg, Int.reduceAdd, Int.reduceSub, Int.reduceMul, true_imp_iff, forall_const, Nat.mul_one, Int.reduceToNat, Nat.reducePow, Int.reducePow, Bool.true_and, Bool.false_and, Bool.and_false, rd, hmx, h1']
      refine (rfail_ok s p' 0 11 b _ (ASt.set_same _ _ _)).mono ?_
      rintro v σ' ⟨rfl, rfl⟩
      simp (disch := first | assumption | omega | (simp only [List.length_append]; omega)) only [go_sem, reduceCtorEq, Nat.reduceEqDiff, Nat.reduceAdd, Nat.reduceSub, Nat.reduceMul, Nat.reduceLeDiff, Int.reduceLT, Int.reduceLE, Int.reduceEq, ↓reduceIte, Int.reduceNeg, Int.reduceAdd, Int.reduceSub, Int.reduceMul, true_imp_iff, forall_const, Nat.mul_one, Int.reduceToNat, Nat.reducePow, Int.reducePow, Bool.true_and, Bool.false_and, Bool.and_false, rd, firstErr]
      exact retC_by (Drop.refl _) (.refl _) ⟨rfl, rfl⟩
    · have h1' : ¬ (most : Int) < u := by omega
      rw [if_neg h1] at hq
      subst hq
      simp (disch := first | assumption | omega | (simp only [List.length_append]; omega)) only [go_sem, reduceCtorEq, Nat.reduceEqDiff, Nat.reduceAdd, Nat.reduceSub, Nat.reduceMul, Nat.reduceLeDiff, Int.reduceLT, Int.reduceLE, Int.reduceEq, ↓reduceIte, Int.reduceNeg, Int.reduceAdd, Int.reduceSub, Int.reduceMul, true_imp_iff, forall_const, Nat.mul_one, Int.reduceToNat, Nat.reducePow, Int.reducePow, Bool.true_and, Bool.false_and, Bool.and_false, rd, hmx, h1']
      exact retC_by (Drop.refl _) (.refl _) ⟨rfl, rfl⟩
  · rw [if_pos he] at hq
    subst hq
    simp (disch := first | assumption | omega | (simp only [List.length_append]; omega)) only [go_sem, reduceCtorEq, Nat.reduceEqDiff, Nat.reduceAdd, Nat.reduceSub, Nat.reduceMul, Nat.reduceLeDiff, Int.reduceLT, Int.reduceLE, Int.reduceEq, ↓reduceIte, Int.reduceNeg, Int.reduceAdd, Int.reduceSub, Int.reduceMul, true_imp_iff, forall_const, Nat.mul_one, Int.reduceToNat, Nat.reducePow, Int.reducePow, Bool.true_and, Bool.false_and, Bool.and_false, rd, he]
    exact retC_by (Drop.refl _) (.refl _) ⟨rfl, rfl⟩

/-- So far behind a number, and one. -/
def afterP (s : List UInt8) (p : Nat) (e : Int) (x : Int) : Int × Nat × Int :=
  if (readU s p e).2.2 = 0 ∧ 18446744073709551615 - x ≤ (readU s p e).1 then ((x + (readU s p e).1 + 1) % 18446744073709551616, (readU s p e).2.1, 3)
  else ((x + (readU s p e).1 + 1) % 18446744073709551616, (readU s p e).2.1, (readU s p e).2.2)
theorem rafter_ok (s : List UInt8) (p : Nat) (e : Int) (x : Int) (b : Nat) (σ : ASt) (hb : σ b = rd s p e) (hs : s.length ≤ 4611686018427387904) (hp : p ≤ s.length) (h0 : 0 ≤ x) (h1 : x ≤ 18446744073709551615) :
    ACalls Try.prog 50 [.ptr b 0, .int .u64 x] σ fun v σ' => v = .int .u64 (afterP s p e x).1 ∧ σ' = σ.set b (rd s (afterP s p e x).2.1 (afterP s p e x).2.2) := by
  refine a50 (by simp) ?_
  obtain ⟨q, hq⟩ : ∃ q, afterP s p e x = q := ⟨_, rfl⟩
  rw [hq]
  unfold afterP at hq
  obtain ⟨f1, f2, f3, f4⟩ := readU_facts s p e hp
  simp (disch := first | assumption | omega | (simp only [List.length_append]; omega)) only [go_sem, reduceCtorEq, Nat.reduceEqDiff, Nat.reduceAdd, Nat.reduceSub, Nat.reduceMul, Nat.reduceLeDiff, Int.reduceLT, Int.reduceLE, Int.reduceEq, ↓reduceIte, Int.reduceNeg, Int.reduceAdd, Int.reduceSub, Int.reduceMul, true_imp_iff, forall_const, Nat.mul_one, Int.reduceToNat, Nat.reducePow, Int.reducePow, Bool.true_and, Bool.false_and, Bool.and_false]
  refine (ruint_ok s p e b σ hb hs hp).mono ?_
  rintro v σ' ⟨rfl, rfl⟩
  generalize readU s p e = R at *
  obtain ⟨u, p', e'⟩ := R
  dsimp only at *
  have hw : IntKind.wrap .u64 (IntKind.wrap .u64 (x + u) + 1) = (x + u + 1) % 18446744073709551616 := by
    rw [IntKind.wrap_u64, IntKind.wrap_u64]; omega
  by_cases hc : e' = 0 ∧ 18446744073709551615 - x ≤ u
  · rw [if_pos hc] at hq
    subst hq
    obtain ⟨rfl, hc⟩ := hc
    simp (disch := first | assumption | omega | (simp only [List.length_append]; omega)) only [go_sem, reduceCtorEq, Nat.reduceEqDiff, Nat.reduceAdd, Nat.reduceSub, Nat.reduceMul, Nat.reduceLeDiff, Int.reduceLT, Int.reduceLE, Int.reduceEq, ↓reduceIte, Int.reduceNeg, Int.reduceAdd, Int.reduceSub, Int.reduceMul, true_imp_iff, forall_const, Nat.mul_one, Int.reduceToNat, Nat.reducePow, Int.reducePow, Bool.true_and, Bool.false_and, Bool.and_false, rd, hc]
    refine (rfail_ok s p' 0 3 b _ (ASt.set_same _ _ _)).mono ?_
    rintro v σ' ⟨rfl, rfl⟩
    obtain ⟨m, hm⟩ : ∃ m, (x + u + 1) % 18446744073709551616 = m := ⟨_, rfl⟩
    rw [hm] at hw ⊢
    simp (disch := first | assumption | omega | (simp only [List.length_append]; omega)) only [go_sem, reduceCtorEq, Nat.reduceEqDiff, Nat.reduceAdd, Nat.reduceSub, Nat.reduceMul, Nat.reduceLeDiff, Int.reduceLT, Int.reduceLE, Int.reduceEq, ↓reduceIte, Int.reduceNeg, Int.reduceAdd, Int.reduceSub, Int.reduceMul, true_imp_iff, forall_const, Nat.mul_one, Int.reduceToNat, Nat.reducePow, Int.reducePow, Bool.true_and, Bool.false_and, Bool.and_false, rd, firstErr, hw]
    exact retC_by (Drop.refl _) (.refl _) ⟨rfl, rfl⟩
  · rw [if_neg hc] at hq
    subst hq
    by_cases he : e' = 0
    · subst he
      have hc' : ¬ 18446744073709551615 - x ≤ u := by omega
      simp (disch := first | assumption | omega | (simp only [List.length_append]; omega)) only [go_sem, reduceCtorEq, Nat.reduceEqDiff, Nat.reduceAdd, Nat.reduceSub, Nat.reduceMul, Nat.reduceLeDiff, Int.reduceLT, Int.reduceLE, Int.reduceEq, ↓reduceIte, Int.reduceNeg, Int.reduceAdd, Int.reduceSub, Int.reduceMul, true_imp_iff, forall_const, Nat.mul_one, Int.reduceToNat, Nat.reducePow, Int.reducePow, Bool.true_and, Bool.false_and, Bool.and_false, rd, hc']
      rw [Int.emod_eq_of_lt (by omega) (by omega)]
      exact retC_by (Drop.refl _) (.refl _) ⟨rfl, rfl⟩
    · obtain ⟨rfl, rfl⟩ := f3 he
      simp (disch := first | assumption | omega | (simp only [List.length_append]; omega)) only [go_sem, reduceCtorEq, Nat.reduceEqDiff, Nat.reduceAdd, Nat.reduceSub, Nat.reduceMul, Nat.reduceLeDiff, Int.reduceLT, Int.reduceLE, Int.reduceEq, ↓reduceIte, Int.reduceNeg, Int.reduceAdd, Int.reduceSub, Int.reduceMul, true_imp_iff, forall_const, Nat.mul_one, Int.reduceToNat, Nat.reducePow, Int.reducePow, Bool.true_and, Bool.false_and, Bool.and_false, rd, he]
      refine retC_by (Drop.refl _) (.refl _) ⟨?_, rfl⟩
      rw [resV_one, IntKind.wrap_u64]
theorem afterP_facts (s : List UInt8) (p : Nat) (e : Int) (x : Int) (hp : p ≤ s.length) (h0 : 0 ≤ x) (h1 : x ≤ 18446744073709551615) : 0 ≤ (afterP s p e x).1 ∧ (afterP s p e x).1 ≤ 18446744073709551615 ∧ (afterP s p e x).2.1 ≤ s.length := by
  obtain ⟨f1, f2, f3, f4⟩ := readU_facts s p e hp
  unfold afterP
  split <;> (refine ⟨?_, ?_, f2⟩ <;> dsimp only <;> omega)
theorem countP_facts (s : List UInt8) (p : Nat) (e : Int) (most : Nat) (hp : p ≤ s.length) : (countP s p e most).1 ≤ most ∧ (countP s p e most).2.1 ≤ s.length := by
  obtain ⟨f1, f2, f3, f4⟩ := readU_facts s p e hp
  unfold countP
  split
  · exact ⟨Nat.zero_le _, f2⟩
  · split
    · exact ⟨Nat.zero_le _, f2⟩
    · exact ⟨by dsimp only; omega, f2⟩

/-- Numbers that rise, so many more of them. -/
def risF (s : List UInt8) : Nat → List Int → Nat → Int → List Int × Nat × Int
  | 0, l, p, e => (l, p, e)
  | k + 1, l, p, e => if e ≠ 0 then (l, p, e) else match l.getLast? with
    | none => risF s k (l ++ [((readU s p e).1 : Int)]) (readU s p e).2.1 (readU s p e).2.2
    | some x => risF s k (l ++ [(afterP s p e x).1]) (afterP s p e x).2.1 (afterP s p e x).2.2
def risingR (s : List UInt8) (p : Nat) (e : Int) (most : Nat) : List Int × Nat × Int :=
  if (risF s (countP s p e most).1 [] (countP s p e most).2.1 (countP s p e most).2.2).2.2 ≠ 0 then ([], (risF s (countP s p e most).1 [] (countP s p e most).2.1 (countP s p e most).2.2).2)
  else risF s (countP s p e most).1 [] (countP s p e most).2.1 (countP s p e most).2.2
theorem u64_well (L : List Int) : wellSz 1 (L.map (AV.int .u64)) = true := wellSz_map (f := AV.int .u64) (fun _ => ⟨rfl, rfl⟩) L
theorem last_at {l : List Int} {i : Nat} (h : l.length = i + 1) : ∃ x, l.getLast? = some x ∧ l[i]? = some x := by
  have hlt : i < l.length := by omega
  refine ⟨l[i], ?_, List.getElem?_eq_getElem hlt⟩
  rw [List.getLast?_eq_getElem?, show l.length - 1 = i by omega, List.getElem?_eq_getElem hlt]

theorem rrising_ok (s : List UInt8) (p : Nat) (e : Int) (most : Nat) (b : Nat) (σ : ASt) (hb : σ b = rd s p e) (hs : s.length ≤ 4611686018427387904) (hp : p ≤ s.length) (hm : most ≤ 1000000) :
    ACalls Try.prog 31 [.ptr b 0, .int .i64 most] σ fun v σ' => v = u64sAV (risingR s p e most).1 ∧ σ' = σ.set b (rd s (risingR s p e most).2.1 (risingR s p e most).2.2) := by
  refine a31 (by simp) ?_
  obtain ⟨q, hq⟩ : ∃ q, risingR s p e most = q := ⟨_, rfl⟩
  rw [hq]
  unfold risingR at hq
  obtain ⟨c1, c2⟩ := countP_facts s p e most hp
  obtain ⟨F, hF⟩ : ∃ F, F = ACode.wp Try.prog c31_26 := ⟨_, rfl⟩
  simp (disch := first | assumption | omega | (simp only [List.length_append]; omega)) only [go_sem, reduceCtorEq, Nat.reduceEqDiff, Nat.reduceAdd, Nat.reduceSub, Nat.reduceMul, Nat.reduceLeDiff, Int.reduceLT, Int.reduceLE, Int.reduceEq, ↓reduceIte, Int.reduceNeg, Int.reduceAdd, Int.reduceSub, Int.reduceMul, true_imp_iff, forall_const, Nat.mul_one, Int.reduceToNat, Nat.reducePow, Int.reducePow, Bool.true_and, Bool.false_and, Bool.and_false, ←hF]
  refine (rcount_ok s p e most b σ hb hs hp hm).mono ?_
  rintro v σ' ⟨rfl, rfl⟩
  generalize countP s p e most = C at *
  obtain ⟨n, p1, e1⟩ := C
  dsimp only at *
  obtain ⟨r, hr⟩ : ∃ r, risF s n [] p1 e1 = r := ⟨_, rfl⟩
  rw [hr] at hq
  have fin : ∀ (a : AFr) (k : SK) (σ' : ASt), a 0 = .ptr b 0 → a 6 = .sl k (r.1.map (AV.int .u64)) → Grown (σ.set b (rd s r.2.1 r.2.2)) σ' k (r.1.map (AV.int .u64)).length 1 →
      F (RetQ [.t 4] fun v σ' => v = u64sAV q.1 ∧ σ' = σ.set b (rd s q.2.1 q.2.2)) a σ' := by
    intro a k σ' h0 h6 hg
    have hb' := hg.at (x := b) (ASt.set_same _ _ _)
    rw [hF]
    by_cases he : r.2.2 = 0
    · rw [if_neg (by simp [he])] at hq
      subst hq
      simp (disch := first | assumption | omega | (simp only [List.length_append]; omega)) only [go_sem, reduceCtorEq, Nat.reduceEqDiff, Nat.reduceAdd, Nat.reduceSub, Nat.reduceMul, Nat.reduceLeDiff, Int.reduceLT, Int.reduceLE, Int.reduceEq, ↓reduceIte, Int.reduceNeg, Int.reduceAdd, Int.reduceSub, Int.reduceMul, true_imp_iff, forall_const, Nat.mul_one, Int.reduceToNat, Nat.reducePow, Int.reducePow, Bool.true_and, Bool.false_and, Bool.and_false, h0, h6, hb', rd, he]
      rw [← he]
      exact retC_by hg.drop (.sl _ _) ⟨rfl, rfl⟩
    · rw [if_pos he] at hq
      subst hq
      simp (disch := first | assumption | omega | (simp only [List.length_append]; omega)) only [go_sem, reduceCtorEq, Nat.reduceEqDiff, Nat.reduceAdd, Nat.reduceSub, Nat.reduceMul, Nat.reduceLeDiff, Int.reduceLT, Int.reduceLE, Int.reduceEq, ↓reduceIte, Int.reduceNeg, Int.reduceAdd, Int.reduceSub, Int.reduceMul, true_imp_iff, forall_const, Nat.mul_one, Int.reduceToNat, Nat.reducePow, Int.reducePow, Bool.true_and, Bool.false_and, Bool.and_false, h0, h6, hb', rd, he]
      exact retC_by hg.drop (.sl _ _) ⟨rfl, rfl⟩
  simp (disch := first | assumption | omega | (simp only [List.length_append]; omega)) only [go_sem, reduceCtorEq, Nat.reduceEqDiff, Nat.reduceAdd, Nat.reduceSub, Nat.reduceMul, Nat.reduceLeDiff, Int.reduceLT, Int.reduceLE, Int.reduceEq, ↓reduceIte, Int.reduceNeg, Int.reduceAdd, Int.reduceSub, Int.reduceMul, true_imp_iff, forall_const, Nat.mul_one, Int.reduceToNat, Nat.reducePow, Int.reducePow, Bool.true_and, Bool.false_and, Bool.and_false, ←hF]
  refine wp_loop_on (fun (i : Nat × List Int × Nat × Int) a σ' => (i.1 ≤ n ∧ i.2.1.length = i.1 ∧ i.2.2.1 ≤ s.length ∧ (∀ x ∈ i.2.1, 0 ≤ x ∧ x ≤ 18446744073709551615) ∧ risF s (n - i.1) i.2.1 i.2.2.1 i.2.2.2 = r) ∧
      (a 0 = .ptr b 0 ∧ a 5 = .int .i64 n ∧ a 7 = .int .i64 i.1) ∧ ∃ k, a 6 = .sl k (i.2.1.map (AV.int .u64)) ∧ Grown (σ.set b (rd s i.2.2.1 i.2.2.2)) σ' k (i.2.1.map (AV.int .u64)).length 1)
    (fun i => n - i.1) (0, [], p1, e1) ⟨⟨Nat.zero_le _, rfl, c2, by simp, hr⟩, ?_, .full, ?_, .inl ⟨rfl, rfl, rfl⟩⟩ ?_
  · simp (disch := first | assumption | omega | (simp only [List.length_append]; omega)) only [go_sem, reduceCtorEq, Nat.reduceEqDiff, Nat.reduceAdd, Nat.reduceSub, Nat.reduceMul, Nat.reduceLeDiff, Int.reduceLT, Int.reduceLE, Int.reduceEq, ↓reduceIte, Int.reduceNeg, Int.reduceAdd, Int.reduceSub, Int.reduceMul, true_imp_iff, forall_const, Nat.mul_one, Int.reduceToNat, Nat.reducePow, Int.reducePow, Bool.true_and, Bool.false_and, Bool.and_false]
  · simp (disch := first | assumption | omega | (simp only [List.length_append]; omega)) only [go_sem, reduceCtorEq, Nat.reduceEqDiff, Nat.reduceAdd, Nat.reduceSub, Nat.reduceMul, Nat.reduceLeDiff, Int.reduceLT, Int.reduceLE, Int.reduceEq, ↓reduceIte, Int.reduceNeg, Int.reduceAdd, Int.reduceSub, Int.reduceMul, true_imp_iff, forall_const, Nat.mul_one, Int.reduceToNat, Nat.reducePow, Int.reducePow, Bool.true_and, Bool.false_and, Bool.and_false]
  rintro ⟨i, l, p2, e2⟩ a σ1 ⟨⟨hi, hl, hp2, hbd, hri⟩, hf, k, h6, hg⟩
  dsimp only at hi hl hp2 hbd hri hf h6 hg
  have hb' : σ1 b = some (.obj [.str s, .int .i64 p2, .int .i64 e2]) := hg.at (x := b) (ASt.set_same _ _ _)
  by_cases hin : i < n
  · have hin' : (i : Int) < n := by omega
    by_cases he : e2 = 0
    · subst he
      rw [show n - i = (n - (i + 1)) + 1 by omega, risF, if_neg (by simp)] at hri
      by_cases hi0 : i = 0
      · subst hi0
        obtain rfl : l = [] := List.eq_nil_of_length_eq_zero hl
        have hz : ((0 : Nat) : Int) = 0 := rfl
        obtain ⟨f1, f2, f3, f4⟩ := readU_facts s p2 0 hp2
        simp only [List.getLast?_nil] at hri
        simp only [List.map_nil] at h6 hg
        simp (disch := first | assumption | omega | (simp only [List.length_append]; omega)) only [go_sem, reduceCtorEq, Nat.reduceEqDiff, Nat.reduceAdd, Nat.reduceSub, Nat.reduceMul, Nat.reduceLeDiff, Int.reduceLT, Int.reduceLE, Int.reduceEq, ↓reduceIte, Int.reduceNeg, Int.reduceAdd, Int.reduceSub, Int.reduceMul, true_imp_iff, forall_const, Nat.mul_one, Int.reduceToNat, Nat.reducePow, Int.reducePow, Bool.true_and, Bool.false_and, Bool.and_false, hf, h6, hb', hin', hz, ←hF]
        refine (ruint_ok s p2 0 b σ1 hb' hs hp2).mono ?_
        rintro v σ2 ⟨rfl, rfl⟩
        generalize readU s p2 0 = R at *
        obtain ⟨u, p3, e3⟩ := R
        dsimp only at *
        simp (disch := first | assumption | omega | (simp only [List.length_append]; omega)) only [go_sem, reduceCtorEq, Nat.reduceEqDiff, Nat.reduceAdd, Nat.reduceSub, Nat.reduceMul, Nat.reduceLeDiff, Int.reduceLT, Int.reduceLE, Int.reduceEq, ↓reduceIte, Int.reduceNeg, Int.reduceAdd, Int.reduceSub, Int.reduceMul, true_imp_iff, forall_const, Nat.mul_one, Int.reduceToNat, Nat.reducePow, Int.reducePow, Bool.true_and, Bool.false_and, Bool.and_false, hf, h6, ←hF]
        have hg2 : Grown (σ.set b (rd s p3 e3)) (σ1.set b (rd s p3 e3)) k (List.length (α := AV) []) 1 := hg.obj
        refine appC_by hg2 rfl rfl (by simp) (by simp) fun k' σ' hg' => ?_
        simp (disch := first | assumption | omega | (simp only [List.length_append]; omega)) only [go_sem, reduceCtorEq, Nat.reduceEqDiff, Nat.reduceAdd, Nat.reduceSub, Nat.reduceMul, Nat.reduceLeDiff, Int.reduceLT, Int.reduceLE, Int.reduceEq, ↓reduceIte, Int.reduceNeg, Int.reduceAdd, Int.reduceSub, Int.reduceMul, true_imp_iff, forall_const, Nat.mul_one, Int.reduceToNat, Nat.reducePow, Int.reducePow, Bool.true_and, Bool.false_and, Bool.and_false, hf, ←hF]
        refine ⟨(0 + 1, [(u : Int)], p3, e3), by dsimp only; omega, ⟨by dsimp only; omega, rfl, f2, by simp; omega, hri⟩, ?_, k', ?_, hg'⟩
        · simp (disch := first | assumption | omega | (simp only [List.length_append]; omega)) only [go_sem, reduceCtorEq, Nat.reduceEqDiff, Nat.reduceAdd, Nat.reduceSub, Nat.reduceMul, Nat.reduceLeDiff, Int.reduceLT, Int.reduceLE, Int.reduceEq, ↓reduceIte, Int.reduceNeg, Int.reduceAdd, Int.reduceSub, Int.reduceMul, true_imp_iff, forall_const, Nat.mul_one, Int.reduceToNat, Nat.reducePow, Int.reducePow, Bool.true_and, Bool.false_and, Bool.and_false, hf]
        · rfl
      · obtain ⟨j, hj⟩ : ∃ j, i = j + 1 := ⟨i - 1, by omega⟩
        obtain ⟨x, hx1, hx2⟩ := last_at (hl.trans hj)
        simp only [hx1] at hri
        obtain ⟨x0, x1⟩ := hbd x (List.mem_of_getElem? hx2)
        have hnz : ¬ (i : Int) = 0 := by omega
        have hsub : (i : Int) - 1 = j := by omega
        have hmapj : (l.map (AV.int .u64))[j]? = some (.int .u64 x) := by rw [List.getElem?_map, hx2]; rfl
        obtain ⟨f1, f2, f3⟩ := afterP_facts s p2 0 x hp2 x0 x1
        simp (disch := first | assumption | omega | (simp only [List.length_append]; omega)) only [go_sem, reduceCtorEq, Nat.reduceEqDiff, Nat.reduceAdd, Nat.reduceSub, Nat.reduceMul, Nat.reduceLeDiff, Int.reduceLT, Int.reduceLE, Int.reduceEq, ↓reduceIte, Int.reduceNeg, Int.reduceAdd, Int.reduceSub, Int.reduceMul, true_imp_iff, forall_const, Nat.mul_one, Int.reduceToNat, Nat.reducePow, Int.reducePow, Bool.true_and, Bool.false_and, Bool.and_false, hf, h6, hb', hin', hnz, hsub, hmapj, ←hF]
        refine (rafter_ok s p2 0 x b σ1 hb' hs hp2 x0 x1).mono ?_
        rintro v σ2 ⟨rfl, rfl⟩
        generalize afterP s p2 0 x = R at *
        obtain ⟨u, p3, e3⟩ := R
        dsimp only at *
        simp (disch := first | assumption | omega | (simp only [List.length_append]; omega)) only [go_sem, reduceCtorEq, Nat.reduceEqDiff, Nat.reduceAdd, Nat.reduceSub, Nat.reduceMul, Nat.reduceLeDiff, Int.reduceLT, Int.reduceLE, Int.reduceEq, ↓reduceIte, Int.reduceNeg, Int.reduceAdd, Int.reduceSub, Int.reduceMul, true_imp_iff, forall_const, Nat.mul_one, Int.reduceToNat, Nat.reducePow, Int.reducePow, Bool.true_and, Bool.false_and, Bool.and_false, hf, h6, ←hF]
        have hg2 : Grown (σ.set b (rd s p3 e3)) (σ1.set b (rd s p3 e3)) k (l.map (AV.int .u64)).length 1 := hg.obj
        refine appC_by hg2 rfl rfl (by simp; omega) (by simp; omega) fun k' σ' hg' => ?_
        have hap : l.map (AV.int .u64) ++ [.int .u64 u] = (l ++ [u]).map (AV.int .u64) := by simp
        rw [hap] at hg' ⊢
        simp (disch := first | assumption | omega | (simp only [List.length_append]; omega)) only [go_sem, reduceCtorEq, Nat.reduceEqDiff, Nat.reduceAdd, Nat.reduceSub, Nat.reduceMul, Nat.reduceLeDiff, Int.reduceLT, Int.reduceLE, Int.reduceEq, ↓reduceIte, Int.reduceNeg, Int.reduceAdd, Int.reduceSub, Int.reduceMul, true_imp_iff, forall_const, Nat.mul_one, Int.reduceToNat, Nat.reducePow, Int.reducePow, Bool.true_and, Bool.false_and, Bool.and_false, hf, ←hF]
        refine ⟨(i + 1, l ++ [u], p3, e3), by dsimp only; omega, ⟨by dsimp only; omega, by simp [hl], f3, ?_, hri⟩, ?_, k', ?_, by simpa using hg'⟩
        · intro y hy
          rcases List.mem_append.1 hy with hy | hy
          · exact hbd y hy
          · simp at hy; subst hy; exact ⟨f1, f2⟩
        · simp (disch := first | assumption | omega | (simp only [List.length_append]; omega)) only [go_sem, reduceCtorEq, Nat.reduceEqDiff, Nat.reduceAdd, Nat.reduceSub, Nat.reduceMul, Nat.reduceLeDiff, Int.reduceLT, Int.reduceLE, Int.reduceEq, ↓reduceIte, Int.reduceNeg, Int.reduceAdd, Int.reduceSub, Int.reduceMul, true_imp_iff, forall_const, Nat.mul_one, Int.reduceToNat, Nat.reducePow, Int.reducePow, Bool.true_and, Bool.false_and, Bool.and_false, hf]
        · rfl
    · have hri' : (l, p2, e2) = r := by
        rw [show n - i = (n - (i + 1)) + 1 by omega, risF, if_pos he] at hri
        exact hri
      subst hri'
      simp (disch := first | assumption | omega | (simp only [List.length_append]; omega)) only [go_sem, reduceCtorEq, Nat.reduceEqDiff, Nat.reduceAdd, Nat.reduceSub, Nat.reduceMul, Nat.reduceLeDiff, Int.reduceLT, Int.reduceLE, Int.reduceEq, ↓reduceIte, Int.reduceNeg, Int.reduceAdd, Int.reduceSub, Int.reduceMul, true_imp_iff, forall_const, Nat.mul_one, Int.reduceToNat, Nat.reducePow, Int.reducePow, Bool.true_and, Bool.false_and, Bool.and_false, hf, h6, hb', hin', he, ←hF]
      exact fin _ k σ1 (by simp (disch := first | assumption | omega | (simp only [List.length_append]; omega)) only [go_sem, reduceCtorEq, Nat.reduceEqDiff, Nat.reduceAdd, Nat.reduceSub, Nat.reduceMul, Nat.reduceLeDiff, Int.reduceLT, Int.reduceLE, Int.reduceEq, ↓reduceIte, Int.reduceNeg, Int.reduceAdd, Int.reduceSub, Int.reduceMul, true_imp_iff, forall_const, Nat.mul_one, Int.reduceToNat, Nat.reducePow, Int.reducePow, Bool.true_and, Bool.false_and, Bool.and_false, hf]) (by simp (disch := first | assumption | omega | (simp only [List.length_append]; omega)) only [go_sem, reduceCtorEq, Nat.reduceEqDiff, Nat.reduceAdd, Nat.reduceSub, Nat.reduceMul, Nat.reduceLeDiff, Int.reduceLT, Int.reduceLE, Int.reduceEq, ↓reduceIte, Int.reduceNeg, Int.reduceAdd, Int.reduceSub, Int.reduceMul, true_imp_iff, forall_const, Nat.mul_one, Int.reduceToNat, Nat.reducePow, Int.reducePow, Bool.true_and, Bool.false_and, Bool.and_false, h6]) hg
  · have hin' : ¬ (i : Int) < n := by omega
    have hri' : (l, p2, e2) = r := by
      rw [show n - i = 0 by omega, risF] at hri
      exact hri
    subst hri'
    simp (disch := first | assumption | omega | (simp only [List.length_append]; omega)) only [go_sem, reduceCtorEq, Nat.reduceEqDiff, Nat.reduceAdd, Nat.reduceSub, Nat.reduceMul, Nat.reduceLeDiff, Int.reduceLT, Int.reduceLE, Int.reduceEq, ↓reduceIte, Int.reduceNeg, Int.reduceAdd, Int.reduceSub, Int.reduceMul, true_imp_iff, forall_const, Nat.mul_one, Int.reduceToNat, Nat.reducePow, Int.reducePow, Bool.true_and, Bool.false_and, Bool.and_false, hf, h6, hb', hin', ←hF]
    exact fin _ k σ1 (by simp (disch := first | assumption | omega | (simp only [List.length_append]; omega)) only [go_sem, reduceCtorEq, Nat.reduceEqDiff, Nat.reduceAdd, Nat.reduceSub, Nat.reduceMul, Nat.reduceLeDiff, Int.reduceLT, Int.reduceLE, Int.reduceEq, ↓reduceIte, Int.reduceNeg, Int.reduceAdd, Int.reduceSub, Int.reduceMul, true_imp_iff, forall_const, Nat.mul_one, Int.reduceToNat, Nat.reducePow, Int.reducePow, Bool.true_and, Bool.false_and, Bool.and_false, hf]) (by simp (disch := first | assumption | omega | (simp only [List.length_append]; omega)) only [go_sem, reduceCtorEq, Nat.reduceEqDiff, Nat.reduceAdd, Nat.reduceSub, Nat.reduceMul, Nat.reduceLeDiff, Int.reduceLT, Int.reduceLE, Int.reduceEq, ↓reduceIte, Int.reduceNeg, Int.reduceAdd, Int.reduceSub, Int.reduceMul, true_imp_iff, forall_const, Nat.mul_one, Int.reduceToNat, Nat.reducePow, Int.reducePow, Bool.true_and, Bool.false_and, Bool.and_false, h6]) hg
end Go.A
