/- The statements' helpers, walked: spans, told, same lists; Cut; awake; put. -/
import Derived.Test.YthkcifdjfoggeaaVi
import Derived.Test.YthkcifdjfoggeaaVl
namespace Go.A
open Go.Proofs Go.Vint
set_option maxRecDepth 100000
set_option linter.unusedSimpArgs false
set_option linter.unusedVariables false

theorem cut_ok (l : List UInt8) (n : Nat) : Pure Try.prog 13 [.str l, .int .i64 n] (.str (l.take n)) := by
  intro σ
  refine a13 (by simp) ?_
  by_cases h : n < l.length
  · have h' : (n : Int) < l.length := by omega
    simp (disch := first | assumption | omega | (simp only [List.length_append]; omega)) only [go_sem, reduceCtorEq, Nat.reduceEqDiff, Nat.reduceAdd, Nat.reduceSub, Nat.reduceMul, Nat.reduceLeDiff, Int.reduceLT, Int.reduceLE, Int.reduceEq, ↓reduceIte, Int.reduceNeg, Int.reduceAdd, Int.reduceSub, Int.reduceMul, true_imp_iff, forall_const, Nat.mul_one, Int.reduceToNat, Nat.reducePow, Int.reducePow, Bool.true_and, Bool.false_and, Bool.and_false, h']
    exact retC_by (by repeat' (first | exact Drop.refl _ | with_reducible refine Drop.off ?_ (by assumption))) (.refl _) ⟨rfl, rfl⟩
  · have h' : ¬ (n : Int) < l.length := by omega
    simp (disch := first | assumption | omega | (simp only [List.length_append]; omega)) only [go_sem, reduceCtorEq, Nat.reduceEqDiff, Nat.reduceAdd, Nat.reduceSub, Nat.reduceMul, Nat.reduceLeDiff, Int.reduceLT, Int.reduceLE, Int.reduceEq, ↓reduceIte, Int.reduceNeg, Int.reduceAdd, Int.reduceSub, Int.reduceMul, true_imp_iff, forall_const, Nat.mul_one, Int.reduceToNat, Nat.reducePow, Int.reducePow, Bool.true_and, Bool.false_and, Bool.and_false, h']
    exact retC_by (by repeat' (first | exact Drop.refl _ | with_reducible refine Drop.off ?_ (by assumption))) (.refl _) ⟨by rw [List.take_of_length_le (by omega)]; rfl, rfl⟩

theorem spans_ok (L : List Int) (hn : L.length ≤ 9223372036854775807) : Pure Try.prog 20 [.sl .shr (L.map (AV.int .u64))] (spansV (spansL L)) := by
  intro σ
  refine a20 (by simp) ?_
  obtain ⟨F, hF⟩ : ∃ F, F = ACode.wp Try.prog c20_16 := ⟨_, rfl⟩
  simp (disch := first | assumption | omega | (simp only [List.length_append]; omega)) only [go_sem, reduceCtorEq, Nat.reduceEqDiff, Nat.reduceAdd, Nat.reduceSub, Nat.reduceMul, Nat.reduceLeDiff, Int.reduceLT, Int.reduceLE, Int.reduceEq, ↓reduceIte, Int.reduceNeg, Int.reduceAdd, Int.reduceSub, Int.reduceMul, true_imp_iff, forall_const, Nat.mul_one, Int.reduceToNat, Nat.reducePow, Int.reducePow, Bool.true_and, Bool.false_and, Bool.and_false, ←hF]
  refine (rising_ok L hn).use ?_
  unfold spansL
  have hrl := risingL_len L
  generalize risingL L = R at *
  have hpl := pairs_length R
  simp (disch := first | assumption | omega | (simp only [List.length_append]; omega)) only [go_sem, reduceCtorEq, Nat.reduceEqDiff, Nat.reduceAdd, Nat.reduceSub, Nat.reduceMul, Nat.reduceLeDiff, Int.reduceLT, Int.reduceLE, Int.reduceEq, ↓reduceIte, Int.reduceNeg, Int.reduceAdd, Int.reduceSub, Int.reduceMul, true_imp_iff, forall_const, Nat.mul_one, Int.reduceToNat, Nat.reducePow, Int.reducePow, Bool.true_and, Bool.false_and, Bool.and_false, u64sAV, ←hF]
  refine wp_loop_on (fun (i : Nat) a σ' => 2 * i ≤ R.length ∧ (a 0 = .sl .shr (R.map (AV.int .u64)) ∧ a 4 = .int .i64 (2 * i : Nat)) ∧ ∃ k, a 3 = .sl k (((pairs R).take i).map spanV) ∧ Grown σ σ' k (((pairs R).take i).map spanV).length 2)
    (fun i => 20 - i) 0 ⟨Nat.zero_le _, ?_, .full, ?_, .inl ⟨rfl, by simp, rfl⟩⟩ ?_
  · simp (disch := first | assumption | omega | (simp only [List.length_append]; omega)) only [go_sem, reduceCtorEq, Nat.reduceEqDiff, Nat.reduceAdd, Nat.reduceSub, Nat.reduceMul, Nat.reduceLeDiff, Int.reduceLT, Int.reduceLE, Int.reduceEq, ↓reduceIte, Int.reduceNeg, Int.reduceAdd, Int.reduceSub, Int.reduceMul, true_imp_iff, forall_const, Nat.mul_one, Int.reduceToNat, Nat.reducePow, Int.reducePow, Bool.true_and, Bool.false_and, Bool.and_false]
  · simp (disch := first | assumption | omega | (simp only [List.length_append]; omega)) only [go_sem, reduceCtorEq, Nat.reduceEqDiff, Nat.reduceAdd, Nat.reduceSub, Nat.reduceMul, Nat.reduceLeDiff, Int.reduceLT, Int.reduceLE, Int.reduceEq, ↓reduceIte, Int.reduceNeg, Int.reduceAdd, Int.reduceSub, Int.reduceMul, true_imp_iff, forall_const, Nat.mul_one, Int.reduceToNat, Nat.reducePow, Int.reducePow, Bool.true_and, Bool.false_and, Bool.and_false]
  rintro i a σ1 ⟨hi, hf, k, h3, hg⟩
  by_cases hlt : 2 * i + 1 < R.length
  · have hlt' : ((2 * i : Nat) : Int) + 1 < R.length := by omega
    have hx : R[2 * i]? = some (R[2 * i]'(by omega)) := List.getElem?_eq_getElem (by omega)
    obtain ⟨x, hxx⟩ : ∃ x, R[2 * i]'(by omega) = x := ⟨_, rfl⟩
    rw [hxx] at hx
    have hy : R[2 * i + 1]? = some (R[2 * i + 1]'hlt) := List.getElem?_eq_getElem hlt
    obtain ⟨y, hyy⟩ : ∃ y, R[2 * i + 1]'hlt = y := ⟨_, rfl⟩
    rw [hyy] at hy
    have hp := pairs_get R hx hy
    have hmx := u64_get hx
    have hmy := u64_get hy
    have htk : (pairs R).take (i + 1) = (pairs R).take i ++ [(x, y)] := by
      obtain ⟨h1, h2⟩ := List.getElem?_eq_some_iff.1 hp
      rw [List.take_succ_eq_append_getElem h1, h2]
    obtain ⟨m, hm⟩ : ∃ m, 2 * i = m := ⟨_, rfl⟩
    rw [hm] at hf hlt' hmx hmy
    have hm1 : ((m : Int) + 1).toNat = m + 1 := by omega
    have hml : m ≤ 20 := by omega
    simp (disch := first | assumption | omega | (simp only [List.length_append]; omega)) only [go_sem, reduceCtorEq, Nat.reduceEqDiff, Nat.reduceAdd, Nat.reduceSub, Nat.reduceMul, Nat.reduceLeDiff, Int.reduceLT, Int.reduceLE, Int.reduceEq, ↓reduceIte, Int.reduceNeg, Int.reduceAdd, Int.reduceSub, Int.reduceMul, true_imp_iff, forall_const, Nat.mul_one, Int.reduceToNat, Nat.reducePow, Int.reducePow, Bool.true_and, Bool.false_and, Bool.and_false, hf, h3, hlt', hmx, hm1, hmy, ←hF]
    refine appC_by hg rfl rfl (by simp; omega) (by simp; omega) fun k' σ' hg' => ?_
    have hap : ((pairs R).take i).map spanV ++ [.agg [.int .u64 x, .int .u64 y]] = ((pairs R).take (i + 1)).map spanV := by rw [htk]; simp [spanV]
    rw [hap] at hg' ⊢
    simp (disch := first | assumption | omega | (simp only [List.length_append]; omega)) only [go_sem, reduceCtorEq, Nat.reduceEqDiff, Nat.reduceAdd, Nat.reduceSub, Nat.reduceMul, Nat.reduceLeDiff, Int.reduceLT, Int.reduceLE, Int.reduceEq, ↓reduceIte, Int.reduceNeg, Int.reduceAdd, Int.reduceSub, Int.reduceMul, true_imp_iff, forall_const, Nat.mul_one, Int.reduceToNat, Nat.reducePow, Int.reducePow, Bool.true_and, Bool.false_and, Bool.and_false, hf, ←hF]
    refine ⟨i + 1, by omega, by omega, ?_, k', rfl, by simpa using hg'⟩
    congr 1
    omega
  · have hlt' : ¬ ((2 * i : Nat) : Int) + 1 < R.length := by omega
    have e : (pairs R).take i = pairs R := List.take_of_length_le (by omega)
    rw [e] at h3 hg
    obtain ⟨m, hm⟩ : ∃ m, 2 * i = m := ⟨_, rfl⟩
    rw [hm] at hf hlt'
    have hml : m ≤ 20 := by omega
    simp (disch := first | assumption | omega | (simp only [List.length_append]; omega)) only [go_sem, reduceCtorEq, Nat.reduceEqDiff, Nat.reduceAdd, Nat.reduceSub, Nat.reduceMul, Nat.reduceLeDiff, Int.reduceLT, Int.reduceLE, Int.reduceEq, ↓reduceIte, Int.reduceNeg, Int.reduceAdd, Int.reduceSub, Int.reduceMul, true_imp_iff, forall_const, Nat.mul_one, Int.reduceToNat, Nat.reducePow, Int.reducePow, Bool.true_and, Bool.false_and, Bool.and_false, hf, h3, hlt', ←hF]
    rw [hF]
    simp (disch := first | assumption | omega | (simp only [List.length_append]; omega)) only [go_sem, reduceCtorEq, Nat.reduceEqDiff, Nat.reduceAdd, Nat.reduceSub, Nat.reduceMul, Nat.reduceLeDiff, Int.reduceLT, Int.reduceLE, Int.reduceEq, ↓reduceIte, Int.reduceNeg, Int.reduceAdd, Int.reduceSub, Int.reduceMul, true_imp_iff, forall_const, Nat.mul_one, Int.reduceToNat, Nat.reducePow, Int.reducePow, Bool.true_and, Bool.false_and, Bool.and_false, h3]
    exact retC_by hg.drop (.sl _ _) ⟨rfl, rfl⟩

theorem told_ok (L : List (Int × Int)) (hn : L.length ≤ 1000000) : Pure Try.prog 21 [spansV L] (spansV L) := by
  intro σ
  refine a21 (by simp) ?_
  obtain ⟨F, hF⟩ : ∃ F, F = ACode.wp Try.prog c21_17 := ⟨_, rfl⟩
  simp (disch := first | assumption | omega | (simp only [List.length_append]; omega)) only [go_sem, reduceCtorEq, Nat.reduceEqDiff, Nat.reduceAdd, Nat.reduceSub, Nat.reduceMul, Nat.reduceLeDiff, Int.reduceLT, Int.reduceLE, Int.reduceEq, ↓reduceIte, Int.reduceNeg, Int.reduceAdd, Int.reduceSub, Int.reduceMul, true_imp_iff, forall_const, Nat.mul_one, Int.reduceToNat, Nat.reducePow, Int.reducePow, Bool.true_and, Bool.false_and, Bool.and_false, spansV, ←hF]
  refine wp_loop_by (fun (i : Nat) a σ' => i ≤ L.length ∧ (a 7 = .sl .shr (L.map spanV) ∧ a 8 = .int .i64 L.length ∧ a 9 = .int .i64 i) ∧ ∃ k, a 3 = .sl k ((L.take i).map spanV) ∧ Grown σ σ' k ((L.take i).map spanV).length 2)
    (fun i => L.length - i) 0 (Dr.now ⟨Nat.zero_le _, ?_, .full, ?_, .inl ⟨rfl, by simp, rfl⟩⟩) ?_
  · simp (disch := first | assumption | omega | (simp only [List.length_append]; omega)) only [go_sem, reduceCtorEq, Nat.reduceEqDiff, Nat.reduceAdd, Nat.reduceSub, Nat.reduceMul, Nat.reduceLeDiff, Int.reduceLT, Int.reduceLE, Int.reduceEq, ↓reduceIte, Int.reduceNeg, Int.reduceAdd, Int.reduceSub, Int.reduceMul, true_imp_iff, forall_const, Nat.mul_one, Int.reduceToNat, Nat.reducePow, Int.reducePow, Bool.true_and, Bool.false_and, Bool.and_false]
  · simp (disch := first | assumption | omega | (simp only [List.length_append]; omega)) only [go_sem, reduceCtorEq, Nat.reduceEqDiff, Nat.reduceAdd, Nat.reduceSub, Nat.reduceMul, Nat.reduceLeDiff, Int.reduceLT, Int.reduceLE, Int.reduceEq, ↓reduceIte, Int.reduceNeg, Int.reduceAdd, Int.reduceSub, Int.reduceMul, true_imp_iff, forall_const, Nat.mul_one, Int.reduceToNat, Nat.reducePow, Int.reducePow, Bool.true_and, Bool.false_and, Bool.and_false]
  rintro i a σ1 ⟨hi, hf, k, h3, hg⟩
  by_cases hlt : i < L.length
  · have hlt' : (i : Int) < L.length := by omega
    have hx : L[i]? = some (L[i]'hlt) := List.getElem?_eq_getElem hlt
    obtain ⟨x, hxx⟩ : ∃ x, L[i]'hlt = x := ⟨_, rfl⟩
    rw [hxx] at hx
    have hmx := spanV_map_get hx
    simp (disch := first | assumption | omega | (simp only [List.length_append]; omega)) only [go_sem, reduceCtorEq, Nat.reduceEqDiff, Nat.reduceAdd, Nat.reduceSub, Nat.reduceMul, Nat.reduceLeDiff, Int.reduceLT, Int.reduceLE, Int.reduceEq, ↓reduceIte, Int.reduceNeg, Int.reduceAdd, Int.reduceSub, Int.reduceMul, true_imp_iff, forall_const, Nat.mul_one, Int.reduceToNat, Nat.reducePow, Int.reducePow, Bool.true_and, Bool.false_and, Bool.and_false, hf, h3, hlt', hmx, ←hF]
    refine allocC_by fun c hc => ?_
    obtain ⟨hga, hc0⟩ := hg.plus hc (q := .obj [.int .u64 x.1, .int .u64 x.2])
    simp (disch := first | assumption | omega | (simp only [List.length_append]; omega)) only [go_sem, reduceCtorEq, Nat.reduceEqDiff, Nat.reduceAdd, Nat.reduceSub, Nat.reduceMul, Nat.reduceLeDiff, Int.reduceLT, Int.reduceLE, Int.reduceEq, ↓reduceIte, Int.reduceNeg, Int.reduceAdd, Int.reduceSub, Int.reduceMul, true_imp_iff, forall_const, Nat.mul_one, Int.reduceToNat, Nat.reducePow, Int.reducePow, Bool.true_and, Bool.false_and, Bool.and_false, hf, h3, ←hF]
    refine appC_by hga rfl rfl (by simp; omega) (by simp; omega) fun k' σ' hg' => ?_
    have hap : (L.take i).map spanV ++ [.agg [.int .u64 x.1, .int .u64 x.2]] = (L.take (i + 1)).map spanV := by
      obtain ⟨h1, h2⟩ := List.getElem?_eq_some_iff.1 hx
      rw [List.take_succ_eq_append_getElem h1, h2]; simp [spanV]
    rw [hap] at hg' ⊢
    obtain ⟨σ2, hd, hg2⟩ := hg'.less hc0
    simp (disch := first | assumption | omega | (simp only [List.length_append]; omega)) only [go_sem, reduceCtorEq, Nat.reduceEqDiff, Nat.reduceAdd, Nat.reduceSub, Nat.reduceMul, Nat.reduceLeDiff, Int.reduceLT, Int.reduceLE, Int.reduceEq, ↓reduceIte, Int.reduceNeg, Int.reduceAdd, Int.reduceSub, Int.reduceMul, true_imp_iff, forall_const, Nat.mul_one, Int.reduceToNat, Nat.reducePow, Int.reducePow, Bool.true_and, Bool.false_and, Bool.and_false, hf, ←hF]
    refine ⟨i + 1, by dsimp only; omega, Dr.drop hd ⟨by omega, ?_, k', ?_, by simpa using hg2⟩⟩
    · simp (disch := first | assumption | omega | (simp only [List.length_append]; omega)) only [go_sem, reduceCtorEq, Nat.reduceEqDiff, Nat.reduceAdd, Nat.reduceSub, Nat.reduceMul, Nat.reduceLeDiff, Int.reduceLT, Int.reduceLE, Int.reduceEq, ↓reduceIte, Int.reduceNeg, Int.reduceAdd, Int.reduceSub, Int.reduceMul, true_imp_iff, forall_const, Nat.mul_one, Int.reduceToNat, Nat.reducePow, Int.reducePow, Bool.true_and, Bool.false_and, Bool.and_false, hf]
    · rfl
  · have hlt' : ¬ (i : Int) < L.length := by omega
    have e : L.take i = L := List.take_of_length_le (by omega)
    rw [e] at h3 hg
    simp (disch := first | assumption | omega | (simp only [List.length_append]; omega)) only [go_sem, reduceCtorEq, Nat.reduceEqDiff, Nat.reduceAdd, Nat.reduceSub, Nat.reduceMul, Nat.reduceLeDiff, Int.reduceLT, Int.reduceLE, Int.reduceEq, ↓reduceIte, Int.reduceNeg, Int.reduceAdd, Int.reduceSub, Int.reduceMul, true_imp_iff, forall_const, Nat.mul_one, Int.reduceToNat, Nat.reducePow, Int.reducePow, Bool.true_and, Bool.false_and, Bool.and_false, hf, h3, hlt', ←hF]
    rw [hF]
    simp (disch := first | assumption | omega | (simp only [List.length_append]; omega)) only [go_sem, reduceCtorEq, Nat.reduceEqDiff, Nat.reduceAdd, Nat.reduceSub, Nat.reduceMul, Nat.reduceLeDiff, Int.reduceLT, Int.reduceLE, Int.reduceEq, ↓reduceIte, Int.reduceNeg, Int.reduceAdd, Int.reduceSub, Int.reduceMul, true_imp_iff, forall_const, Nat.mul_one, Int.reduceToNat, Nat.reducePow, Int.reducePow, Bool.true_and, Bool.false_and, Bool.and_false, h3]
    exact retC_by hg.drop (.sl _ _) ⟨rfl, rfl⟩

theorem spanV_inj {a b : Int × Int} (h : spanV a = spanV b) : a = b := by
  obtain ⟨a1, a2⟩ := a
  obtain ⟨b1, b2⟩ := b
  simp only [spanV] at h
  injection h with h
  simp at h
  rw [h.1, h.2]
theorem sameNumbers_ok (A B : List Int) (hA : A.length ≤ 1000000) (hB : B.length ≤ 1000000) : Pure Try.prog 38 [u64sAV A, u64sAV B] (.int .i64 (if A = B then 0 else -1)) := by
  intro σ
  refine a38 (by simp) ?_
  obtain ⟨q, hq⟩ : ∃ q : Int, (if A = B then 0 else -1) = q := ⟨_, rfl⟩
  rw [hq]
  by_cases hl : A.length = B.length
  · have hl' : (A.length : Int) = B.length := by omega
    simp (disch := first | assumption | omega | (simp only [List.length_append]; omega)) only [go_sem, reduceCtorEq, Nat.reduceEqDiff, Nat.reduceAdd, Nat.reduceSub, Nat.reduceMul, Nat.reduceLeDiff, Int.reduceLT, Int.reduceLE, Int.reduceEq, ↓reduceIte, Int.reduceNeg, Int.reduceAdd, Int.reduceSub, Int.reduceMul, true_imp_iff, forall_const, Nat.mul_one, Int.reduceToNat, Nat.reducePow, Int.reducePow, Bool.true_and, Bool.false_and, Bool.and_false, u64sAV, hl']
    refine wp_loop_on (fun (i : Nat) a σ' => (i ≤ B.length ∧ A.take i = B.take i) ∧ (a 0 = .sl .shr (A.map (AV.int .u64)) ∧ a 1 = .sl .shr (B.map (AV.int .u64)) ∧ a 12 = .int .i64 B.length ∧ a 13 = .int .i64 i) ∧ σ' = σ)
      (fun i => B.length - i) 0 ⟨⟨Nat.zero_le _, by simp⟩, ?_, rfl⟩ ?_
    · simp (disch := first | assumption | omega | (simp only [List.length_append]; omega)) only [go_sem, reduceCtorEq, Nat.reduceEqDiff, Nat.reduceAdd, Nat.reduceSub, Nat.reduceMul, Nat.reduceLeDiff, Int.reduceLT, Int.reduceLE, Int.reduceEq, ↓reduceIte, Int.reduceNeg, Int.reduceAdd, Int.reduceSub, Int.reduceMul, true_imp_iff, forall_const, Nat.mul_one, Int.reduceToNat, Nat.reducePow, Int.reducePow, Bool.true_and, Bool.false_and, Bool.and_false]
    rintro i a σ1 ⟨⟨hi, hpre⟩, hf, rfl⟩
    by_cases hlt : i < B.length
    · have hlt' : (i : Int) < B.length := by omega
      have hx : A[i]? = some (A[i]'(by omega)) := List.getElem?_eq_getElem (by omega)
      obtain ⟨x, hxx⟩ : ∃ x, A[i]'(by omega) = x := ⟨_, rfl⟩
      rw [hxx] at hx
      have hy : B[i]? = some (B[i]'hlt) := List.getElem?_eq_getElem hlt
      obtain ⟨y, hyy⟩ : ∃ y, B[i]'hlt = y := ⟨_, rfl⟩
      rw [hyy] at hy
      have hmx := u64_get hx
      have hmy := u64_get hy
      by_cases hxy : x = y
      · subst hxy
        simp (disch := first | assumption | omega | (simp only [List.length_append]; omega)) only [go_sem, reduceCtorEq, Nat.reduceEqDiff, Nat.reduceAdd, Nat.reduceSub, Nat.reduceMul, Nat.reduceLeDiff, Int.reduceLT, Int.reduceLE, Int.reduceEq, ↓reduceIte, Int.reduceNeg, Int.reduceAdd, Int.reduceSub, Int.reduceMul, true_imp_iff, forall_const, Nat.mul_one, Int.reduceToNat, Nat.reducePow, Int.reducePow, Bool.true_and, Bool.false_and, Bool.and_false, hf, hlt', hmx, hmy]
        refine ⟨i + 1, by omega, ⟨by omega, ?_⟩, rfl⟩
        rw [← take_snoc hx, ← take_snoc hy, hpre]
      · simp (disch := first | assumption | omega | (simp only [List.length_append]; omega)) only [go_sem, reduceCtorEq, Nat.reduceEqDiff, Nat.reduceAdd, Nat.reduceSub, Nat.reduceMul, Nat.reduceLeDiff, Int.reduceLT, Int.reduceLE, Int.reduceEq, ↓reduceIte, Int.reduceNeg, Int.reduceAdd, Int.reduceSub, Int.reduceMul, true_imp_iff, forall_const, Nat.mul_one, Int.reduceToNat, Nat.reducePow, Int.reducePow, Bool.true_and, Bool.false_and, Bool.and_false, hf, hlt', hmx, hmy, hxy]
        rw [if_neg (by rintro rfl; rw [hx] at hy; injection hy with hy; exact hxy hy)] at hq
        subst hq
        exact retC_by (Drop.refl _) (.refl _) ⟨rfl, rfl⟩
    · have hlt' : ¬ (i : Int) < B.length := by omega
      rw [List.take_of_length_le (by omega), List.take_of_length_le (by omega)] at hpre
      rw [if_pos hpre] at hq
      subst hq
      simp (disch := first | assumption | omega | (simp only [List.length_append]; omega)) only [go_sem, reduceCtorEq, Nat.reduceEqDiff, Nat.reduceAdd, Nat.reduceSub, Nat.reduceMul, Nat.reduceLeDiff, Int.reduceLT, Int.reduceLE, Int.reduceEq, ↓reduceIte, Int.reduceNeg, Int.reduceAdd, Int.reduceSub, Int.reduceMul, true_imp_iff, forall_const, Nat.mul_one, Int.reduceToNat, Nat.reducePow, Int.reducePow, Bool.true_and, Bool.false_and, Bool.and_false, hf, hlt']
      exact retC_by (Drop.refl _) (.refl _) ⟨rfl, rfl⟩
  · have hl' : ¬ (A.length : Int) = B.length := by omega
    rw [if_neg (by rintro rfl; exact hl rfl)] at hq
    subst hq
    simp (disch := first | assumption | omega | (simp only [List.length_append]; omega)) only [go_sem, reduceCtorEq, Nat.reduceEqDiff, Nat.reduceAdd, Nat.reduceSub, Nat.reduceMul, Nat.reduceLeDiff, Int.reduceLT, Int.reduceLE, Int.reduceEq, ↓reduceIte, Int.reduceNeg, Int.reduceAdd, Int.reduceSub, Int.reduceMul, true_imp_iff, forall_const, Nat.mul_one, Int.reduceToNat, Nat.reducePow, Int.reducePow, Bool.true_and, Bool.false_and, Bool.and_false, u64sAV, hl']
    exact retC_by (Drop.refl _) (.refl _) ⟨rfl, rfl⟩
theorem take_snoc' {L : List (Int × Int)} {j : Nat} {y : Int × Int} (h : L[j]? = some y) : L.take j ++ [y] = L.take (j + 1) := by
  obtain ⟨h1, h2⟩ := List.getElem?_eq_some_iff.1 h
  rw [List.take_succ_eq_append_getElem h1, h2]
theorem sameSpans_ok (A B : List (Int × Int)) (hA : A.length ≤ 1000000) (hB : B.length ≤ 1000000) : Pure Try.prog 39 [spansV A, spansV B] (.int .i64 (if A = B then 0 else -1)) := by
  intro σ
  refine a39 (by simp) ?_
  obtain ⟨q, hq⟩ : ∃ q : Int, (if A = B then 0 else -1) = q := ⟨_, rfl⟩
  rw [hq]
  by_cases hl : A.length = B.length
  · have hl' : (A.length : Int) = B.length := by omega
    simp (disch := first | assumption | omega | (simp only [List.length_append]; omega)) only [go_sem, reduceCtorEq, Nat.reduceEqDiff, Nat.reduceAdd, Nat.reduceSub, Nat.reduceMul, Nat.reduceLeDiff, Int.reduceLT, Int.reduceLE, Int.reduceEq, ↓reduceIte, Int.reduceNeg, Int.reduceAdd, Int.reduceSub, Int.reduceMul, true_imp_iff, forall_const, Nat.mul_one, Int.reduceToNat, Nat.reducePow, Int.reducePow, Bool.true_and, Bool.false_and, Bool.and_false, spansV, hl']
    refine wp_loop_on (fun (i : Nat) a σ' => (i ≤ B.length ∧ A.take i = B.take i) ∧ (a 0 = .sl .shr (A.map spanV) ∧ a 1 = .sl .shr (B.map spanV) ∧ a 12 = .int .i64 B.length ∧ a 13 = .int .i64 i) ∧ σ' = σ)
      (fun i => B.length - i) 0 ⟨⟨Nat.zero_le _, by simp⟩, ?_, rfl⟩ ?_
    · simp (disch := first | assumption | omega | (simp only [List.length_append]; omega)) only [go_sem, reduceCtorEq, Nat.reduceEqDiff, Nat.reduceAdd, Nat.reduceSub, Nat.reduceMul, Nat.reduceLeDiff, Int.reduceLT, Int.reduceLE, Int.reduceEq, ↓reduceIte, Int.reduceNeg, Int.reduceAdd, Int.reduceSub, Int.reduceMul, true_imp_iff, forall_const, Nat.mul_one, Int.reduceToNat, Nat.reducePow, Int.reducePow, Bool.true_and, Bool.false_and, Bool.and_false]
    rintro i a σ1 ⟨⟨hi, hpre⟩, hf, rfl⟩
    by_cases hlt : i < B.length
    · have hlt' : (i : Int) < B.length := by omega
      have hx : A[i]? = some (A[i]'(by omega)) := List.getElem?_eq_getElem (by omega)
      obtain ⟨x, hxx⟩ : ∃ x, A[i]'(by omega) = x := ⟨_, rfl⟩
      rw [hxx] at hx
      have hy : B[i]? = some (B[i]'hlt) := List.getElem?_eq_getElem hlt
      obtain ⟨y, hyy⟩ : ∃ y, B[i]'hlt = y := ⟨_, rfl⟩
      rw [hyy] at hy
      have hmx := spanV_map_get hx
      have hmy := spanV_map_get hy
      by_cases hxy : x = y
      · subst hxy
        simp (disch := first | assumption | omega | (simp only [List.length_append]; omega)) only [go_sem, reduceCtorEq, Nat.reduceEqDiff, Nat.reduceAdd, Nat.reduceSub, Nat.reduceMul, Nat.reduceLeDiff, Int.reduceLT, Int.reduceLE, Int.reduceEq, ↓reduceIte, Int.reduceNeg, Int.reduceAdd, Int.reduceSub, Int.reduceMul, true_imp_iff, forall_const, Nat.mul_one, Int.reduceToNat, Nat.reducePow, Int.reducePow, Bool.true_and, Bool.false_and, Bool.and_false, hf, hlt', hmx, hmy]
        refine ⟨i + 1, by omega, ⟨by omega, ?_⟩, rfl⟩
        rw [← take_snoc' hx, ← take_snoc' hy, hpre]
      · have hne : ¬ (x.1 = y.1 ∧ x.2 = y.2) := fun h => hxy (Prod.ext h.1 h.2)
        rw [if_neg (by rintro rfl; rw [hx] at hy; injection hy with hy; exact hxy hy)] at hq
        subst hq
        by_cases h1 : x.1 = y.1
        · have h2 : ¬ x.2 = y.2 := fun h => hne ⟨h1, h⟩
          simp (disch := first | assumption | omega | (simp only [List.length_append]; omega)) only [go_sem, reduceCtorEq, Nat.reduceEqDiff, Nat.reduceAdd, Nat.reduceSub, Nat.reduceMul, Nat.reduceLeDiff, Int.reduceLT, Int.reduceLE, Int.reduceEq, ↓reduceIte, Int.reduceNeg, Int.reduceAdd, Int.reduceSub, Int.reduceMul, true_imp_iff, forall_const, Nat.mul_one, Int.reduceToNat, Nat.reducePow, Int.reducePow, Bool.true_and, Bool.false_and, Bool.and_false, hf, hlt', hmx, hmy, h1, h2]
          exact retC_by (Drop.refl _) (.refl _) ⟨rfl, rfl⟩
        · simp (disch := first | assumption | omega | (simp only [List.length_append]; omega)) only [go_sem, reduceCtorEq, Nat.reduceEqDiff, Nat.reduceAdd, Nat.reduceSub, Nat.reduceMul, Nat.reduceLeDiff, Int.reduceLT, Int.reduceLE, Int.reduceEq, ↓reduceIte, Int.reduceNeg, Int.reduceAdd, Int.reduceSub, Int.reduceMul, true_imp_iff, forall_const, Nat.mul_one, Int.reduceToNat, Nat.reducePow, Int.reducePow, Bool.true_and, Bool.false_and, Bool.and_false, hf, hlt', hmx, hmy, h1]
          exact retC_by (Drop.refl _) (.refl _) ⟨rfl, rfl⟩
    · have hlt' : ¬ (i : Int) < B.length := by omega
      rw [List.take_of_length_le (by omega), List.take_of_length_le (by omega)] at hpre
      rw [if_pos hpre] at hq
      subst hq
      simp (disch := first | assumption | omega | (simp only [List.length_append]; omega)) only [go_sem, reduceCtorEq, Nat.reduceEqDiff, Nat.reduceAdd, Nat.reduceSub, Nat.reduceMul, Nat.reduceLeDiff, Int.reduceLT, Int.reduceLE, Int.reduceEq, ↓reduceIte, Int.reduceNeg, Int.reduceAdd, Int.reduceSub, Int.reduceMul, true_imp_iff, forall_const, Nat.mul_one, Int.reduceToNat, Nat.reducePow, Int.reducePow, Bool.true_and, Bool.false_and, Bool.and_false, hf, hlt']
      exact retC_by (Drop.refl _) (.refl _) ⟨rfl, rfl⟩
  · have hl' : ¬ (A.length : Int) = B.length := by omega
    rw [if_neg (by rintro rfl; exact hl rfl)] at hq
    subst hq
    simp (disch := first | assumption | omega | (simp only [List.length_append]; omega)) only [go_sem, reduceCtorEq, Nat.reduceEqDiff, Nat.reduceAdd, Nat.reduceSub, Nat.reduceMul, Nat.reduceLeDiff, Int.reduceLT, Int.reduceLE, Int.reduceEq, ↓reduceIte, Int.reduceNeg, Int.reduceAdd, Int.reduceSub, Int.reduceMul, true_imp_iff, forall_const, Nat.mul_one, Int.reduceToNat, Nat.reducePow, Int.reducePow, Bool.true_and, Bool.false_and, Bool.and_false, spansV, hl']
    exact retC_by (Drop.refl _) (.refl _) ⟨rfl, rfl⟩

theorem aw_l : uintB 300 ++ (uintB (foldI (-1)).toNat ++ (risingB [5, 6, 9] ++ spansB [(2, 5), (7, 8)])) = [172, 2, 1, 3, 5, 0, 2, 2, 2, 2, 1, 0] := by
  simp [risingB, spansB, gaps, gapsFrom, flat, numsB, foldI, uintB_small, u8Of]
  rw [uintB_big (by omega), uintB_small (by omega)]
  decide
theorem awake_ok : Pure Try.prog 11 [] (.bool true) := by
  intro σ
  refine a11 (by simp) ?_
  have hr1 : Rises [5, 6, 9] := by
    refine ⟨by simp, fun k x y hx hy => ?_⟩
    match k, hx, hy with
    | 0, hx, hy => simp at hx hy; omega
    | 1, hx, hy => simp at hx hy; omega
    | k + 2, hx, hy => simp at hy
  have hr2 : Rises (flat [(2, 5), (7, 8)]) := by
    refine ⟨by simp [flat], fun k x y hx hy => ?_⟩
    match k, hx, hy with
    | 0, hx, hy => simp [flat] at hx hy; omega
    | 1, hx, hy => simp [flat] at hx hy; omega
    | 2, hx, hy => simp [flat] at hx hy; omega
    | k + 3, hx, hy => simp [flat] at hy
  simp (disch := first | assumption | omega | (simp only [List.length_append]; omega)) only [go_sem, reduceCtorEq, Nat.reduceEqDiff, Nat.reduceAdd, Nat.reduceSub, Nat.reduceMul, Nat.reduceLeDiff, Int.reduceLT, Int.reduceLE, Int.reduceEq, ↓reduceIte, Int.reduceNeg, Int.reduceAdd, Int.reduceSub, Int.reduceMul, true_imp_iff, forall_const, Nat.mul_one, Int.reduceToNat, Nat.reducePow, Int.reducePow, Bool.true_and, Bool.false_and, Bool.and_false]
  refine allocC_by fun b hb => ?_
  have hW0 : W σ b [] (σ.set b (some (.obj [.sl .full []]))) := ⟨.full, .inl ⟨rfl, rfl, rfl⟩⟩
  simp (disch := first | assumption | omega | (simp only [List.length_append]; omega)) only [go_sem, reduceCtorEq, Nat.reduceEqDiff, Nat.reduceAdd, Nat.reduceSub, Nat.reduceMul, Nat.reduceLeDiff, Int.reduceLT, Int.reduceLE, Int.reduceEq, ↓reduceIte, Int.reduceNeg, Int.reduceAdd, Int.reduceSub, Int.reduceMul, true_imp_iff, forall_const, Nat.mul_one, Int.reduceToNat, Nat.reducePow, Int.reducePow, Bool.true_and, Bool.false_and, Bool.and_false]
  refine (wuint_ok σ b 300 [] _ hW0 (by omega) (by omega) (by have := uintB_le (u := 300) (by omega); simp only [List.length_nil]; omega)).mono ?_
  rintro v σ1 ⟨rfl, hW1⟩
  simp (disch := first | assumption | omega | (simp only [List.length_append]; omega)) only [go_sem, reduceCtorEq, Nat.reduceEqDiff, Nat.reduceAdd, Nat.reduceSub, Nat.reduceMul, Nat.reduceLeDiff, Int.reduceLT, Int.reduceLE, Int.reduceEq, ↓reduceIte, Int.reduceNeg, Int.reduceAdd, Int.reduceSub, Int.reduceMul, true_imp_iff, forall_const, Nat.mul_one, Int.reduceToNat, Nat.reducePow, Int.reducePow, Bool.true_and, Bool.false_and, Bool.and_false]
  have hu1 := uintB_le (u := 300) (by omega)
  refine (wint_ok σ b (-1) _ _ hW1 (by omega) (by omega) (by simp at hu1 ⊢; omega)).mono ?_
  rintro v σ2 ⟨rfl, hW2⟩
  have hu2 := uintB_le (u := foldI (-1)) (foldI_bd (by omega) (by omega)).2
  simp (disch := first | assumption | omega | (simp only [List.length_append]; omega)) only [go_sem, reduceCtorEq, Nat.reduceEqDiff, Nat.reduceAdd, Nat.reduceSub, Nat.reduceMul, Nat.reduceLeDiff, Int.reduceLT, Int.reduceLE, Int.reduceEq, ↓reduceIte, Int.reduceNeg, Int.reduceAdd, Int.reduceSub, Int.reduceMul, true_imp_iff, forall_const, Nat.mul_one, Int.reduceToNat, Nat.reducePow, Int.reducePow, Bool.true_and, Bool.false_and, Bool.and_false]
  refine ACalls.shr (args' := [.ptr b 0, u64sAV [5, 6, 9]]) rfl ?_
  refine (wrising_ok σ b [5, 6, 9] _ _ hW2 hr1 (by simp) (by simp at hu1 hu2 ⊢; omega)).mono ?_
  rintro v σ3 ⟨rfl, hW3⟩
  have hu3 := risingB_len hr1 (by simp)
  simp (disch := first | assumption | omega | (simp only [List.length_append]; omega)) only [go_sem, reduceCtorEq, Nat.reduceEqDiff, Nat.reduceAdd, Nat.reduceSub, Nat.reduceMul, Nat.reduceLeDiff, Int.reduceLT, Int.reduceLE, Int.reduceEq, ↓reduceIte, Int.reduceNeg, Int.reduceAdd, Int.reduceSub, Int.reduceMul, true_imp_iff, forall_const, Nat.mul_one, Int.reduceToNat, Nat.reducePow, Int.reducePow, Bool.true_and, Bool.false_and, Bool.and_false]
  refine ACalls.shr (args' := [.ptr b 0, spansV [(2, 5), (7, 8)]]) rfl ?_
  refine (wspans_ok σ b [(2, 5), (7, 8)] _ _ hW3 hr2 (by simp) (by simp at hu1 hu2 hu3 ⊢; omega)).mono ?_
  rintro v σ4 ⟨rfl, hW4⟩
  have e : ([] : List UInt8) ++ uintB (300 : Int).toNat ++ uintB (foldI (-1)).toNat ++ risingB [5, 6, 9] ++ spansB [(2, 5), (7, 8)] = [172, 2, 1, 3, 5, 0, 2, 2, 2, 2, 1, 0] := by
    rw [← aw_l]; simp
  rw [e] at hW4
  simp (disch := first | assumption | omega | (simp only [List.length_append]; omega)) only [go_sem, reduceCtorEq, Nat.reduceEqDiff, Nat.reduceAdd, Nat.reduceSub, Nat.reduceMul, Nat.reduceLeDiff, Int.reduceLT, Int.reduceLE, Int.reduceEq, ↓reduceIte, Int.reduceNeg, Int.reduceAdd, Int.reduceSub, Int.reduceMul, true_imp_iff, forall_const, Nat.mul_one, Int.reduceToNat, Nat.reducePow, Int.reducePow, Bool.true_and, Bool.false_and, Bool.and_false]
  refine (rread_ok [128, 0] σ4).mono ?_
  rintro v σ5 ⟨c, rfl, hc, rfl⟩
  simp (disch := first | assumption | omega | (simp only [List.length_append]; omega)) only [go_sem, reduceCtorEq, Nat.reduceEqDiff, Nat.reduceAdd, Nat.reduceSub, Nat.reduceMul, Nat.reduceLeDiff, Int.reduceLT, Int.reduceLE, Int.reduceEq, ↓reduceIte, Int.reduceNeg, Int.reduceAdd, Int.reduceSub, Int.reduceMul, true_imp_iff, forall_const, Nat.mul_one, Int.reduceToNat, Nat.reducePow, Int.reducePow, Bool.true_and, Bool.false_and, Bool.and_false]
  have hbc : σ4.set c (rd [128, 0] 0 0) c = rd [128, 0] 0 0 := ASt.set_same _ _ _
  refine (ruint_ok [128, 0] 0 0 c _ hbc (by simp) (by simp)).mono ?_
  have hru : readU [128, 0] 0 0 = (0, 0, 3) := by decide
  rw [hru]
  rintro v σ6 ⟨rfl, rfl⟩
  simp (disch := first | assumption | omega | (simp only [List.length_append]; omega)) only [go_sem, reduceCtorEq, Nat.reduceEqDiff, Nat.reduceAdd, Nat.reduceSub, Nat.reduceMul, Nat.reduceLeDiff, Int.reduceLT, Int.reduceLE, Int.reduceEq, ↓reduceIte, Int.reduceNeg, Int.reduceAdd, Int.reduceSub, Int.reduceMul, true_imp_iff, forall_const, Nat.mul_one, Int.reduceToNat, Nat.reducePow, Int.reducePow, Bool.true_and, Bool.false_and, Bool.and_false]
  obtain ⟨hW5, hcb, hc0⟩ := hW4.add hc (r := .obj [.str [128, 0], .int .i64 0, .int .i64 3])
  refine (wbytes_ok _ b _ _ hW5).mono ?_
  rintro v σ7 ⟨rfl, rfl⟩
  simp (disch := first | assumption | omega | (simp only [List.length_append]; omega)) only [go_sem, reduceCtorEq, Nat.reduceEqDiff, Nat.reduceAdd, Nat.reduceSub, Nat.reduceMul, Nat.reduceLeDiff, Int.reduceLT, Int.reduceLE, Int.reduceEq, ↓reduceIte, Int.reduceNeg, Int.reduceAdd, Int.reduceSub, Int.reduceMul, true_imp_iff, forall_const, Nat.mul_one, Int.reduceToNat, Nat.reducePow, Int.reducePow, Bool.true_and, Bool.false_and, Bool.and_false]
  refine (rerr_ok [128, 0] 0 3 c _ (ASt.set_same _ _ _)).mono ?_
  rintro v σ8 ⟨rfl, rfl⟩
  simp (disch := first | assumption | omega | (simp only [List.length_append]; omega)) only [go_sem, reduceCtorEq, Nat.reduceEqDiff, Nat.reduceAdd, Nat.reduceSub, Nat.reduceMul, Nat.reduceLeDiff, Int.reduceLT, Int.reduceLE, Int.reduceEq, ↓reduceIte, Int.reduceNeg, Int.reduceAdd, Int.reduceSub, Int.reduceMul, true_imp_iff, forall_const, Nat.mul_one, Int.reduceToNat, Nat.reducePow, Int.reducePow, Bool.true_and, Bool.false_and, Bool.and_false]
  refine (rat_ok [128, 0] 0 3 c _ (ASt.set_same _ _ _)).mono ?_
  rintro v σ9 ⟨rfl, rfl⟩
  simp (disch := first | assumption | omega | (simp only [List.length_append]; omega)) only [go_sem, reduceCtorEq, Nat.reduceEqDiff, Nat.reduceAdd, Nat.reduceSub, Nat.reduceMul, Nat.reduceLeDiff, Int.reduceLT, Int.reduceLE, Int.reduceEq, ↓reduceIte, Int.reduceNeg, Int.reduceAdd, Int.reduceSub, Int.reduceMul, true_imp_iff, forall_const, Nat.mul_one, Int.reduceToNat, Nat.reducePow, Int.reducePow, Bool.true_and, Bool.false_and, Bool.and_false]
  obtain ⟨k, hg⟩ := hW4
  refine retC_by ?_ (.refl _) ⟨rfl, rfl⟩
  exact (Drop.set hc).trans (hg.drop.trans (Drop.set hb))
end Go.A
