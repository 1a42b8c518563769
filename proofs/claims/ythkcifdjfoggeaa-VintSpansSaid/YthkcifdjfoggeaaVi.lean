/- The document's spans; the statements' helpers: walked. -/
import Derived.Test.YthkcifdjfoggeaaVh
namespace Go.A
open Go.Proofs Go.Vint
set_option maxRecDepth 100000
set_option linter.unusedSimpArgs false
set_option linter.unusedVariables false

theorem refSpans_ok (L : List (Int × Int)) (hL : Rises (flat L)) (hn : L.length ≤ 1000) : Pure Try.prog 34 [spansV L] (.str (spansB L)) := by
  intro σ
  refine a34 (by simp) ?_
  have hu := uintB_le (u := L.length) (by omega)
  rw [Int.toNat_natCast] at hu
  have hfl := flat_length L
  have hgl := gaps_length (flat L)
  have hgb := gaps_bd hL
  simp (disch := first | assumption | omega | (simp only [List.length_append]; omega)) only [go_sem, reduceCtorEq, Nat.reduceEqDiff, Nat.reduceAdd, Nat.reduceSub, Nat.reduceMul, Nat.reduceLeDiff, Int.reduceLT, Int.reduceLE, Int.reduceEq, ↓reduceIte, Int.reduceNeg, Int.reduceAdd, Int.reduceSub, Int.reduceMul, true_imp_iff, forall_const, Nat.mul_one, Int.reduceToNat, Nat.reducePow, Int.reducePow, Bool.true_and, Bool.false_and, Bool.and_false, spansV]
  refine (refUint_ok' L.length (by omega) (by omega)).use ?_
  simp (disch := first | assumption | omega | (simp only [List.length_append]; omega)) only [go_sem, reduceCtorEq, Nat.reduceEqDiff, Nat.reduceAdd, Nat.reduceSub, Nat.reduceMul, Nat.reduceLeDiff, Int.reduceLT, Int.reduceLE, Int.reduceEq, ↓reduceIte, Int.reduceNeg, Int.reduceAdd, Int.reduceSub, Int.reduceMul, true_imp_iff, forall_const, Nat.mul_one, Int.reduceToNat, Nat.reducePow, Int.reducePow, Bool.true_and, Bool.false_and, Bool.and_false]
  have hnl : ∀ i, (numsB ((gaps (flat L)).take i)).length ≤ 20 * L.length := fun i => by
    have := numsB_len ((gaps (flat L)).take i) (fun x hx => hgb x (List.mem_of_mem_take hx))
    simp only [List.length_take] at this
    omega
  refine wp_loop_by (fun (i : Nat) a σ' => i ≤ L.length ∧ (a 0 = .sl .shr (L.map spanV) ∧ a 3 = .str (uintB L.length ++ numsB ((gaps (flat L)).take (i * 2))) ∧ a 11 = .sl .shr (L.map spanV) ∧ a 12 = .int .i64 L.length ∧ a 13 = .int .i64 i) ∧ σ' = σ)
    (fun i => L.length - i) 0 (Dr.now ⟨Nat.zero_le _, ?_, rfl⟩) ?_
  · simp (disch := first | assumption | omega | (simp only [List.length_append]; omega)) only [go_sem, reduceCtorEq, Nat.reduceEqDiff, Nat.reduceAdd, Nat.reduceSub, Nat.reduceMul, Nat.reduceLeDiff, Int.reduceLT, Int.reduceLE, Int.reduceEq, ↓reduceIte, Int.reduceNeg, Int.reduceAdd, Int.reduceSub, Int.reduceMul, true_imp_iff, forall_const, Nat.mul_one, Int.reduceToNat, Nat.reducePow, Int.reducePow, Bool.true_and, Bool.false_and, Bool.and_false]
    simp [numsB]
  rintro i a σ1 ⟨hi, hf, rfl⟩
  have hni := hnl (i * 2)
  by_cases hlt : i < L.length
  · have hlt' : (i : Int) < L.length := by omega
    have hidx : L[i]? = some (L[i]'hlt) := List.getElem?_eq_getElem hlt
    obtain ⟨x, hx⟩ : ∃ x, L[i]'hlt = x := ⟨_, rfl⟩
    rw [hx] at hidx
    obtain ⟨x0, x1, x2⟩ := flat_at hL hidx
    have hb2 := uintB_le (u := x.2 - x.1 - 1) (by omega)
    have hmap := spanV_map_get hidx
    by_cases hi0 : i = 0
    · have hz : ¬ (0 : Int) < i := by omega
      have hb1 := uintB_le (u := x.1) (by omega)
      have hlen0 : (uintB x.1.toNat).length + (uintB (x.2 - x.1 - 1).toNat).length ≤ 9223372036854775807 := by omega
      have hlen : (uintB L.length ++ numsB ((gaps (flat L)).take (i * 2))).length + (uintB x.1.toNat ++ uintB (x.2 - x.1 - 1).toNat).length ≤ 9223372036854775807 := by simp only [List.length_append]; omega
      simp only [List.length_append] at hlen
      have hsn := spans_zero (hi0 ▸ hidx)
      rw [show ((0 : Nat) + 1) * 2 = (i + 1) * 2 by omega, show (0 : Nat) * 2 = i * 2 by omega] at hsn
      obtain ⟨T, hT⟩ : ∃ T, uintB L.length ++ numsB ((gaps (flat L)).take (i * 2)) = T := ⟨_, rfl⟩
      have hT2 : uintB L.length ++ numsB ((gaps (flat L)).take ((i + 1) * 2)) = T ++ (uintB x.1.toNat ++ uintB (x.2 - x.1 - 1).toNat) := by rw [hsn, ← List.append_assoc, hT]
      have hTl : T.length + ((uintB x.1.toNat).length + (uintB (x.2 - x.1 - 1).toNat).length) ≤ 9223372036854775807 := by rw [← hT, List.length_append]; omega
      rw [hT] at hf
      simp (disch := first | assumption | omega | (simp only [List.length_append]; omega)) only [go_sem, reduceCtorEq, Nat.reduceEqDiff, Nat.reduceAdd, Nat.reduceSub, Nat.reduceMul, Nat.reduceLeDiff, Int.reduceLT, Int.reduceLE, Int.reduceEq, ↓reduceIte, Int.reduceNeg, Int.reduceAdd, Int.reduceSub, Int.reduceMul, true_imp_iff, forall_const, Nat.mul_one, Int.reduceToNat, Nat.reducePow, Int.reducePow, Bool.true_and, Bool.false_and, Bool.and_false, hf, hlt', hmap, hz]
      refine allocC_by fun c hc => ?_
      simp (disch := first | assumption | omega | (simp only [List.length_append]; omega)) only [go_sem, reduceCtorEq, Nat.reduceEqDiff, Nat.reduceAdd, Nat.reduceSub, Nat.reduceMul, Nat.reduceLeDiff, Int.reduceLT, Int.reduceLE, Int.reduceEq, ↓reduceIte, Int.reduceNeg, Int.reduceAdd, Int.reduceSub, Int.reduceMul, true_imp_iff, forall_const, Nat.mul_one, Int.reduceToNat, Nat.reducePow, Int.reducePow, Bool.true_and, Bool.false_and, Bool.and_false, hf, hz]
      refine (refUint_ok' x.1 (by omega) (by omega)).use ?_
      simp (disch := first | assumption | omega | (simp only [List.length_append]; omega)) only [go_sem, reduceCtorEq, Nat.reduceEqDiff, Nat.reduceAdd, Nat.reduceSub, Nat.reduceMul, Nat.reduceLeDiff, Int.reduceLT, Int.reduceLE, Int.reduceEq, ↓reduceIte, Int.reduceNeg, Int.reduceAdd, Int.reduceSub, Int.reduceMul, true_imp_iff, forall_const, Nat.mul_one, Int.reduceToNat, Nat.reducePow, Int.reducePow, Bool.true_and, Bool.false_and, Bool.and_false, hf]
      refine (refUint_ok' (x.2 - x.1 - 1) (by omega) (by omega)).use ?_
      simp (disch := first | assumption | omega | (simp only [List.length_append]; omega)) only [go_sem, reduceCtorEq, Nat.reduceEqDiff, Nat.reduceAdd, Nat.reduceSub, Nat.reduceMul, Nat.reduceLeDiff, Int.reduceLT, Int.reduceLE, Int.reduceEq, ↓reduceIte, Int.reduceNeg, Int.reduceAdd, Int.reduceSub, Int.reduceMul, true_imp_iff, forall_const, Nat.mul_one, Int.reduceToNat, Nat.reducePow, Int.reducePow, Bool.true_and, Bool.false_and, Bool.and_false, hf, hlen0, hTl]
      refine ⟨i + 1, by dsimp only; omega, Dr.lay hc ⟨by omega, ?_, rfl⟩⟩
      rw [hT2]
      simp (disch := first | assumption | omega | (simp only [List.length_append]; omega)) only [go_sem, reduceCtorEq, Nat.reduceEqDiff, Nat.reduceAdd, Nat.reduceSub, Nat.reduceMul, Nat.reduceLeDiff, Int.reduceLT, Int.reduceLE, Int.reduceEq, ↓reduceIte, Int.reduceNeg, Int.reduceAdd, Int.reduceSub, Int.reduceMul, true_imp_iff, forall_const, Nat.mul_one, Int.reduceToNat, Nat.reducePow, Int.reducePow, Bool.true_and, Bool.false_and, Bool.and_false, hf]
    · obtain ⟨j, hji⟩ : ∃ j, i = j + 1 := ⟨i - 1, by omega⟩
      have hj : L[j]? = some (L[j]'(by omega)) := List.getElem?_eq_getElem (by omega)
      obtain ⟨y, hy⟩ : ∃ y, L[j]'(by omega) = y := ⟨_, rfl⟩
      rw [hy] at hj
      obtain ⟨y0, y1, y2⟩ := flat_at hL hj
      have hlp := flat_next hL hj (hji ▸ hidx)
      have hb1 := uintB_le (u := x.1 - y.2 - 1) (by omega)
      have hmapj := spanV_map_get hj
      have hnz : (0 : Int) < i := by omega
      have hsub : (i : Int) - 1 = j := by omega
      have hlen0 : (uintB (x.1 - y.2 - 1).toNat).length + (uintB (x.2 - x.1 - 1).toNat).length ≤ 9223372036854775807 := by omega
      have hsn := spans_succ hj (hji ▸ hidx)
      rw [← hji] at hsn
      obtain ⟨T, hT⟩ : ∃ T, uintB L.length ++ numsB ((gaps (flat L)).take (i * 2)) = T := ⟨_, rfl⟩
      have hT2 : uintB L.length ++ numsB ((gaps (flat L)).take ((i + 1) * 2)) = T ++ (uintB (x.1 - y.2 - 1).toNat ++ uintB (x.2 - x.1 - 1).toNat) := by rw [hsn, ← List.append_assoc, hT]
      have hTl : T.length + ((uintB (x.1 - y.2 - 1).toNat).length + (uintB (x.2 - x.1 - 1).toNat).length) ≤ 9223372036854775807 := by rw [← hT, List.length_append]; omega
      rw [hT] at hf
      simp (disch := first | assumption | omega | (simp only [List.length_append]; omega)) only [go_sem, reduceCtorEq, Nat.reduceEqDiff, Nat.reduceAdd, Nat.reduceSub, Nat.reduceMul, Nat.reduceLeDiff, Int.reduceLT, Int.reduceLE, Int.reduceEq, ↓reduceIte, Int.reduceNeg, Int.reduceAdd, Int.reduceSub, Int.reduceMul, true_imp_iff, forall_const, Nat.mul_one, Int.reduceToNat, Nat.reducePow, Int.reducePow, Bool.true_and, Bool.false_and, Bool.and_false, hf, hlt', hmap, hnz]
      refine allocC_by fun c hc => ?_
      simp (disch := first | assumption | omega | (simp only [List.length_append]; omega)) only [go_sem, reduceCtorEq, Nat.reduceEqDiff, Nat.reduceAdd, Nat.reduceSub, Nat.reduceMul, Nat.reduceLeDiff, Int.reduceLT, Int.reduceLE, Int.reduceEq, ↓reduceIte, Int.reduceNeg, Int.reduceAdd, Int.reduceSub, Int.reduceMul, true_imp_iff, forall_const, Nat.mul_one, Int.reduceToNat, Nat.reducePow, Int.reducePow, Bool.true_and, Bool.false_and, Bool.and_false, hf, hnz, hsub, hmapj]
      refine (refUint_ok' (x.1 - y.2 - 1) (by omega) (by omega)).use ?_
      simp (disch := first | assumption | omega | (simp only [List.length_append]; omega)) only [go_sem, reduceCtorEq, Nat.reduceEqDiff, Nat.reduceAdd, Nat.reduceSub, Nat.reduceMul, Nat.reduceLeDiff, Int.reduceLT, Int.reduceLE, Int.reduceEq, ↓reduceIte, Int.reduceNeg, Int.reduceAdd, Int.reduceSub, Int.reduceMul, true_imp_iff, forall_const, Nat.mul_one, Int.reduceToNat, Nat.reducePow, Int.reducePow, Bool.true_and, Bool.false_and, Bool.and_false, hf]
      refine (refUint_ok' (x.2 - x.1 - 1) (by omega) (by omega)).use ?_
      simp (disch := first | assumption | omega | (simp only [List.length_append]; omega)) only [go_sem, reduceCtorEq, Nat.reduceEqDiff, Nat.reduceAdd, Nat.reduceSub, Nat.reduceMul, Nat.reduceLeDiff, Int.reduceLT, Int.reduceLE, Int.reduceEq, ↓reduceIte, Int.reduceNeg, Int.reduceAdd, Int.reduceSub, Int.reduceMul, true_imp_iff, forall_const, Nat.mul_one, Int.reduceToNat, Nat.reducePow, Int.reducePow, Bool.true_and, Bool.false_and, Bool.and_false, hf, hlen0, hTl]
      refine ⟨i + 1, by dsimp only; omega, Dr.lay hc ⟨by omega, ?_, rfl⟩⟩
      rw [hT2]
      simp (disch := first | assumption | omega | (simp only [List.length_append]; omega)) only [go_sem, reduceCtorEq, Nat.reduceEqDiff, Nat.reduceAdd, Nat.reduceSub, Nat.reduceMul, Nat.reduceLeDiff, Int.reduceLT, Int.reduceLE, Int.reduceEq, ↓reduceIte, Int.reduceNeg, Int.reduceAdd, Int.reduceSub, Int.reduceMul, true_imp_iff, forall_const, Nat.mul_one, Int.reduceToNat, Nat.reducePow, Int.reducePow, Bool.true_and, Bool.false_and, Bool.and_false, hf]
  · have hlt' : ¬ (i : Int) < L.length := by omega
    have e : (gaps (flat L)).take (i * 2) = gaps (flat L) := List.take_of_length_le (by omega)
    rw [e] at hf
    simp (disch := first | assumption | omega | (simp only [List.length_append]; omega)) only [go_sem, reduceCtorEq, Nat.reduceEqDiff, Nat.reduceAdd, Nat.reduceSub, Nat.reduceMul, Nat.reduceLeDiff, Int.reduceLT, Int.reduceLE, Int.reduceEq, ↓reduceIte, Int.reduceNeg, Int.reduceAdd, Int.reduceSub, Int.reduceMul, true_imp_iff, forall_const, Nat.mul_one, Int.reduceToNat, Nat.reducePow, Int.reducePow, Bool.true_and, Bool.false_and, Bool.and_false, hf, hlt']
    exact retC_by (Drop.refl _) (.refl _) ⟨rfl, rfl⟩

theorem u64_get {L : List Int} {i : Nat} {x : Int} (h : L[i]? = some x) : (L.map (AV.int .u64))[i]? = some (.int .u64 x) := by rw [List.getElem?_map, h]; rfl
theorem rising_ok (L : List Int) (hn : L.length ≤ 9223372036854775807) : Pure Try.prog 24 [.sl .shr (L.map (AV.int .u64))] (u64sAV (risingL L)) := by
  intro σ
  refine a24 (by simp) ?_
  obtain ⟨F, hF⟩ : ∃ F, F = ACode.wp Try.prog c24_18 := ⟨_, rfl⟩
  have fin : ∀ (a : AFr) (k : SK) (σ' : ASt), a 3 = .sl k ((risingL L).map (AV.int .u64)) → Grown σ σ' k ((risingL L).map (AV.int .u64)).length 1 → F (RetQ [.t 2] fun v σ' => v = u64sAV (risingL L) ∧ σ' = σ) a σ' := by
    intro a k σ' h3 hg
    rw [hF]
    simp (disch := first | assumption | omega | (simp only [List.length_append]; omega)) only [go_sem, reduceCtorEq, Nat.reduceEqDiff, Nat.reduceAdd, Nat.reduceSub, Nat.reduceMul, Nat.reduceLeDiff, Int.reduceLT, Int.reduceLE, Int.reduceEq, ↓reduceIte, Int.reduceNeg, Int.reduceAdd, Int.reduceSub, Int.reduceMul, true_imp_iff, forall_const, Nat.mul_one, Int.reduceToNat, Nat.reducePow, Int.reducePow, Bool.true_and, Bool.false_and, Bool.and_false, h3]
    exact retC_by hg.drop (.sl _ _) ⟨rfl, rfl⟩
  simp (disch := first | assumption | omega | (simp only [List.length_append]; omega)) only [go_sem, reduceCtorEq, Nat.reduceEqDiff, Nat.reduceAdd, Nat.reduceSub, Nat.reduceMul, Nat.reduceLeDiff, Int.reduceLT, Int.reduceLE, Int.reduceEq, ↓reduceIte, Int.reduceNeg, Int.reduceAdd, Int.reduceSub, Int.reduceMul, true_imp_iff, forall_const, Nat.mul_one, Int.reduceToNat, Nat.reducePow, Int.reducePow, Bool.true_and, Bool.false_and, Bool.and_false, ←hF]
  refine wp_loop_on (fun (i : Nat) a σ' => (i ≤ L.length ∧ i ≤ 20) ∧ (a 0 = .sl .shr (L.map (AV.int .u64)) ∧ a 4 = .int .i64 i) ∧ ∃ k, a 3 = .sl k (((L.take i).foldl riseStep []).map (AV.int .u64)) ∧ Grown σ σ' k (((L.take i).foldl riseStep []).map (AV.int .u64)).length 1)
    (fun i => 20 - i) 0 ⟨⟨Nat.zero_le _, by omega⟩, ?_, .full, ?_, .inl ⟨rfl, by simp, rfl⟩⟩ ?_
  · simp (disch := first | assumption | omega | (simp only [List.length_append]; omega)) only [go_sem, reduceCtorEq, Nat.reduceEqDiff, Nat.reduceAdd, Nat.reduceSub, Nat.reduceMul, Nat.reduceLeDiff, Int.reduceLT, Int.reduceLE, Int.reduceEq, ↓reduceIte, Int.reduceNeg, Int.reduceAdd, Int.reduceSub, Int.reduceMul, true_imp_iff, forall_const, Nat.mul_one, Int.reduceToNat, Nat.reducePow, Int.reducePow, Bool.true_and, Bool.false_and, Bool.and_false]
  · simp (disch := first | assumption | omega | (simp only [List.length_append]; omega)) only [go_sem, reduceCtorEq, Nat.reduceEqDiff, Nat.reduceAdd, Nat.reduceSub, Nat.reduceMul, Nat.reduceLeDiff, Int.reduceLT, Int.reduceLE, Int.reduceEq, ↓reduceIte, Int.reduceNeg, Int.reduceAdd, Int.reduceSub, Int.reduceMul, true_imp_iff, forall_const, Nat.mul_one, Int.reduceToNat, Nat.reducePow, Int.reducePow, Bool.true_and, Bool.false_and, Bool.and_false]
    simp
  rintro i a σ1 ⟨⟨hi, hi20⟩, hf, k, h3, hg⟩
  by_cases hlt : i < L.length ∧ i < 20
  · have hlt1 : (i : Int) < L.length := by omega
    have hlt2 : (i : Int) < 20 := by omega
    have hidx : L[i]? = some (L[i]'hlt.1) := List.getElem?_eq_getElem hlt.1
    obtain ⟨x, hx⟩ : ∃ x, L[i]'hlt.1 = x := ⟨_, rfl⟩
    rw [hx] at hidx
    have hmap := u64_get hidx
    have hsn := risingL_snoc hidx hlt.2
    have hol := riseFold_len (L.take i) []
    generalize (L.take i).foldl riseStep [] = out at *
    simp only [List.length_nil, List.length_take] at hol
    have hap : out.map (AV.int .u64) ++ [.int .u64 x] = (out ++ [x]).map (AV.int .u64) := by simp
    by_cases ho : out = []
    · have hz : (out.length : Int) = 0 := by rw [ho]; rfl
      rw [riseStep, if_pos (.inl ho)] at hsn
      simp (disch := first | assumption | omega | (simp only [List.length_append]; omega)) only [go_sem, reduceCtorEq, Nat.reduceEqDiff, Nat.reduceAdd, Nat.reduceSub, Nat.reduceMul, Nat.reduceLeDiff, Int.reduceLT, Int.reduceLE, Int.reduceEq, ↓reduceIte, Int.reduceNeg, Int.reduceAdd, Int.reduceSub, Int.reduceMul, true_imp_iff, forall_const, Nat.mul_one, Int.reduceToNat, Nat.reducePow, Int.reducePow, Bool.true_and, Bool.false_and, Bool.and_false, hf, h3, hlt1, hlt2, hmap, hz, ←hF]
      refine appC_by hg rfl rfl (by simp; omega) (by simp; omega) fun k' σ' hg' => ?_
      rw [hap] at hg' ⊢
      simp (disch := first | assumption | omega | (simp only [List.length_append]; omega)) only [go_sem, reduceCtorEq, Nat.reduceEqDiff, Nat.reduceAdd, Nat.reduceSub, Nat.reduceMul, Nat.reduceLeDiff, Int.reduceLT, Int.reduceLE, Int.reduceEq, ↓reduceIte, Int.reduceNeg, Int.reduceAdd, Int.reduceSub, Int.reduceMul, true_imp_iff, forall_const, Nat.mul_one, Int.reduceToNat, Nat.reducePow, Int.reducePow, Bool.true_and, Bool.false_and, Bool.and_false, hf, ←hF]
      refine ⟨i + 1, by omega, by omega, ?_, k', ?_, by rw [hsn]; simpa using hg'⟩
      · simp (disch := first | assumption | omega | (simp only [List.length_append]; omega)) only [go_sem, reduceCtorEq, Nat.reduceEqDiff, Nat.reduceAdd, Nat.reduceSub, Nat.reduceMul, Nat.reduceLeDiff, Int.reduceLT, Int.reduceLE, Int.reduceEq, ↓reduceIte, Int.reduceNeg, Int.reduceAdd, Int.reduceSub, Int.reduceMul, true_imp_iff, forall_const, Nat.mul_one, Int.reduceToNat, Nat.reducePow, Int.reducePow, Bool.true_and, Bool.false_and, Bool.and_false, hf]
      · rw [hsn]
    · obtain ⟨j, hj⟩ : ∃ j, out.length = j + 1 := ⟨out.length - 1, by have := List.length_pos_iff.2 ho; omega⟩
      obtain ⟨y, hy1, hy2⟩ := last_at hj
      have hmapj := u64_get hy2
      have hnz : ¬ (out.length : Int) = 0 := by omega
      have hsub : (out.length : Int) - 1 = j := by omega
      by_cases hxy : y < x
      · rw [riseStep, if_pos (.inr (by rw [hy1]; exact hxy))] at hsn
        simp (disch := first | assumption | omega | (simp only [List.length_append]; omega)) only [go_sem, reduceCtorEq, Nat.reduceEqDiff, Nat.reduceAdd, Nat.reduceSub, Nat.reduceMul, Nat.reduceLeDiff, Int.reduceLT, Int.reduceLE, Int.reduceEq, ↓reduceIte, Int.reduceNeg, Int.reduceAdd, Int.reduceSub, Int.reduceMul, true_imp_iff, forall_const, Nat.mul_one, Int.reduceToNat, Nat.reducePow, Int.reducePow, Bool.true_and, Bool.false_and, Bool.and_false, hf, h3, hlt1, hlt2, hmap, hnz, hsub, hmapj, hxy, ←hF]
        refine appC_by hg rfl rfl (by simp; omega) (by simp; omega) fun k' σ' hg' => ?_
        rw [hap] at hg' ⊢
        simp (disch := first | assumption | omega | (simp only [List.length_append]; omega)) only [go_sem, reduceCtorEq, Nat.reduceEqDiff, Nat.reduceAdd, Nat.reduceSub, Nat.reduceMul, Nat.reduceLeDiff, Int.reduceLT, Int.reduceLE, Int.reduceEq, ↓reduceIte, Int.reduceNeg, Int.reduceAdd, Int.reduceSub, Int.reduceMul, true_imp_iff, forall_const, Nat.mul_one, Int.reduceToNat, Nat.reducePow, Int.reducePow, Bool.true_and, Bool.false_and, Bool.and_false, hf, ←hF]
        refine ⟨i + 1, by omega, by omega, ?_, k', ?_, by rw [hsn]; simpa using hg'⟩
        · simp (disch := first | assumption | omega | (simp only [List.length_append]; omega)) only [go_sem, reduceCtorEq, Nat.reduceEqDiff, Nat.reduceAdd, Nat.reduceSub, Nat.reduceMul, Nat.reduceLeDiff, Int.reduceLT, Int.reduceLE, Int.reduceEq, ↓reduceIte, Int.reduceNeg, Int.reduceAdd, Int.reduceSub, Int.reduceMul, true_imp_iff, forall_const, Nat.mul_one, Int.reduceToNat, Nat.reducePow, Int.reducePow, Bool.true_and, Bool.false_and, Bool.and_false, hf]
        · rw [hsn]
      · rw [riseStep, if_neg (by rw [hy1]; simp only [Option.getD_some]; rintro (h | h); exact ho h; exact hxy h)] at hsn
        simp (disch := first | assumption | omega | (simp only [List.length_append]; omega)) only [go_sem, reduceCtorEq, Nat.reduceEqDiff, Nat.reduceAdd, Nat.reduceSub, Nat.reduceMul, Nat.reduceLeDiff, Int.reduceLT, Int.reduceLE, Int.reduceEq, ↓reduceIte, Int.reduceNeg, Int.reduceAdd, Int.reduceSub, Int.reduceMul, true_imp_iff, forall_const, Nat.mul_one, Int.reduceToNat, Nat.reducePow, Int.reducePow, Bool.true_and, Bool.false_and, Bool.and_false, hf, h3, hlt1, hlt2, hmap, hnz, hsub, hmapj, hxy, ←hF]
        refine ⟨i + 1, by omega, by omega, ?_, k, ?_, by rw [hsn]; simpa using hg⟩
        · simp (disch := first | assumption | omega | (simp only [List.length_append]; omega)) only [go_sem, reduceCtorEq, Nat.reduceEqDiff, Nat.reduceAdd, Nat.reduceSub, Nat.reduceMul, Nat.reduceLeDiff, Int.reduceLT, Int.reduceLE, Int.reduceEq, ↓reduceIte, Int.reduceNeg, Int.reduceAdd, Int.reduceSub, Int.reduceMul, true_imp_iff, forall_const, Nat.mul_one, Int.reduceToNat, Nat.reducePow, Int.reducePow, Bool.true_and, Bool.false_and, Bool.and_false, hf]
        · rw [hsn]
  · have e : (L.take i).foldl riseStep [] = risingL L := by
      unfold risingL
      congr 1
      rcases Nat.lt_or_ge i 20 with h | h
      · rw [List.take_of_length_le (by omega), List.take_of_length_le (by omega)]
      · rw [show i = 20 by omega]
    rw [e] at h3 hg
    by_cases hlt1 : (i : Int) < L.length
    · have hlt2 : ¬ (i : Int) < 20 := by omega
      simp (disch := first | assumption | omega | (simp only [List.length_append]; omega)) only [go_sem, reduceCtorEq, Nat.reduceEqDiff, Nat.reduceAdd, Nat.reduceSub, Nat.reduceMul, Nat.reduceLeDiff, Int.reduceLT, Int.reduceLE, Int.reduceEq, ↓reduceIte, Int.reduceNeg, Int.reduceAdd, Int.reduceSub, Int.reduceMul, true_imp_iff, forall_const, Nat.mul_one, Int.reduceToNat, Nat.reducePow, Int.reducePow, Bool.true_and, Bool.false_and, Bool.and_false, hf, h3, hlt1, hlt2, ←hF]
      exact fin _ k σ1 (by simp (disch := first | assumption | omega | (simp only [List.length_append]; omega)) only [go_sem, reduceCtorEq, Nat.reduceEqDiff, Nat.reduceAdd, Nat.reduceSub, Nat.reduceMul, Nat.reduceLeDiff, Int.reduceLT, Int.reduceLE, Int.reduceEq, ↓reduceIte, Int.reduceNeg, Int.reduceAdd, Int.reduceSub, Int.reduceMul, true_imp_iff, forall_const, Nat.mul_one, Int.reduceToNat, Nat.reducePow, Int.reducePow, Bool.true_and, Bool.false_and, Bool.and_false, h3]) hg
    · simp (disch := first | assumption | omega | (simp only [List.length_append]; omega)) only [go_sem, reduceCtorEq, Nat.reduceEqDiff, Nat.reduceAdd, Nat.reduceSub, Nat.reduceMul, Nat.reduceLeDiff, Int.reduceLT, Int.reduceLE, Int.reduceEq, ↓reduceIte, Int.reduceNeg, Int.reduceAdd, Int.reduceSub, Int.reduceMul, true_imp_iff, forall_const, Nat.mul_one, Int.reduceToNat, Nat.reducePow, Int.reducePow, Bool.true_and, Bool.false_and, Bool.and_false, hf, h3, hlt1, ←hF]
      exact fin _ k σ1 (by simp (disch := first | assumption | omega | (simp only [List.length_append]; omega)) only [go_sem, reduceCtorEq, Nat.reduceEqDiff, Nat.reduceAdd, Nat.reduceSub, Nat.reduceMul, Nat.reduceLeDiff, Int.reduceLT, Int.reduceLE, Int.reduceEq, ↓reduceIte, Int.reduceNeg, Int.reduceAdd, Int.reduceSub, Int.reduceMul, true_imp_iff, forall_const, Nat.mul_one, Int.reduceToNat, Nat.reducePow, Int.reducePow, Bool.true_and, Bool.false_and, Bool.and_false, h3]) hg
end Go.A
