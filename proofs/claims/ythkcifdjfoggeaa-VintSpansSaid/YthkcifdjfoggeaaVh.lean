/- The document's bytes; the statements' helpers: walked. -/
import Derived.Test.YthkcifdjfoggeaaVg
namespace Go.A
open Go.Proofs Go.Vint
set_option maxRecDepth 100000
set_option linter.unusedSimpArgs false
set_option linter.unusedVariables false

theorem refUint_ok : ∀ (n : Nat) (u : Int), u.toNat = n → 0 ≤ u → u ≤ 18446744073709551615 → Pure Try.prog 30 [.int .u64 u] (.str (uintB u.toNat)) := by
  intro n
  induction n using Nat.strongRecOn with
  | _ n ih =>
    intro u hn h0 h1 σ
    refine a30 (by simp) ?_
    by_cases h : u < 128
    · have hw : IntKind.wrap .u8 u = u := by rw [wrap8]; omega
      simp (disch := first | assumption | omega | (simp only [List.length_append]; omega)) only [go_sem, reduceCtorEq, Nat.reduceEqDiff, Nat.reduceAdd, Nat.reduceSub, Nat.reduceMul, Nat.reduceLeDiff, Int.reduceLT, Int.reduceLE, Int.reduceEq, ↓reduceIte, Int.reduceNeg, Int.reduceAdd, Int.reduceSub, Int.reduceMul, true_imp_iff, forall_const, Nat.mul_one, Int.reduceToNat, Nat.reducePow, Int.reducePow, Bool.true_and, Bool.false_and, Bool.and_false, h, hw]
      exact retC_by (Drop.refl _) (.refl _) ⟨by rw [uintB_i h0 h]; rfl, rfl⟩
    · have hw : u.tmod 128 = u % 128 := by rw [Int.tmod_eq_emod_of_nonneg h0]
      have hd : u.tdiv 128 = u / 128 := by rw [Int.tdiv_eq_ediv_of_nonneg h0]
      have hlen : 1 + (uintB (u / 128).toNat).length ≤ 9223372036854775807 := by have := uintB_le (u := u / 128) (by omega); omega
      simp (disch := first | assumption | omega | (simp only [List.length_append]; omega)) only [go_sem, reduceCtorEq, Nat.reduceEqDiff, Nat.reduceAdd, Nat.reduceSub, Nat.reduceMul, Nat.reduceLeDiff, Int.reduceLT, Int.reduceLE, Int.reduceEq, ↓reduceIte, Int.reduceNeg, Int.reduceAdd, Int.reduceSub, Int.reduceMul, true_imp_iff, forall_const, Nat.mul_one, Int.reduceToNat, Nat.reducePow, Int.reducePow, Bool.true_and, Bool.false_and, Bool.and_false, h, hw, hd]
      refine (ih (u / 128).toNat (by omega) (u / 128) rfl (by omega) (by omega)).use ?_
      simp (disch := first | assumption | omega | (simp only [List.length_append]; omega)) only [go_sem, reduceCtorEq, Nat.reduceEqDiff, Nat.reduceAdd, Nat.reduceSub, Nat.reduceMul, Nat.reduceLeDiff, Int.reduceLT, Int.reduceLE, Int.reduceEq, ↓reduceIte, Int.reduceNeg, Int.reduceAdd, Int.reduceSub, Int.reduceMul, true_imp_iff, forall_const, Nat.mul_one, Int.reduceToNat, Nat.reducePow, Int.reducePow, Bool.true_and, Bool.false_and, Bool.and_false, hlen]
      refine retC_by (Drop.refl _) (.refl _) ⟨?_, rfl⟩
      rw [uintB_j (u := u) (by omega)]
      rfl
theorem refUint_ok' (u : Int) (h0 : 0 ≤ u) (h1 : u ≤ 18446744073709551615) : Pure Try.prog 30 [.int .u64 u] (.str (uintB u.toNat)) := refUint_ok _ u rfl h0 h1

theorem refFold_ok (n : Int) (h1 : -9223372036854775808 ≤ n) (h2 : n ≤ 9223372036854775807) : Pure Try.prog 42 [.int .i64 n] (.int .u64 (foldI n)) := by
  intro σ
  refine a42 (by simp) ?_
  unfold foldI
  by_cases h : n < 0
  · have e : 0 - (n + 1) = -(n + 1) := by omega
    rw [if_pos h]
    simp (disch := first | assumption | omega | (simp only [List.length_append]; omega)) only [go_sem, reduceCtorEq, Nat.reduceEqDiff, Nat.reduceAdd, Nat.reduceSub, Nat.reduceMul, Nat.reduceLeDiff, Int.reduceLT, Int.reduceLE, Int.reduceEq, ↓reduceIte, Int.reduceNeg, Int.reduceAdd, Int.reduceSub, Int.reduceMul, true_imp_iff, forall_const, Nat.mul_one, Int.reduceToNat, Nat.reducePow, Int.reducePow, Bool.true_and, Bool.false_and, Bool.and_false, h, e]
    exact retC_by (Drop.refl _) (.refl _) ⟨rfl, rfl⟩
  · rw [if_neg h]
    simp (disch := first | assumption | omega | (simp only [List.length_append]; omega)) only [go_sem, reduceCtorEq, Nat.reduceEqDiff, Nat.reduceAdd, Nat.reduceSub, Nat.reduceMul, Nat.reduceLeDiff, Int.reduceLT, Int.reduceLE, Int.reduceEq, ↓reduceIte, Int.reduceNeg, Int.reduceAdd, Int.reduceSub, Int.reduceMul, true_imp_iff, forall_const, Nat.mul_one, Int.reduceToNat, Nat.reducePow, Int.reducePow, Bool.true_and, Bool.false_and, Bool.and_false, h]
    exact retC_by (Drop.refl _) (.refl _) ⟨rfl, rfl⟩
theorem refText_ok (s : List UInt8) (hs : s.length ≤ 1000000) : Pure Try.prog 44 [.str s] (.str (textB s)) := by
  intro σ
  refine a44 (by simp) ?_
  have hu := uintB_le (u := s.length) (by omega)
  have hlen : (uintB s.length).length + s.length ≤ 9223372036854775807 := by rw [Int.toNat_natCast] at hu; omega
  simp (disch := first | assumption | omega | (simp only [List.length_append]; omega)) only [go_sem, reduceCtorEq, Nat.reduceEqDiff, Nat.reduceAdd, Nat.reduceSub, Nat.reduceMul, Nat.reduceLeDiff, Int.reduceLT, Int.reduceLE, Int.reduceEq, ↓reduceIte, Int.reduceNeg, Int.reduceAdd, Int.reduceSub, Int.reduceMul, true_imp_iff, forall_const, Nat.mul_one, Int.reduceToNat, Nat.reducePow, Int.reducePow, Bool.true_and, Bool.false_and, Bool.and_false]
  refine (refUint_ok' s.length (by omega) (by omega)).use ?_
  simp (disch := first | assumption | omega | (simp only [List.length_append]; omega)) only [go_sem, reduceCtorEq, Nat.reduceEqDiff, Nat.reduceAdd, Nat.reduceSub, Nat.reduceMul, Nat.reduceLeDiff, Int.reduceLT, Int.reduceLE, Int.reduceEq, ↓reduceIte, Int.reduceNeg, Int.reduceAdd, Int.reduceSub, Int.reduceMul, true_imp_iff, forall_const, Nat.mul_one, Int.reduceToNat, Nat.reducePow, Int.reducePow, Bool.true_and, Bool.false_and, Bool.and_false, hlen]
  exact retC_by (Drop.refl _) (.refl _) ⟨rfl, rfl⟩

theorem refRising_ok (L : List Int) (hL : Rises L) (hn : L.length ≤ 1000) : Pure Try.prog 32 [u64sAV L] (.str (risingB L)) := by
  intro σ
  refine a32 (by simp) ?_
  have hu := uintB_le (u := L.length) (by omega)
  rw [Int.toNat_natCast] at hu
  have hgl := gaps_length L
  have hgb := gaps_bd hL
  simp (disch := first | assumption | omega | (simp only [List.length_append]; omega)) only [go_sem, reduceCtorEq, Nat.reduceEqDiff, Nat.reduceAdd, Nat.reduceSub, Nat.reduceMul, Nat.reduceLeDiff, Int.reduceLT, Int.reduceLE, Int.reduceEq, ↓reduceIte, Int.reduceNeg, Int.reduceAdd, Int.reduceSub, Int.reduceMul, true_imp_iff, forall_const, Nat.mul_one, Int.reduceToNat, Nat.reducePow, Int.reducePow, Bool.true_and, Bool.false_and, Bool.and_false, u64sAV]
  refine (refUint_ok' L.length (by omega) (by omega)).use ?_
  simp (disch := first | assumption | omega | (simp only [List.length_append]; omega)) only [go_sem, reduceCtorEq, Nat.reduceEqDiff, Nat.reduceAdd, Nat.reduceSub, Nat.reduceMul, Nat.reduceLeDiff, Int.reduceLT, Int.reduceLE, Int.reduceEq, ↓reduceIte, Int.reduceNeg, Int.reduceAdd, Int.reduceSub, Int.reduceMul, true_imp_iff, forall_const, Nat.mul_one, Int.reduceToNat, Nat.reducePow, Int.reducePow, Bool.true_and, Bool.false_and, Bool.and_false]
  have hnl : ∀ i, (numsB ((gaps L).take i)).length ≤ 10 * L.length := fun i => by
    have := numsB_len ((gaps L).take i) (fun x hx => hgb x (List.mem_of_mem_take hx))
    simp only [List.length_take] at this
    omega
  refine wp_loop_on (fun (i : Nat) a σ' => i ≤ L.length ∧ (a 0 = .sl .shr (L.map (AV.int .u64)) ∧ a 3 = .str (uintB L.length ++ numsB ((gaps L).take i)) ∧ a 10 = .sl .shr (L.map (AV.int .u64)) ∧ a 11 = .int .i64 L.length ∧ a 12 = .int .i64 i) ∧ σ' = σ)
    (fun i => L.length - i) 0 ⟨Nat.zero_le _, ?_, rfl⟩ ?_
  · simp (disch := first | assumption | omega | (simp only [List.length_append]; omega)) only [go_sem, reduceCtorEq, Nat.reduceEqDiff, Nat.reduceAdd, Nat.reduceSub, Nat.reduceMul, Nat.reduceLeDiff, Int.reduceLT, Int.reduceLE, Int.reduceEq, ↓reduceIte, Int.reduceNeg, Int.reduceAdd, Int.reduceSub, Int.reduceMul, true_imp_iff, forall_const, Nat.mul_one, Int.reduceToNat, Nat.reducePow, Int.reducePow, Bool.true_and, Bool.false_and, Bool.and_false]
    simp [numsB]
  rintro i a σ1 ⟨hi, hf, rfl⟩
  have hni := hnl i
  by_cases hlt : i < L.length
  · have hlt' : (i : Int) < L.length := by omega
    have hidx : L[i]? = some (L[i]'hlt) := List.getElem?_eq_getElem hlt
    obtain ⟨x, hx⟩ : ∃ x, L[i]'hlt = x := ⟨_, rfl⟩
    rw [hx] at hidx
    obtain ⟨x0, x1⟩ := hL.at_ hidx
    have hbx := uintB_le x1
    have hmap : (L.map (AV.int .u64))[i]? = some (.int .u64 x) := by rw [List.getElem?_map, hidx]; rfl
    by_cases hi0 : i = 0
    · have hz : ¬ (0 : Int) < i := by omega
      have hlen : (uintB L.length ++ numsB ((gaps L).take i)).length + (uintB x.toNat).length ≤ 9223372036854775807 := by simp only [List.length_append]; omega
      simp (disch := first | assumption | omega | (simp only [List.length_append]; omega)) only [go_sem, reduceCtorEq, Nat.reduceEqDiff, Nat.reduceAdd, Nat.reduceSub, Nat.reduceMul, Nat.reduceLeDiff, Int.reduceLT, Int.reduceLE, Int.reduceEq, ↓reduceIte, Int.reduceNeg, Int.reduceAdd, Int.reduceSub, Int.reduceMul, true_imp_iff, forall_const, Nat.mul_one, Int.reduceToNat, Nat.reducePow, Int.reducePow, Bool.true_and, Bool.false_and, Bool.and_false, hf, hlt', hmap, hz]
      refine (refUint_ok' x x0 x1).use ?_
      simp (disch := first | assumption | omega | (simp only [List.length_append]; omega)) only [go_sem, reduceCtorEq, Nat.reduceEqDiff, Nat.reduceAdd, Nat.reduceSub, Nat.reduceMul, Nat.reduceLeDiff, Int.reduceLT, Int.reduceLE, Int.reduceEq, ↓reduceIte, Int.reduceNeg, Int.reduceAdd, Int.reduceSub, Int.reduceMul, true_imp_iff, forall_const, Nat.mul_one, Int.reduceToNat, Nat.reducePow, Int.reducePow, Bool.true_and, Bool.false_and, Bool.and_false, hf, hlen]
      have hsn := numsB_snoc (gaps_zero (hi0 ▸ hidx))
      rw [show (0 : Nat) + 1 = i + 1 by omega, ← hi0] at hsn
      refine ⟨i + 1, by omega, by omega, ?_, rfl⟩
      rw [hsn, ← List.append_assoc]
    · obtain ⟨j, hji⟩ : ∃ j, i = j + 1 := ⟨i - 1, by omega⟩
      have hj : L[j]? = some (L[j]'(by omega)) := List.getElem?_eq_getElem (by omega)
      obtain ⟨y, hy⟩ : ∃ y, L[j]'(by omega) = y := ⟨_, rfl⟩
      rw [hy] at hj
      obtain ⟨y0, y1⟩ := hL.at_ hj
      have hxy := hL.2 j y x hj (hji ▸ hidx)
      have hbx' := uintB_le (u := x - y - 1) (by omega)
      have hmapj : (L.map (AV.int .u64))[j]? = some (.int .u64 y) := by rw [List.getElem?_map, hj]; rfl
      have hnz : (0 : Int) < i := by omega
      have hsub : (i : Int) - 1 = j := by omega
      have hlen : (uintB L.length ++ numsB ((gaps L).take i)).length + (uintB (x - y - 1).toNat).length ≤ 9223372036854775807 := by simp only [List.length_append]; omega
      simp (disch := first | assumption | omega | (simp only [List.length_append]; omega)) only [go_sem, reduceCtorEq, Nat.reduceEqDiff, Nat.reduceAdd, Nat.reduceSub, Nat.reduceMul, Nat.reduceLeDiff, Int.reduceLT, Int.reduceLE, Int.reduceEq, ↓reduceIte, Int.reduceNeg, Int.reduceAdd, Int.reduceSub, Int.reduceMul, true_imp_iff, forall_const, Nat.mul_one, Int.reduceToNat, Nat.reducePow, Int.reducePow, Bool.true_and, Bool.false_and, Bool.and_false, hf, hlt', hmap, hnz, hsub, hmapj]
      refine (refUint_ok' (x - y - 1) (by omega) (by omega)).use ?_
      simp (disch := first | assumption | omega | (simp only [List.length_append]; omega)) only [go_sem, reduceCtorEq, Nat.reduceEqDiff, Nat.reduceAdd, Nat.reduceSub, Nat.reduceMul, Nat.reduceLeDiff, Int.reduceLT, Int.reduceLE, Int.reduceEq, ↓reduceIte, Int.reduceNeg, Int.reduceAdd, Int.reduceSub, Int.reduceMul, true_imp_iff, forall_const, Nat.mul_one, Int.reduceToNat, Nat.reducePow, Int.reducePow, Bool.true_and, Bool.false_and, Bool.and_false, hf, hlen]
      have hsn := numsB_snoc (gaps_succ hj (hji ▸ hidx))
      rw [← hji] at hsn
      refine ⟨i + 1, by omega, by omega, ?_, rfl⟩
      rw [hsn, ← List.append_assoc]
  · have hlt' : ¬ (i : Int) < L.length := by omega
    have e : (gaps L).take i = gaps L := List.take_of_length_le (by omega)
    rw [e] at hf
    simp (disch := first | assumption | omega | (simp only [List.length_append]; omega)) only [go_sem, reduceCtorEq, Nat.reduceEqDiff, Nat.reduceAdd, Nat.reduceSub, Nat.reduceMul, Nat.reduceLeDiff, Int.reduceLT, Int.reduceLE, Int.reduceEq, ↓reduceIte, Int.reduceNeg, Int.reduceAdd, Int.reduceSub, Int.reduceMul, true_imp_iff, forall_const, Nat.mul_one, Int.reduceToNat, Nat.reducePow, Int.reducePow, Bool.true_and, Bool.false_and, Bool.and_false, hf, hlt']
    exact retC_by (Drop.refl _) (.refl _) ⟨rfl, rfl⟩
end Go.A
