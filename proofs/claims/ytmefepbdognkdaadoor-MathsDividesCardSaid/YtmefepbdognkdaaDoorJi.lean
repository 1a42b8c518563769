/- MathsDivides, MathsFails. -/
import Derived.Test.YtmefepbdognkdaaDoorJf
import Derived.Test.YtmefepbdognkdaaDoorCodeJi
namespace Go.A
open Go.Proofs
set_option maxRecDepth 100000
set_option linter.unusedSimpArgs false
set_option linter.unusedVariables false

theorem many_gcd {m n : Nat} (hm : 1 ≤ m) (hn : 1 ≤ n) (hm2 : m ≤ 1000000) (hn2 : n ≤ 1000000) : manyP true [(m : Int) * 10000, (n : Int) * 10000] = .num ((Nat.gcd m n : Nat) * 10000) := by
  have hG := Nat.gcd_le_left n (show 0 < m by omega)
  unfold manyP manyS
  rw [if_neg (by omega), if_pos (by omega)]
  unfold manyS
  rw [Int.mul_tdiv_cancel _ (by omega), Int.mul_tdiv_cancel _ (by omega), if_neg (by omega), if_neg (by omega), if_pos rfl]
  unfold manyS
  rw [Int.toNat_natCast, Int.toNat_natCast]
  dsimp only
  unfold intP
  rw [if_pos (by omega)]
  rfl
theorem many_lcm {m n g q : Nat} (hm : 1 ≤ m) (hn : 1 ≤ n) (hm2 : m ≤ 1000000) (hn2 : n ≤ 1000000) (hg : Nat.gcd m n = g) (hg0 : 0 < g) (hq : m = q * g) : manyP false [(m : Int) * 10000, (n : Int) * 10000] = .num ((q * n : Nat) * 10000) := by
  have hqm : q ≤ m := by rw [hq]; exact Nat.le_mul_of_pos_right _ hg0
  have hle : q * n ≤ 1000000 * 1000000 := Nat.mul_le_mul (by omega) hn2
  unfold manyP manyS
  rw [if_neg (by omega), if_pos (by omega)]
  unfold manyS
  rw [Int.mul_tdiv_cancel _ (by omega), Int.mul_tdiv_cancel _ (by omega), if_neg (by omega), if_neg (by omega), if_neg (by simp), if_neg (by omega)]
  rw [Int.toNat_natCast, Int.toNat_natCast, hg]
  have e1 : (m : Int) / ((g : Nat) : Int) = q := by
    rw [hq, Int.natCast_mul, Int.mul_ediv_cancel _ (by omega)]
  rw [e1]
  have e2 : mulD ((q : Int) * 10000) ((n : Int) * 10000) = some (((q * n : Nat) : Int) * 10000) := by
    unfold mulD quoD
    have a1 : ((q : Int) * 10000).natAbs = q * 10000 := by omega
    have a2 : ((n : Int) * 10000).natAbs = n * 10000 := by omega
    have a3 : q * 10000 * (n * 10000) = q * n * 100000000 := by
      rw [Nat.mul_mul_mul_comm]
    rw [a1, a2, a3]
    have a4 : (!(decide ((q : Int) * 10000 < 0) == decide ((n : Int) * 10000 < 0))) = false := by
      rw [decide_eq_false (by omega), decide_eq_false (by omega)]; rfl
    rw [a4]
    generalize q * n = x at *
    have a5 : quoW (x * 100000000) 10000 = x * 10000 := by
      unfold quoW
      rw [if_neg (by omega)]
      omega
    rw [a5, if_pos ⟨by omega, by omega⟩, if_neg (by simp)]
    congr 1
  rw [e2, Option.bind_some, Int.mul_tdiv_cancel _ (by omega)]
  unfold manyS
  dsimp only
  unfold intP
  rw [if_pos (by omega)]
  rfl
set_option maxHeartbeats 1000000 in
theorem MathsDivides_any {σ : ASt} (hU : U8 σ) (hT : Tens σ) (m n : Int) : ACalls Tryd.prog 4 [.int .i64 m, .int .i64 n] σ fun v σ' => v = .bool true ∧ σ' = σ := by
  have hA := mawake_ok hU hT
  refine a4 (by simp) ?_
  by_cases h1 : m < 1
  · simp (disch := first | assumption | omega | (simp only [List.length_append, List.length_cons, List.length_nil]; omega)) only [go_sem, reduceCtorEq, Nat.reduceEqDiff, Nat.reduceAdd, Nat.reduceSub, Nat.reduceMul, Nat.reduceLeDiff, Int.reduceLT, Int.reduceLE, Int.reduceEq, ↓reduceIte, Int.reduceNeg, Int.reduceAdd, Int.reduceSub, Int.reduceMul, true_imp_iff, forall_const, Nat.mul_one, Int.reduceToNat, Nat.reducePow, Int.reducePow, Bool.true_and, Bool.false_and, Bool.and_false, h1]
    refine hA.mono ?_
    rintro v σ' ⟨rfl, rfl⟩
    simp (disch := first | assumption | omega | (simp only [List.length_append, List.length_cons, List.length_nil]; omega)) only [go_sem, reduceCtorEq, Nat.reduceEqDiff, Nat.reduceAdd, Nat.reduceSub, Nat.reduceMul, Nat.reduceLeDiff, Int.reduceLT, Int.reduceLE, Int.reduceEq, ↓reduceIte, Int.reduceNeg, Int.reduceAdd, Int.reduceSub, Int.reduceMul, true_imp_iff, forall_const, Nat.mul_one, Int.reduceToNat, Nat.reducePow, Int.reducePow, Bool.true_and, Bool.false_and, Bool.and_false]
    exact retC_by (by repeat' (first | exact Drop.refl _ | with_reducible refine Drop.off ?_ (by assumption))) (.refl _) ⟨rfl, rfl⟩
  by_cases h2 : n < 1
  · simp (disch := first | assumption | omega | (simp only [List.length_append, List.length_cons, List.length_nil]; omega)) only [go_sem, reduceCtorEq, Nat.reduceEqDiff, Nat.reduceAdd, Nat.reduceSub, Nat.reduceMul, Nat.reduceLeDiff, Int.reduceLT, Int.reduceLE, Int.reduceEq, ↓reduceIte, Int.reduceNeg, Int.reduceAdd, Int.reduceSub, Int.reduceMul, true_imp_iff, forall_const, Nat.mul_one, Int.reduceToNat, Nat.reducePow, Int.reducePow, Bool.true_and, Bool.false_and, Bool.and_false, h1, h2]
    refine hA.mono ?_
    rintro v σ' ⟨rfl, rfl⟩
    simp (disch := first | assumption | omega | (simp only [List.length_append, List.length_cons, List.length_nil]; omega)) only [go_sem, reduceCtorEq, Nat.reduceEqDiff, Nat.reduceAdd, Nat.reduceSub, Nat.reduceMul, Nat.reduceLeDiff, Int.reduceLT, Int.reduceLE, Int.reduceEq, ↓reduceIte, Int.reduceNeg, Int.reduceAdd, Int.reduceSub, Int.reduceMul, true_imp_iff, forall_const, Nat.mul_one, Int.reduceToNat, Nat.reducePow, Int.reducePow, Bool.true_and, Bool.false_and, Bool.and_false]
    exact retC_by (by repeat' (first | exact Drop.refl _ | with_reducible refine Drop.off ?_ (by assumption))) (.refl _) ⟨rfl, rfl⟩
  by_cases h3 : 1000000 < m
  · simp (disch := first | assumption | omega | (simp only [List.length_append, List.length_cons, List.length_nil]; omega)) only [go_sem, reduceCtorEq, Nat.reduceEqDiff, Nat.reduceAdd, Nat.reduceSub, Nat.reduceMul, Nat.reduceLeDiff, Int.reduceLT, Int.reduceLE, Int.reduceEq, ↓reduceIte, Int.reduceNeg, Int.reduceAdd, Int.reduceSub, Int.reduceMul, true_imp_iff, forall_const, Nat.mul_one, Int.reduceToNat, Nat.reducePow, Int.reducePow, Bool.true_and, Bool.false_and, Bool.and_false, h1, h2, h3]
    refine hA.mono ?_
    rintro v σ' ⟨rfl, rfl⟩
    simp (disch := first | assumption | omega | (simp only [List.length_append, List.length_cons, List.length_nil]; omega)) only [go_sem, reduceCtorEq, Nat.reduceEqDiff, Nat.reduceAdd, Nat.reduceSub, Nat.reduceMul, Nat.reduceLeDiff, Int.reduceLT, Int.reduceLE, Int.reduceEq, ↓reduceIte, Int.reduceNeg, Int.reduceAdd, Int.reduceSub, Int.reduceMul, true_imp_iff, forall_const, Nat.mul_one, Int.reduceToNat, Nat.reducePow, Int.reducePow, Bool.true_and, Bool.false_and, Bool.and_false]
    exact retC_by (by repeat' (first | exact Drop.refl _ | with_reducible refine Drop.off ?_ (by assumption))) (.refl _) ⟨rfl, rfl⟩
  by_cases h4 : 1000000 < n
  · simp (disch := first | assumption | omega | (simp only [List.length_append, List.length_cons, List.length_nil]; omega)) only [go_sem, reduceCtorEq, Nat.reduceEqDiff, Nat.reduceAdd, Nat.reduceSub, Nat.reduceMul, Nat.reduceLeDiff, Int.reduceLT, Int.reduceLE, Int.reduceEq, ↓reduceIte, Int.reduceNeg, Int.reduceAdd, Int.reduceSub, Int.reduceMul, true_imp_iff, forall_const, Nat.mul_one, Int.reduceToNat, Nat.reducePow, Int.reducePow, Bool.true_and, Bool.false_and, Bool.and_false, h1, h2, h3, h4]
    refine hA.mono ?_
    rintro v σ' ⟨rfl, rfl⟩
    simp (disch := first | assumption | omega | (simp only [List.length_append, List.length_cons, List.length_nil]; omega)) only [go_sem, reduceCtorEq, Nat.reduceEqDiff, Nat.reduceAdd, Nat.reduceSub, Nat.reduceMul, Nat.reduceLeDiff, Int.reduceLT, Int.reduceLE, Int.reduceEq, ↓reduceIte, Int.reduceNeg, Int.reduceAdd, Int.reduceSub, Int.reduceMul, true_imp_iff, forall_const, Nat.mul_one, Int.reduceToNat, Nat.reducePow, Int.reducePow, Bool.true_and, Bool.false_and, Bool.and_false]
    exact retC_by (by repeat' (first | exact Drop.refl _ | with_reducible refine Drop.off ?_ (by assumption))) (.refl _) ⟨rfl, rfl⟩
  obtain ⟨M, rfl⟩ : ∃ M : Nat, m = M := ⟨m.toNat, by omega⟩
  obtain ⟨N, rfl⟩ : ∃ N : Nat, n = N := ⟨n.toNat, by omega⟩
  obtain ⟨G, hG⟩ : ∃ G, Nat.gcd M N = G := ⟨_, rfl⟩
  have hGp : 0 < G := by rw [← hG]; exact Nat.gcd_pos_of_pos_left _ (by omega)
  have hGl : G ≤ M := by rw [← hG]; exact Nat.gcd_le_left _ (by omega)
  obtain ⟨q, hq⟩ : G ∣ M := by rw [← hG]; exact Nat.gcd_dvd_left _ _
  obtain ⟨k, hk⟩ : G ∣ N := by rw [← hG]; exact Nat.gcd_dvd_right _ _
  have m1 := many_gcd (m := M) (n := N) (by omega) (by omega) (by omega) (by omega)
  have m2 := many_lcm (m := M) (n := N) (q := q) (by omega) (by omega) (by omega) (by omega) hG hGp (by rw [hq, Nat.mul_comm])
  rw [hG] at m1
  have hbnd : ∀ x ∈ [(M : Int) * 10000, (N : Int) * 10000], x.natAbs ≤ 999999999999999999 := by
    intro x hx
    simp only [List.mem_cons, List.not_mem_nil, or_false] at hx
    rcases hx with rfl | rfl <;> omega
  have hsm := small_nums [(M : Int) * 10000, (N : Int) * 10000]
  have hA2 := nums_nums [(M : Int) * 10000, (N : Int) * 10000] []
  rw [List.nil_append] at hA2
  have hD := one_ok (σ := σ) sGCD [(M : Int) * 10000, (N : Int) * 10000] _ (by simp) (fun σ' _ => call_gcd _ _ hsm hA2 (by simp) (by simp) (by simp) (by simp) hbnd σ')
  have hL := one_ok (σ := σ) sLCM [(M : Int) * 10000, (N : Int) * 10000] _ (by simp) (fun σ' _ => call_lcm _ _ hsm hA2 (by simp) (by simp) (by simp) (by simp) hbnd σ')
  rw [show decide (sGCD = [71, 67, 68]) = true by decide, m1] at hD
  rw [show decide (sLCM = [71, 67, 68]) = false by decide, m2] at hL
  have hqM : q ≤ M := by rw [hq]; exact Nat.le_mul_of_pos_left _ hGp
  have hle : q * N ≤ 1000000 * 1000000 := Nat.mul_le_mul (by omega) (by omega)
  have r1 : (M : Int).tmod G = 0 := by
    show ((M % G : Nat) : Int) = 0
    rw [hq, Nat.mul_mod_right]; rfl
  have r2 : (N : Int).tmod G = 0 := by
    show ((N % G : Nat) : Int) = 0
    rw [hk, Nat.mul_mod_right]; rfl
  have r3 : ((q * N : Nat) : Int).tmod M = 0 := by
    show ((q * N % M : Nat) : Int) = 0
    have : q * N = M * k := by rw [hk, hq, ← Nat.mul_assoc, Nat.mul_comm q G]
    rw [this, Nat.mul_mod_right]; rfl
  have r4 : ((q * N : Nat) : Int).tmod N = 0 := by
    show ((q * N % N : Nat) : Int) = 0
    rw [Nat.mul_mod_left]; rfl
  have r5 : (M : Int).tdiv G = q := by
    show ((M / G : Nat) : Int) = q
    rw [hq, Nat.mul_div_cancel_left _ hGp]
  have r6 : (q : Int) * N = ((q * N : Nat) : Int) := by rw [Int.natCast_mul]
  have hq1 : 1 ≤ q := Nat.pos_of_ne_zero (by rintro rfl; rw [Nat.mul_zero] at hq; omega)
  have hqN1 : 1 ≤ q * N := Nat.mul_pos hq1 (by omega)
  obtain ⟨L, hLe⟩ : ∃ L, q * N = L := ⟨_, rfl⟩
  rw [hLe] at hL r3 r4 r6 hle hqN1
  simp only [sGCD, sLCM, List.map_cons, List.map_nil, givenP] at hD hL
  have w1 := whole_ok (a := (G : Int) * 10000) (by omega)
  have w2 := whole_ok (a := (L : Int) * 10000) (by omega)
  have i1 := isInt_ok ((G : Int) * 10000)
  have i2 := isInt_ok ((L : Int) * 10000)
  rw [Int.mul_tdiv_cancel _ (by omega)] at w1 w2
  rw [Int.mul_tmod_left, decide_eq_true rfl] at i1 i2
  have gG : ¬ (G : Int) < 1 := by omega
  have gL : ¬ (L : Int) < 1 := by omega
  have nG : (G : Int) ≠ 0 := by omega
  have nM : (M : Int) ≠ 0 := by omega
  have nN : (N : Int) ≠ 0 := by omega
  have eq1 : IntKind.i64.wrap (q : Int) = q := by rw [IntKind.wrap_i64]; omega
  have eL1 : IntKind.i64.wrap (L : Int) = L := by rw [IntKind.wrap_i64]; omega
  simp (disch := first | assumption | omega | (simp only [List.length_append, List.length_cons, List.length_nil]; omega)) only [go_sem, reduceCtorEq, Nat.reduceEqDiff, Nat.reduceAdd, Nat.reduceSub, Nat.reduceMul, Nat.reduceLeDiff, Int.reduceLT, Int.reduceLE, Int.reduceEq, ↓reduceIte, Int.reduceNeg, Int.reduceAdd, Int.reduceSub, Int.reduceMul, true_imp_iff, forall_const, Nat.mul_one, Int.reduceToNat, Nat.reducePow, Int.reducePow, Bool.true_and, Bool.false_and, Bool.and_false, h1, h2, h3, h4]
  refine hD.mono ?_
  rintro v σ' ⟨rfl, rfl⟩
  simp (disch := first | assumption | omega | (simp only [List.length_append, List.length_cons, List.length_nil]; omega)) only [go_sem, reduceCtorEq, Nat.reduceEqDiff, Nat.reduceAdd, Nat.reduceSub, Nat.reduceMul, Nat.reduceLeDiff, Int.reduceLT, Int.reduceLE, Int.reduceEq, ↓reduceIte, Int.reduceNeg, Int.reduceAdd, Int.reduceSub, Int.reduceMul, true_imp_iff, forall_const, Nat.mul_one, Int.reduceToNat, Nat.reducePow, Int.reducePow, Bool.true_and, Bool.false_and, Bool.and_false]
  refine hL.mono ?_
  rintro v σ' ⟨rfl, rfl⟩
  simp (disch := first | assumption | omega | (simp only [List.length_append, List.length_cons, List.length_nil]; omega)) only [go_sem, reduceCtorEq, Nat.reduceEqDiff, Nat.reduceAdd, Nat.reduceSub, Nat.reduceMul, Nat.reduceLeDiff, Int.reduceLT, Int.reduceLE, Int.reduceEq, ↓reduceIte, Int.reduceNeg, Int.reduceAdd, Int.reduceSub, Int.reduceMul, true_imp_iff, forall_const, Nat.mul_one, Int.reduceToNat, Nat.reducePow, Int.reducePow, Bool.true_and, Bool.false_and, Bool.and_false]
  refine i1.use ?_
  simp (disch := first | assumption | omega | (simp only [List.length_append, List.length_cons, List.length_nil]; omega)) only [go_sem, reduceCtorEq, Nat.reduceEqDiff, Nat.reduceAdd, Nat.reduceSub, Nat.reduceMul, Nat.reduceLeDiff, Int.reduceLT, Int.reduceLE, Int.reduceEq, ↓reduceIte, Int.reduceNeg, Int.reduceAdd, Int.reduceSub, Int.reduceMul, true_imp_iff, forall_const, Nat.mul_one, Int.reduceToNat, Nat.reducePow, Int.reducePow, Bool.true_and, Bool.false_and, Bool.and_false]
  refine i2.use ?_
  simp (disch := first | assumption | omega | (simp only [List.length_append, List.length_cons, List.length_nil]; omega)) only [go_sem, reduceCtorEq, Nat.reduceEqDiff, Nat.reduceAdd, Nat.reduceSub, Nat.reduceMul, Nat.reduceLeDiff, Int.reduceLT, Int.reduceLE, Int.reduceEq, ↓reduceIte, Int.reduceNeg, Int.reduceAdd, Int.reduceSub, Int.reduceMul, true_imp_iff, forall_const, Nat.mul_one, Int.reduceToNat, Nat.reducePow, Int.reducePow, Bool.true_and, Bool.false_and, Bool.and_false]
  refine w1.use ?_
  simp (disch := first | assumption | omega | (simp only [List.length_append, List.length_cons, List.length_nil]; omega)) only [go_sem, reduceCtorEq, Nat.reduceEqDiff, Nat.reduceAdd, Nat.reduceSub, Nat.reduceMul, Nat.reduceLeDiff, Int.reduceLT, Int.reduceLE, Int.reduceEq, ↓reduceIte, Int.reduceNeg, Int.reduceAdd, Int.reduceSub, Int.reduceMul, true_imp_iff, forall_const, Nat.mul_one, Int.reduceToNat, Nat.reducePow, Int.reducePow, Bool.true_and, Bool.false_and, Bool.and_false, gG]
  refine w2.use ?_
  simp (disch := first | assumption | omega | (simp only [List.length_append, List.length_cons, List.length_nil]; omega)) only [go_sem, reduceCtorEq, Nat.reduceEqDiff, Nat.reduceAdd, Nat.reduceSub, Nat.reduceMul, Nat.reduceLeDiff, Int.reduceLT, Int.reduceLE, Int.reduceEq, ↓reduceIte, Int.reduceNeg, Int.reduceAdd, Int.reduceSub, Int.reduceMul, true_imp_iff, forall_const, Nat.mul_one, Int.reduceToNat, Nat.reducePow, Int.reducePow, Bool.true_and, Bool.false_and, Bool.and_false, gL]
  refine hA.mono ?_
  rintro v σ' ⟨rfl, rfl⟩
  simp (disch := first | assumption | omega | (simp only [List.length_append, List.length_cons, List.length_nil]; omega)) only [go_sem, reduceCtorEq, Nat.reduceEqDiff, Nat.reduceAdd, Nat.reduceSub, Nat.reduceMul, Nat.reduceLeDiff, Int.reduceLT, Int.reduceLE, Int.reduceEq, ↓reduceIte, Int.reduceNeg, Int.reduceAdd, Int.reduceSub, Int.reduceMul, true_imp_iff, forall_const, Nat.mul_one, Int.reduceToNat, Nat.reducePow, Int.reducePow, Bool.true_and, Bool.false_and, Bool.and_false]
  refine w1.use ?_
  simp (disch := first | assumption | omega | (simp only [List.length_append, List.length_cons, List.length_nil]; omega)) only [go_sem, reduceCtorEq, Nat.reduceEqDiff, Nat.reduceAdd, Nat.reduceSub, Nat.reduceMul, Nat.reduceLeDiff, Int.reduceLT, Int.reduceLE, Int.reduceEq, ↓reduceIte, Int.reduceNeg, Int.reduceAdd, Int.reduceSub, Int.reduceMul, true_imp_iff, forall_const, Nat.mul_one, Int.reduceToNat, Nat.reducePow, Int.reducePow, Bool.true_and, Bool.false_and, Bool.and_false, nG, r1]
  refine w1.use ?_
  simp (disch := first | assumption | omega | (simp only [List.length_append, List.length_cons, List.length_nil]; omega)) only [go_sem, reduceCtorEq, Nat.reduceEqDiff, Nat.reduceAdd, Nat.reduceSub, Nat.reduceMul, Nat.reduceLeDiff, Int.reduceLT, Int.reduceLE, Int.reduceEq, ↓reduceIte, Int.reduceNeg, Int.reduceAdd, Int.reduceSub, Int.reduceMul, true_imp_iff, forall_const, Nat.mul_one, Int.reduceToNat, Nat.reducePow, Int.reducePow, Bool.true_and, Bool.false_and, Bool.and_false, nG, r2]
  refine w2.use ?_
  simp (disch := first | assumption | omega | (simp only [List.length_append, List.length_cons, List.length_nil]; omega)) only [go_sem, reduceCtorEq, Nat.reduceEqDiff, Nat.reduceAdd, Nat.reduceSub, Nat.reduceMul, Nat.reduceLeDiff, Int.reduceLT, Int.reduceLE, Int.reduceEq, ↓reduceIte, Int.reduceNeg, Int.reduceAdd, Int.reduceSub, Int.reduceMul, true_imp_iff, forall_const, Nat.mul_one, Int.reduceToNat, Nat.reducePow, Int.reducePow, Bool.true_and, Bool.false_and, Bool.and_false, nM, r3]
  refine w2.use ?_
  simp (disch := first | assumption | omega | (simp only [List.length_append, List.length_cons, List.length_nil]; omega)) only [go_sem, reduceCtorEq, Nat.reduceEqDiff, Nat.reduceAdd, Nat.reduceSub, Nat.reduceMul, Nat.reduceLeDiff, Int.reduceLT, Int.reduceLE, Int.reduceEq, ↓reduceIte, Int.reduceNeg, Int.reduceAdd, Int.reduceSub, Int.reduceMul, true_imp_iff, forall_const, Nat.mul_one, Int.reduceToNat, Nat.reducePow, Int.reducePow, Bool.true_and, Bool.false_and, Bool.and_false, nN, r4]
  refine w2.use ?_
  simp (disch := first | assumption | omega | (simp only [List.length_append, List.length_cons, List.length_nil]; omega)) only [go_sem, reduceCtorEq, Nat.reduceEqDiff, Nat.reduceAdd, Nat.reduceSub, Nat.reduceMul, Nat.reduceLeDiff, Int.reduceLT, Int.reduceLE, Int.reduceEq, ↓reduceIte, Int.reduceNeg, Int.reduceAdd, Int.reduceSub, Int.reduceMul, true_imp_iff, forall_const, Nat.mul_one, Int.reduceToNat, Nat.reducePow, Int.reducePow, Bool.true_and, Bool.false_and, Bool.and_false]
  refine w1.use ?_
  simp (disch := first | assumption | omega | (simp only [List.length_append, List.length_cons, List.length_nil]; omega)) only [go_sem, reduceCtorEq, Nat.reduceEqDiff, Nat.reduceAdd, Nat.reduceSub, Nat.reduceMul, Nat.reduceLeDiff, Int.reduceLT, Int.reduceLE, Int.reduceEq, ↓reduceIte, Int.reduceNeg, Int.reduceAdd, Int.reduceSub, Int.reduceMul, true_imp_iff, forall_const, Nat.mul_one, Int.reduceToNat, Nat.reducePow, Int.reducePow, Bool.true_and, Bool.false_and, Bool.and_false, nG, r5, eq1, r6, eL1]
  exact retC_by (by repeat' (first | exact Drop.refl _ | with_reducible refine Drop.off ?_ (by assumption))) (.refl _) ⟨rfl, rfl⟩
end Go.A
