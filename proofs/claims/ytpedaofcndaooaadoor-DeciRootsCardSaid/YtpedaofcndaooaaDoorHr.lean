/- Sqrt and DeciRoots walked. -/
import Derived.Test.YtpedaofcndaooaaDoorHf
import Derived.Test.YtpedaofcndaooaaDoorCodeEc
namespace Go.A
open Go.Proofs
set_option maxRecDepth 100000
set_option linter.unusedSimpArgs false
set_option linter.unusedVariables false

/-- The bits are tried from 2^37 down. -/
def rootD (n : Nat) : Nat := rootP n 38 0
theorem rootP_step {n i r : Nat} : rootP n (i + 1) r = rootP n i (if (r + 2 ^ i) * (r + 2 ^ i) ≤ n then r + 2 ^ i else r) := rfl
/-- Of two numbers of 128 bits: which is the greater. -/
theorem wide_le {x y : Nat} : (x / 18446744073709551616 < y / 18446744073709551616 ∨ x / 18446744073709551616 = y / 18446744073709551616 ∧ x % 18446744073709551616 ≤ y % 18446744073709551616) ↔ x ≤ y := by omega
theorem or_nat {x y : Nat} (hx : x < 18446744073709551616) (hy : y < 18446744073709551616) : binI .or .u64 (x : Int) (y : Int) = some (.int .u64 ((x ||| y : Nat) : Int)) := by
  have h : x ||| y < 2 ^ 64 := Nat.or_lt_two_pow (n := 64) hx hy
  have e : (BitVec.ofInt 64 (x : Int) ||| BitVec.ofInt 64 (y : Int)).toNat = x ||| y := by
    rw [BitVec.toNat_or, BitVec.ofInt_natCast, BitVec.ofInt_natCast, BitVec.toNat_ofNat, BitVec.toNat_ofNat, Nat.mod_eq_of_lt hx, Nat.mod_eq_of_lt hy]
  show some (AV.int .u64 (IntKind.u64.wrap ((BitVec.ofInt 64 (x : Int) ||| BitVec.ofInt 64 (y : Int)).toNat : Int))) = _
  rw [e, IntKind.wrap_u64]
  congr 2
  omega
theorem shr_nat (x : Nat) : shI .shr .u64 (x : Int) 1 = some (.int .u64 ((x / 2 : Nat) : Int)) := by
  show some (AV.int .u64 ((x : Int) / 2 ^ min 1 64)) = _
  rfl
theorem rootD_is {n : Nat} (h : n < 5000000000000000000000) : rootD n * rootD n ≤ n ∧ n < (rootD n + 1) * (rootD n + 1) :=
  rootP_is n 38 0 (by omega) (by simp; omega)
set_option maxHeartbeats 1000000 in
theorem sqrt_ok {a : Int} (h0 : 0 ≤ a) (h1 : a ≤ 999999999999999999) : Pure Tryd.prog 15 [.int .i64 a] (.tuple [.int .i64 (rootD (a.toNat * 10000) : Nat), .bool true]) := by
  intro σ
  have hM := mul64_ok a.toNat 10000 (by omega) (by omega)
  obtain ⟨n, hn⟩ : ∃ n, a.toNat * 10000 = n := ⟨_, rfl⟩
  rw [hn] at hM ⊢
  have hnb : n < 5000000000000000000000000 := by omega
  have ea : ((a.toNat : Nat) : Int) = a := by omega
  have g0 : ¬ a < 0 := by omega
  have ec : IntKind.u64.wrap a = ((a.toNat : Nat) : Int) := by rw [IntKind.wrap_u64]; omega
  refine a15 (by simp) ?_
  simp (disch := first | assumption | omega | (simp only [List.length_append, List.length_cons, List.length_nil]; omega)) only [go_sem, reduceCtorEq, Nat.reduceEqDiff, Nat.reduceAdd, Nat.reduceSub, Nat.reduceMul, Nat.reduceLeDiff, Int.reduceLT, Int.reduceLE, Int.reduceEq, ↓reduceIte, Int.reduceNeg, Int.reduceAdd, Int.reduceSub, Int.reduceMul, true_imp_iff, forall_const, Nat.mul_one, Int.reduceToNat, Nat.reducePow, Int.reducePow, Bool.true_and, Bool.false_and, Bool.and_false, g0, ec]
  refine hM.use ?_
  simp (disch := first | assumption | omega | (simp only [List.length_append, List.length_cons, List.length_nil]; omega)) only [go_sem, reduceCtorEq, Nat.reduceEqDiff, Nat.reduceAdd, Nat.reduceSub, Nat.reduceMul, Nat.reduceLeDiff, Int.reduceLT, Int.reduceLE, Int.reduceEq, ↓reduceIte, Int.reduceNeg, Int.reduceAdd, Int.reduceSub, Int.reduceMul, true_imp_iff, forall_const, Nat.mul_one, Int.reduceToNat, Nat.reducePow, Int.reducePow, Bool.true_and, Bool.false_and, Bool.and_false]
  obtain ⟨H, hH⟩ : ∃ H, n / 18446744073709551616 = H := ⟨_, rfl⟩
  obtain ⟨L, hL⟩ : ∃ L, n % 18446744073709551616 = L := ⟨_, rfl⟩
  rw [hH, hL]
  refine wp_loop_on (fun (j : Nat) a1 s2 => j ≤ 38 ∧ (∃ r B : Nat, B = 2 ^ (38 - j) / 2 ∧ r < 2 ^ 38 ∧ 2 ^ (38 - j) ∣ r ∧ rootP n (38 - j) r = rootD n ∧ (a1 6 = .int .u64 r ∧ a1 7 = .int .u64 B)) ∧ (a1 4 = .int .u64 H ∧ a1 5 = .int .u64 L) ∧ s2 = σ) (fun j => 38 - j) 0 ⟨Nat.zero_le _, ⟨0, 137438953472, by decide, by decide, Nat.dvd_zero _, rfl, ?_⟩, ?_, rfl⟩ ?_
  · simp (disch := first | assumption | omega | (simp only [List.length_append, List.length_cons, List.length_nil]; omega)) only [go_sem, reduceCtorEq, Nat.reduceEqDiff, Nat.reduceAdd, Nat.reduceSub, Nat.reduceMul, Nat.reduceLeDiff, Int.reduceLT, Int.reduceLE, Int.reduceEq, ↓reduceIte, Int.reduceNeg, Int.reduceAdd, Int.reduceSub, Int.reduceMul, true_imp_iff, forall_const, Nat.mul_one, Int.reduceToNat, Nat.reducePow, Int.reducePow, Bool.true_and, Bool.false_and, Bool.and_false]
  · simp (disch := first | assumption | omega | (simp only [List.length_append, List.length_cons, List.length_nil]; omega)) only [go_sem, reduceCtorEq, Nat.reduceEqDiff, Nat.reduceAdd, Nat.reduceSub, Nat.reduceMul, Nat.reduceLeDiff, Int.reduceLT, Int.reduceLE, Int.reduceEq, ↓reduceIte, Int.reduceNeg, Int.reduceAdd, Int.reduceSub, Int.reduceMul, true_imp_iff, forall_const, Nat.mul_one, Int.reduceToNat, Nat.reducePow, Int.reducePow, Bool.true_and, Bool.false_and, Bool.and_false]
  rintro j a1 s2 ⟨hj, ⟨r, B, hB, hr, hd, hroot, h67⟩, hf, rfl⟩
  by_cases hlt : j < 38
  · obtain ⟨i, hi⟩ : ∃ i, 38 - j = i + 1 := ⟨37 - j, by omega⟩
    have hi37 : i ≤ 37 := by omega
    rw [hi] at hd hroot hB
    rw [Nat.pow_succ, Nat.mul_div_cancel _ (by omega)] at hB
    have hBp : 0 < 2 ^ i := Nat.pow_pos (by omega)
    have hB37 : 2 ^ i ≤ 2 ^ 37 := Nat.pow_le_pow_right (by omega) hi37
    have hor := or_bit hd
    rw [rootP_step] at hroot
    have hR38 : r + 2 ^ i < 2 ^ 38 := by
      obtain ⟨q, hq⟩ := hd
      have e38 : 2 ^ 38 = 2 ^ (i + 1) * 2 ^ (37 - i) := by rw [← Nat.pow_add]; congr 1; omega
      have hlt2 : q < 2 ^ (37 - i) := by
        refine Nat.lt_of_not_le fun hge => ?_
        have := Nat.mul_le_mul_left (2 ^ (i + 1)) hge
        omega
      have h3 : 2 ^ (i + 1) * (q + 1) ≤ 2 ^ (i + 1) * 2 ^ (37 - i) := Nat.mul_le_mul_left _ hlt2
      rw [← e38, Nat.mul_succ, ← hq, Nat.pow_succ] at h3
      omega
    have hd1 : 2 ^ i ∣ r := Nat.dvd_trans ⟨2, by rw [Nat.pow_succ]⟩ hd
    have hd2 : 2 ^ i ∣ r + 2 ^ i := Nat.dvd_add hd1 (Nat.dvd_refl _)
    have hi2 : 38 - (j + 1) = i := by omega
    have hB2 : B / 2 = 2 ^ (38 - (j + 1)) / 2 := by rw [hi2, hB]
    have hsh := shr_nat B
    have ho := or_nat (x := r) (y := B) (by omega) (by omega)
    rw [hB, hor, ← hB] at ho
    rw [← hB] at hroot hR38 hBp hB37
    have hBB : 2 ^ i = B := hB.symm
    have hM2 := mul64_ok (r + B) (r + B) (by omega) (by omega)
    have hw := wide_le (x := (r + B) * (r + B)) (y := n)
    rw [hH, hL] at hw
    obtain ⟨R, hR⟩ : ∃ R, r + B = R := ⟨_, rfl⟩
    obtain ⟨C, hC⟩ : ∃ C, B / 2 = C := ⟨_, rfl⟩
    rw [hR] at ho hM2 hw hroot hR38
    rw [hC] at hsh hB2
    rw [hBB, hR] at hd2
    have gB : (0 : Int) < B := by omega
    generalize R * R / 18446744073709551616 = h at *
    generalize R * R % 18446744073709551616 = l at *
    simp (disch := first | assumption | omega | (simp only [List.length_append, List.length_cons, List.length_nil]; omega)) only [go_sem, reduceCtorEq, Nat.reduceEqDiff, Nat.reduceAdd, Nat.reduceSub, Nat.reduceMul, Nat.reduceLeDiff, Int.reduceLT, Int.reduceLE, Int.reduceEq, ↓reduceIte, Int.reduceNeg, Int.reduceAdd, Int.reduceSub, Int.reduceMul, true_imp_iff, forall_const, Nat.mul_one, Int.reduceToNat, Nat.reducePow, Int.reducePow, Bool.true_and, Bool.false_and, Bool.and_false, hf, h67, gB, ho]
    refine hM2.use ?_
    by_cases c1 : h < H
    · have c1' : (h : Int) < H := by omega
      rw [if_pos (hw.1 (.inl c1))] at hroot
      simp (disch := first | assumption | omega | (simp only [List.length_append, List.length_cons, List.length_nil]; omega)) only [go_sem, reduceCtorEq, Nat.reduceEqDiff, Nat.reduceAdd, Nat.reduceSub, Nat.reduceMul, Nat.reduceLeDiff, Int.reduceLT, Int.reduceLE, Int.reduceEq, ↓reduceIte, Int.reduceNeg, Int.reduceAdd, Int.reduceSub, Int.reduceMul, true_imp_iff, forall_const, Nat.mul_one, Int.reduceToNat, Nat.reducePow, Int.reducePow, Bool.true_and, Bool.false_and, Bool.and_false, hf, h67, c1', hsh]
      exact ⟨j + 1, by omega, by omega, R, C, hB2, by omega, by rw [hi2, hBB]; exact hd2, by rw [hi2]; exact hroot, rfl, rfl⟩
    have c1' : ¬ (h : Int) < H := by omega
    by_cases c2 : h = H
    · have c2' : (h : Int) = H := by omega
      by_cases c3 : l ≤ L
      · have c3' : (l : Int) ≤ L := by omega
        rw [if_pos (hw.1 (.inr ⟨c2, c3⟩))] at hroot
        simp (disch := first | assumption | omega | (simp only [List.length_append, List.length_cons, List.length_nil]; omega)) only [go_sem, reduceCtorEq, Nat.reduceEqDiff, Nat.reduceAdd, Nat.reduceSub, Nat.reduceMul, Nat.reduceLeDiff, Int.reduceLT, Int.reduceLE, Int.reduceEq, ↓reduceIte, Int.reduceNeg, Int.reduceAdd, Int.reduceSub, Int.reduceMul, true_imp_iff, forall_const, Nat.mul_one, Int.reduceToNat, Nat.reducePow, Int.reducePow, Bool.true_and, Bool.false_and, Bool.and_false, hf, h67, c1', c2', c3', hsh]
        exact ⟨j + 1, by omega, by omega, R, C, hB2, by omega, by rw [hi2, hBB]; exact hd2, by rw [hi2]; exact hroot, rfl, rfl⟩
      · have c3' : ¬ (l : Int) ≤ L := by omega
        rw [if_neg (fun hx => by rcases hw.2 hx with h1 | ⟨_, h1⟩ <;> contradiction)] at hroot
        simp (disch := first | assumption | omega | (simp only [List.length_append, List.length_cons, List.length_nil]; omega)) only [go_sem, reduceCtorEq, Nat.reduceEqDiff, Nat.reduceAdd, Nat.reduceSub, Nat.reduceMul, Nat.reduceLeDiff, Int.reduceLT, Int.reduceLE, Int.reduceEq, ↓reduceIte, Int.reduceNeg, Int.reduceAdd, Int.reduceSub, Int.reduceMul, true_imp_iff, forall_const, Nat.mul_one, Int.reduceToNat, Nat.reducePow, Int.reducePow, Bool.true_and, Bool.false_and, Bool.and_false, hf, h67, c1', c2', c3', hsh]
        exact ⟨j + 1, by omega, by omega, r, C, hB2, by omega, by rw [hi2]; exact hd1, by rw [hi2]; exact hroot, rfl, rfl⟩
    · have c2' : ¬ (h : Int) = H := by omega
      rw [if_neg (fun hx => by rcases hw.2 hx with h1 | ⟨h1, _⟩ <;> contradiction)] at hroot
      simp (disch := first | assumption | omega | (simp only [List.length_append, List.length_cons, List.length_nil]; omega)) only [go_sem, reduceCtorEq, Nat.reduceEqDiff, Nat.reduceAdd, Nat.reduceSub, Nat.reduceMul, Nat.reduceLeDiff, Int.reduceLT, Int.reduceLE, Int.reduceEq, ↓reduceIte, Int.reduceNeg, Int.reduceAdd, Int.reduceSub, Int.reduceMul, true_imp_iff, forall_const, Nat.mul_one, Int.reduceToNat, Nat.reducePow, Int.reducePow, Bool.true_and, Bool.false_and, Bool.and_false, hf, h67, c1', c2', hsh]
      exact ⟨j + 1, by omega, by omega, r, C, hB2, by omega, by rw [hi2]; exact hd1, by rw [hi2]; exact hroot, rfl, rfl⟩
  · have hj38 : 38 - j = 0 := by omega
    rw [hj38] at hroot hB
    have hr0 : rootP n 0 r = r := rfl
    rw [hr0] at hroot
    have hB0 : B = 0 := by rw [hB]
    subst hB0
    rw [← hroot]
    have hw : IntKind.i64.wrap (r : Int) = r := by rw [IntKind.wrap_i64]; omega
    simp (disch := first | assumption | omega | (simp only [List.length_append, List.length_cons, List.length_nil]; omega)) only [go_sem, reduceCtorEq, Nat.reduceEqDiff, Nat.reduceAdd, Nat.reduceSub, Nat.reduceMul, Nat.reduceLeDiff, Int.reduceLT, Int.reduceLE, Int.reduceEq, ↓reduceIte, Int.reduceNeg, Int.reduceAdd, Int.reduceSub, Int.reduceMul, true_imp_iff, forall_const, Nat.mul_one, Int.reduceToNat, Nat.reducePow, Int.reducePow, Bool.true_and, Bool.false_and, Bool.and_false, hf, h67, hw]
    exact retC_by (by repeat' (first | exact Drop.refl _ | with_reducible refine Drop.off ?_ (by assumption))) (.refl _) ⟨rfl, rfl⟩

set_option maxHeartbeats 1000000 in
theorem DeciRoots_any {σ : ASt} (h : Tab σ) (hT : Tens σ) (a : Int) : ACalls Tryd.prog 5 [.int .i64 a] σ fun v σ' => v = .bool true ∧ σ' = σ := by
  have hA := dawake_ok h hT
  refine a5 (by simp) ?_
  simp (disch := first | assumption | omega | (simp only [List.length_append, List.length_cons, List.length_nil]; omega)) only [go_sem, reduceCtorEq, Nat.reduceEqDiff, Nat.reduceAdd, Nat.reduceSub, Nat.reduceMul, Nat.reduceLeDiff, Int.reduceLT, Int.reduceLE, Int.reduceEq, ↓reduceIte, Int.reduceNeg, Int.reduceAdd, Int.reduceSub, Int.reduceMul, true_imp_iff, forall_const, Nat.mul_one, Int.reduceToNat, Nat.reducePow, Int.reducePow, Bool.true_and, Bool.false_and, Bool.and_false]
  refine (good_ok a).use ?_
  by_cases hg : a.natAbs ≤ 999999999999999999
  · by_cases h0 : a < 0
    · simp (disch := first | assumption | omega | (simp only [List.length_append, List.length_cons, List.length_nil]; omega)) only [go_sem, reduceCtorEq, Nat.reduceEqDiff, Nat.reduceAdd, Nat.reduceSub, Nat.reduceMul, Nat.reduceLeDiff, Int.reduceLT, Int.reduceLE, Int.reduceEq, ↓reduceIte, Int.reduceNeg, Int.reduceAdd, Int.reduceSub, Int.reduceMul, true_imp_iff, forall_const, Nat.mul_one, Int.reduceToNat, Nat.reducePow, Int.reducePow, Bool.true_and, Bool.false_and, Bool.and_false, hg, h0]
      refine hA.mono ?_
      rintro v σ' ⟨rfl, rfl⟩
      simp (disch := first | assumption | omega | (simp only [List.length_append, List.length_cons, List.length_nil]; omega)) only [go_sem, reduceCtorEq, Nat.reduceEqDiff, Nat.reduceAdd, Nat.reduceSub, Nat.reduceMul, Nat.reduceLeDiff, Int.reduceLT, Int.reduceLE, Int.reduceEq, ↓reduceIte, Int.reduceNeg, Int.reduceAdd, Int.reduceSub, Int.reduceMul, true_imp_iff, forall_const, Nat.mul_one, Int.reduceToNat, Nat.reducePow, Int.reducePow, Bool.true_and, Bool.false_and, Bool.and_false]
      exact retC_by (by repeat' (first | exact Drop.refl _ | with_reducible refine Drop.off ?_ (by assumption))) (.refl _) ⟨rfl, rfl⟩
    by_cases h4 : 10000000000 < a
    · simp (disch := first | assumption | omega | (simp only [List.length_append, List.length_cons, List.length_nil]; omega)) only [go_sem, reduceCtorEq, Nat.reduceEqDiff, Nat.reduceAdd, Nat.reduceSub, Nat.reduceMul, Nat.reduceLeDiff, Int.reduceLT, Int.reduceLE, Int.reduceEq, ↓reduceIte, Int.reduceNeg, Int.reduceAdd, Int.reduceSub, Int.reduceMul, true_imp_iff, forall_const, Nat.mul_one, Int.reduceToNat, Nat.reducePow, Int.reducePow, Bool.true_and, Bool.false_and, Bool.and_false, hg, h0, h4]
      refine hA.mono ?_
      rintro v σ' ⟨rfl, rfl⟩
      simp (disch := first | assumption | omega | (simp only [List.length_append, List.length_cons, List.length_nil]; omega)) only [go_sem, reduceCtorEq, Nat.reduceEqDiff, Nat.reduceAdd, Nat.reduceSub, Nat.reduceMul, Nat.reduceLeDiff, Int.reduceLT, Int.reduceLE, Int.reduceEq, ↓reduceIte, Int.reduceNeg, Int.reduceAdd, Int.reduceSub, Int.reduceMul, true_imp_iff, forall_const, Nat.mul_one, Int.reduceToNat, Nat.reducePow, Int.reducePow, Bool.true_and, Bool.false_and, Bool.and_false]
      exact retC_by (by repeat' (first | exact Drop.refl _ | with_reducible refine Drop.off ?_ (by assumption))) (.refl _) ⟨rfl, rfl⟩
    have hS := sqrt_ok (a := a) (by omega) (by omega)
    obtain ⟨N, hN⟩ : ∃ N, a.toNat * 10000 = N := ⟨_, rfl⟩
    rw [hN] at hS
    obtain ⟨q1, q2⟩ := rootD_is (n := N) (by omega)
    generalize rootD N = R at *
    have hR7 : R ≤ 10000000 := by
      refine Nat.le_of_not_lt fun hlt => ?_
      have := Nat.mul_le_mul (show 10000001 ≤ R by omega) (show 10000001 ≤ R by omega)
      omega
    obtain ⟨Q, hQ⟩ : ∃ Q, R * R = Q := ⟨_, rfl⟩
    have hQ2 : (R + 1) * (R + 1) = Q + 2 * R + 1 := by rw [Nat.add_mul, Nat.mul_add, hQ]; omega
    rw [hQ] at q1
    rw [hQ2] at q2
    have e1 : (R : Int) * R = Q := by rw [← Int.natCast_mul, hQ]
    have e2 : ((R : Int) + 1) * (R + 1) = (Q : Int) + 2 * R + 1 := by rw [Int.add_mul, Int.mul_add, e1]; omega
    have e3 : a * 10000 = (N : Int) := by omega
    have g1 : (0 : Int) ≤ R := by omega
    have g2 : (Q : Int) ≤ N := by omega
    have g3 : (N : Int) < (Q : Int) + 2 * R + 1 := by omega
    have g4 : N ≤ 100000000000000 := by omega
    simp (disch := first | assumption | omega | (simp only [List.length_append, List.length_cons, List.length_nil]; omega)) only [go_sem, reduceCtorEq, Nat.reduceEqDiff, Nat.reduceAdd, Nat.reduceSub, Nat.reduceMul, Nat.reduceLeDiff, Int.reduceLT, Int.reduceLE, Int.reduceEq, ↓reduceIte, Int.reduceNeg, Int.reduceAdd, Int.reduceSub, Int.reduceMul, true_imp_iff, forall_const, Nat.mul_one, Int.reduceToNat, Nat.reducePow, Int.reducePow, Bool.true_and, Bool.false_and, Bool.and_false, hg, h0, h4]
    refine hS.use ?_
    simp (disch := first | assumption | omega | (simp only [List.length_append, List.length_cons, List.length_nil]; omega)) only [go_sem, reduceCtorEq, Nat.reduceEqDiff, Nat.reduceAdd, Nat.reduceSub, Nat.reduceMul, Nat.reduceLeDiff, Int.reduceLT, Int.reduceLE, Int.reduceEq, ↓reduceIte, Int.reduceNeg, Int.reduceAdd, Int.reduceSub, Int.reduceMul, true_imp_iff, forall_const, Nat.mul_one, Int.reduceToNat, Nat.reducePow, Int.reducePow, Bool.true_and, Bool.false_and, Bool.and_false]
    refine hA.mono ?_
    rintro v σ' ⟨rfl, rfl⟩
    simp (disch := first | assumption | omega | (simp only [List.length_append, List.length_cons, List.length_nil]; omega)) only [go_sem, reduceCtorEq, Nat.reduceEqDiff, Nat.reduceAdd, Nat.reduceSub, Nat.reduceMul, Nat.reduceLeDiff, Int.reduceLT, Int.reduceLE, Int.reduceEq, ↓reduceIte, Int.reduceNeg, Int.reduceAdd, Int.reduceSub, Int.reduceMul, true_imp_iff, forall_const, Nat.mul_one, Int.reduceToNat, Nat.reducePow, Int.reducePow, Bool.true_and, Bool.false_and, Bool.and_false, e1, e2, e3, g1, g2, g3]
    exact retC_by (by repeat' (first | exact Drop.refl _ | with_reducible refine Drop.off ?_ (by assumption))) (.refl _) ⟨rfl, rfl⟩
  · simp (disch := first | assumption | omega | (simp only [List.length_append, List.length_cons, List.length_nil]; omega)) only [go_sem, reduceCtorEq, Nat.reduceEqDiff, Nat.reduceAdd, Nat.reduceSub, Nat.reduceMul, Nat.reduceLeDiff, Int.reduceLT, Int.reduceLE, Int.reduceEq, ↓reduceIte, Int.reduceNeg, Int.reduceAdd, Int.reduceSub, Int.reduceMul, true_imp_iff, forall_const, Nat.mul_one, Int.reduceToNat, Nat.reducePow, Int.reducePow, Bool.true_and, Bool.false_and, Bool.and_false, hg]
    refine hA.mono ?_
    rintro v σ' ⟨rfl, rfl⟩
    simp (disch := first | assumption | omega | (simp only [List.length_append, List.length_cons, List.length_nil]; omega)) only [go_sem, reduceCtorEq, Nat.reduceEqDiff, Nat.reduceAdd, Nat.reduceSub, Nat.reduceMul, Nat.reduceLeDiff, Int.reduceLT, Int.reduceLE, Int.reduceEq, ↓reduceIte, Int.reduceNeg, Int.reduceAdd, Int.reduceSub, Int.reduceMul, true_imp_iff, forall_const, Nat.mul_one, Int.reduceToNat, Nat.reducePow, Int.reducePow, Bool.true_and, Bool.false_and, Bool.and_false]
    exact retC_by (by repeat' (first | exact Drop.refl _ | with_reducible refine Drop.off ?_ (by assumption))) (.refl _) ⟨rfl, rfl⟩
end Go.A
