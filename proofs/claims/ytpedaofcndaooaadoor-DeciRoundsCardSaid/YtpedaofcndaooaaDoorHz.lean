/- Trunc of deci and of the document. -/
import Derived.Test.YtpedaofcndaooaaDoorHya
namespace Go.A
open Go.Proofs
set_option maxRecDepth 100000
set_option linter.unusedSimpArgs false
set_option linter.unusedVariables false

theorem rtrunc_hi {a p : Int} (h : 4 ≤ p) : Pure Tryd.prog 28 [.int .i64 a, .int .i64 p] (.int .i64 a) := by
  intro σ
  refine a28 (by simp) ?_
  simp (disch := first | assumption | omega | (simp only [List.length_append, List.length_cons, List.length_nil]; omega)) only [go_sem, reduceCtorEq, Nat.reduceEqDiff, Nat.reduceAdd, Nat.reduceSub, Nat.reduceMul, Nat.reduceLeDiff, Int.reduceLT, Int.reduceLE, Int.reduceEq, ↓reduceIte, Int.reduceNeg, Int.reduceAdd, Int.reduceSub, Int.reduceMul, true_imp_iff, forall_const, Nat.mul_one, Int.reduceToNat, Nat.reducePow, Int.reducePow, Bool.true_and, Bool.false_and, Bool.and_false, h]
  exact retC_by (by repeat' (first | exact Drop.refl _ | with_reducible refine Drop.off ?_ (by assumption))) (.refl _) ⟨rfl, rfl⟩
theorem rtrunc_lo {a p : Int} (h : p < -14) : Pure Tryd.prog 28 [.int .i64 a, .int .i64 p] (.int .i64 0) := by
  intro σ
  have g1 : ¬ (4 : Int) ≤ p := by omega
  refine a28 (by simp) ?_
  simp (disch := first | assumption | omega | (simp only [List.length_append, List.length_cons, List.length_nil]; omega)) only [go_sem, reduceCtorEq, Nat.reduceEqDiff, Nat.reduceAdd, Nat.reduceSub, Nat.reduceMul, Nat.reduceLeDiff, Int.reduceLT, Int.reduceLE, Int.reduceEq, ↓reduceIte, Int.reduceNeg, Int.reduceAdd, Int.reduceSub, Int.reduceMul, true_imp_iff, forall_const, Nat.mul_one, Int.reduceToNat, Nat.reducePow, Int.reducePow, Bool.true_and, Bool.false_and, Bool.and_false, h, g1]
  exact retC_by (by repeat' (first | exact Drop.refl _ | with_reducible refine Drop.off ?_ (by assumption))) (.refl _) ⟨rfl, rfl⟩
theorem trunc_lo {a p : Int} (h : p < -14) : Pure Tryd.prog 27 [.int .i64 a, .int .i64 p] (.int .i64 0) := by
  intro σ
  refine a27 (by simp) ?_
  simp (disch := first | assumption | omega | (simp only [List.length_append, List.length_cons, List.length_nil]; omega)) only [go_sem, reduceCtorEq, Nat.reduceEqDiff, Nat.reduceAdd, Nat.reduceSub, Nat.reduceMul, Nat.reduceLeDiff, Int.reduceLT, Int.reduceLE, Int.reduceEq, ↓reduceIte, Int.reduceNeg, Int.reduceAdd, Int.reduceSub, Int.reduceMul, true_imp_iff, forall_const, Nat.mul_one, Int.reduceToNat, Nat.reducePow, Int.reducePow, Bool.true_and, Bool.false_and, Bool.and_false, h]
  exact retC_by (by repeat' (first | exact Drop.refl _ | with_reducible refine Drop.off ?_ (by assumption))) (.refl _) ⟨rfl, rfl⟩
theorem trunc_hi {a p : Int} (h : 4 ≤ p) : Pure Tryd.prog 27 [.int .i64 a, .int .i64 p] (.int .i64 a) := by
  intro σ
  have g1 : ¬ p < -14 := by omega
  refine a27 (by simp) ?_
  simp (disch := first | assumption | omega | (simp only [List.length_append, List.length_cons, List.length_nil]; omega)) only [go_sem, reduceCtorEq, Nat.reduceEqDiff, Nat.reduceAdd, Nat.reduceSub, Nat.reduceMul, Nat.reduceLeDiff, Int.reduceLT, Int.reduceLE, Int.reduceEq, ↓reduceIte, Int.reduceNeg, Int.reduceAdd, Int.reduceSub, Int.reduceMul, true_imp_iff, forall_const, Nat.mul_one, Int.reduceToNat, Nat.reducePow, Int.reducePow, Bool.true_and, Bool.false_and, Bool.and_false, g1]
  refine (unit_no h).use ?_
  simp (disch := first | assumption | omega | (simp only [List.length_append, List.length_cons, List.length_nil]; omega)) only [go_sem, reduceCtorEq, Nat.reduceEqDiff, Nat.reduceAdd, Nat.reduceSub, Nat.reduceMul, Nat.reduceLeDiff, Int.reduceLT, Int.reduceLE, Int.reduceEq, ↓reduceIte, Int.reduceNeg, Int.reduceAdd, Int.reduceSub, Int.reduceMul, true_imp_iff, forall_const, Nat.mul_one, Int.reduceToNat, Nat.reducePow, Int.reducePow, Bool.true_and, Bool.false_and, Bool.and_false]
  exact retC_by (by repeat' (first | exact Drop.refl _ | with_reducible refine Drop.off ?_ (by assumption))) (.refl _) ⟨rfl, rfl⟩
/-- Cut off: towards nought. -/
def truncP (a : Int) (u : Nat) : Int := a - a.tmod u
theorem trunc_ok {σ : ASt} (hT : Tens σ) {a p : Int} (ha : a.natAbs ≤ 999999999999999999) (h0 : -14 ≤ p) (h1 : p < 4) : ACalls Tryd.prog 27 [.int .i64 a, .int .i64 p] σ fun v σ' => v = .int .i64 (truncP a (10 ^ (4 - p).toNat)) ∧ σ' = σ := by
  have hU := unit_ok hT p h0 h1
  have hu0 : 0 < 10 ^ (4 - p).toNat := Nat.pow_pos (by omega)
  have hu1 : 10 ^ (4 - p).toNat ≤ 10 ^ 18 := Nat.pow_le_pow_right (by omega) (by omega)
  generalize 10 ^ (4 - p).toNat = u at hU hu0 hu1
  have g1 : ¬ p < -14 := by omega
  have hm := Int.natAbs_tmod a u
  have hle : a.natAbs % u ≤ a.natAbs := Nat.mod_le _ _
  unfold truncP
  rw [Int.natAbs_natCast] at hm
  have e1 : IntKind.i64.wrap (u : Int) = u := by rw [IntKind.wrap_i64]; omega
  have hs : (a.tmod u < 0 → a < 0) ∧ (0 < a.tmod u → 0 < a) := by
    refine ⟨fun h => ?_, fun h => ?_⟩
    · refine Int.not_le.1 fun h2 => ?_
      have := Int.tmod_nonneg (a := a) (u : Int) h2
      omega
    · refine Int.not_le.1 fun h2 => ?_
      have h3 := Int.tmod_nonneg (a := -a) (u : Int) (by omega)
      rw [Int.neg_tmod] at h3
      omega
  have g2 : (u : Int) ≠ 0 := by omega
  have g3 : (a - a.tmod u).natAbs ≤ 999999999999999999 := by omega
  have e2 : IntKind.i64.wrap (a - a.tmod u) = a - a.tmod u := by rw [IntKind.wrap_i64]; omega
  refine a27 (by simp) ?_
  simp (disch := first | assumption | omega | (simp only [List.length_append, List.length_cons, List.length_nil]; omega)) only [go_sem, reduceCtorEq, Nat.reduceEqDiff, Nat.reduceAdd, Nat.reduceSub, Nat.reduceMul, Nat.reduceLeDiff, Int.reduceLT, Int.reduceLE, Int.reduceEq, ↓reduceIte, Int.reduceNeg, Int.reduceAdd, Int.reduceSub, Int.reduceMul, true_imp_iff, forall_const, Nat.mul_one, Int.reduceToNat, Nat.reducePow, Int.reducePow, Bool.true_and, Bool.false_and, Bool.and_false, g1]
  refine hU.mono ?_
  rintro v σ' ⟨rfl, rfl⟩
  simp (disch := first | assumption | omega | (simp only [List.length_append, List.length_cons, List.length_nil]; omega)) only [go_sem, reduceCtorEq, Nat.reduceEqDiff, Nat.reduceAdd, Nat.reduceSub, Nat.reduceMul, Nat.reduceLeDiff, Int.reduceLT, Int.reduceLE, Int.reduceEq, ↓reduceIte, Int.reduceNeg, Int.reduceAdd, Int.reduceSub, Int.reduceMul, true_imp_iff, forall_const, Nat.mul_one, Int.reduceToNat, Nat.reducePow, Int.reducePow, Bool.true_and, Bool.false_and, Bool.and_false, e1, e2, g2]
  exact retC_by (by repeat' (first | exact Drop.refl _ | with_reducible refine Drop.off ?_ (by assumption))) (.refl _) ⟨rfl, rfl⟩
theorem trunc_nv {s : List UInt8} (h : AllD s) {n : Nat} (hn : n ≤ s.length) : nv (s.take (s.length - n) ++ List.replicate n 48) = nv s / 10 ^ n * 10 ^ n := by
  have hB : AllD (s.drop (s.length - n)) := fun d hd => h d (List.mem_of_mem_drop hd)
  have hl : (s.drop (s.length - n)).length = n := by rw [List.length_drop]; omega
  have hb := nv_lt hB
  rw [hl] at hb
  have := nv_app (s.take (s.length - n)) (s.drop (s.length - n))
  rw [List.take_append_drop, hl] at this
  rw [nv_app, nv_zeros, List.length_replicate, this, Nat.add_zero]
  congr 1
  rw [Nat.mul_comm, Nat.mul_add_div (Nat.pow_pos (by omega)), Nat.div_eq_of_lt hb, Nat.add_zero]
theorem trunc_val (a : Int) (ha : a.natAbs ≤ 999999999999999999) (u : Nat) : madeP (decide (a < 0)) (a.natAbs / u * u) = some (truncP a u) := by
  unfold madeP truncP
  have h1 := Nat.div_mul_le_self a.natAbs u
  rw [if_pos (by omega)]
  have h2 : a.natAbs / u * u + a.natAbs % u = a.natAbs := by rw [Nat.mul_comm]; exact Nat.div_add_mod _ _
  congr 1
  by_cases h0 : a < 0
  · have e : a.tmod u = -(((a.natAbs % u : Nat)) : Int) := by
      rw [show a = -((a.natAbs : Nat) : Int) by omega, Int.neg_tmod, Int.tmod_eq_emod_of_nonneg (by omega), Int.natAbs_neg, Int.natAbs_natCast]
      rfl
    rw [if_pos (by simpa using h0), e]
    generalize a.natAbs / u * u = x at *
    omega
  · have e : a.tmod u = (((a.natAbs % u : Nat)) : Int) := by
      have ea : a = ((a.natAbs : Nat) : Int) := by omega
      rw [Int.tmod_eq_emod_of_nonneg (by omega)]
      conv => lhs; rw [ea]
      rfl
    rw [if_neg (by simpa using h0), e]
    generalize a.natAbs / u * u = x at *
    omega
set_option maxHeartbeats 1000000 in
theorem rtrunc_ok {a p : Int} (ha : a.natAbs ≤ 999999999999999999) (h0 : -14 ≤ p) (h1 : p < 4) : Pure Tryd.prog 28 [.int .i64 a, .int .i64 p] (.int .i64 (truncP a (10 ^ (4 - p).toNat))) := by
  intro σ
  obtain ⟨k, hk⟩ : ∃ k : Nat, (4 - p).toNat = k := ⟨_, rfl⟩
  have e4 : (4 : Int) - p = k := by omega
  have hk0 : 0 < k := by omega
  have hk18 : k ≤ 18 := by omega
  rw [hk]
  have hdl : (Lib.decDigits a.natAbs).length ≤ 18 := dd_len 17 _ (by omega)
  have hdD : AllD (Lib.decDigits a.natAbs) := (dd_all _).1
  have hnv := nv_dd a.natAbs
  have hS := rsize_ok a ha
  have hD := rdigits_ok a.natAbs (by omega)
  have g1 : ¬ (4 : Int) ≤ p := by omega
  have g2 : ¬ p < -14 := by omega
  have hfin := trunc_val a ha (10 ^ k)
  have hlt := nv_lt hdD
  generalize Lib.decDigits a.natAbs = s at *
  refine a28 (by simp) ?_
  simp (disch := first | assumption | omega | (simp only [List.length_append, List.length_cons, List.length_nil]; omega)) only [go_sem, reduceCtorEq, Nat.reduceEqDiff, Nat.reduceAdd, Nat.reduceSub, Nat.reduceMul, Nat.reduceLeDiff, Int.reduceLT, Int.reduceLE, Int.reduceEq, ↓reduceIte, Int.reduceNeg, Int.reduceAdd, Int.reduceSub, Int.reduceMul, true_imp_iff, forall_const, Nat.mul_one, Int.reduceToNat, Nat.reducePow, Int.reducePow, Bool.true_and, Bool.false_and, Bool.and_false, g1, g2]
  refine hS.use ?_
  simp (disch := first | assumption | omega | (simp only [List.length_append, List.length_cons, List.length_nil]; omega)) only [go_sem, reduceCtorEq, Nat.reduceEqDiff, Nat.reduceAdd, Nat.reduceSub, Nat.reduceMul, Nat.reduceLeDiff, Int.reduceLT, Int.reduceLE, Int.reduceEq, ↓reduceIte, Int.reduceNeg, Int.reduceAdd, Int.reduceSub, Int.reduceMul, true_imp_iff, forall_const, Nat.mul_one, Int.reduceToNat, Nat.reducePow, Int.reducePow, Bool.true_and, Bool.false_and, Bool.and_false]
  refine hD.use ?_
  simp (disch := first | assumption | omega | (simp only [List.length_append, List.length_cons, List.length_nil]; omega)) only [go_sem, reduceCtorEq, Nat.reduceEqDiff, Nat.reduceAdd, Nat.reduceSub, Nat.reduceMul, Nat.reduceLeDiff, Int.reduceLT, Int.reduceLE, Int.reduceEq, ↓reduceIte, Int.reduceNeg, Int.reduceAdd, Int.reduceSub, Int.reduceMul, true_imp_iff, forall_const, Nat.mul_one, Int.reduceToNat, Nat.reducePow, Int.reducePow, Bool.true_and, Bool.false_and, Bool.and_false, e4]
  by_cases hle : s.length ≤ k
  · have hle' : (s.length : Int) ≤ k := by omega
    have : a.natAbs / 10 ^ k = 0 := Nat.div_eq_of_lt (by
      rw [← hnv]
      exact Nat.lt_of_lt_of_le hlt (Nat.pow_le_pow_right (by omega) hle))
    rw [this, Nat.zero_mul] at hfin
    have hz : truncP a (10 ^ k) = 0 := by
      unfold madeP at hfin
      rw [if_pos (by omega)] at hfin
      injection hfin with hfin
      rw [← hfin]
      split <;> rfl
    rw [hz]
    simp (disch := first | assumption | omega | (simp only [List.length_append, List.length_cons, List.length_nil]; omega)) only [go_sem, reduceCtorEq, Nat.reduceEqDiff, Nat.reduceAdd, Nat.reduceSub, Nat.reduceMul, Nat.reduceLeDiff, Int.reduceLT, Int.reduceLE, Int.reduceEq, ↓reduceIte, Int.reduceNeg, Int.reduceAdd, Int.reduceSub, Int.reduceMul, true_imp_iff, forall_const, Nat.mul_one, Int.reduceToNat, Nat.reducePow, Int.reducePow, Bool.true_and, Bool.false_and, Bool.and_false, hle']
    exact retC_by (by repeat' (first | exact Drop.refl _ | with_reducible refine Drop.off ?_ (by assumption))) (.refl _) ⟨rfl, rfl⟩
  have hle' : ¬ (s.length : Int) ≤ k := by omega
  obtain ⟨m, hm⟩ : ∃ m, s.length - k = m := ⟨_, rfl⟩
  have hml : s.length = m + k := by omega
  have hres := trunc_nv hdD (n := k) (by omega)
  rw [hm, hnv] at hres
  rw [← hres] at hfin
  have hV := value_ok (decide (a < 0)) (s.take m ++ List.replicate k 48) (allD_app (fun c hc => hdD c (List.mem_of_mem_take hc)) (allD_zeros k)) (by simp; omega)
  unfold valP at hV
  rw [hfin] at hV
  simp only [resAV, Option.getD_some] at hV
  generalize truncP a (10 ^ k) = V at *
  clear hres hfin hlt hdD hnv
  simp (disch := first | assumption | omega | (simp only [List.length_append, List.length_cons, List.length_nil]; omega)) only [go_sem, reduceCtorEq, Nat.reduceEqDiff, Nat.reduceAdd, Nat.reduceSub, Nat.reduceMul, Nat.reduceLeDiff, Int.reduceLT, Int.reduceLE, Int.reduceEq, ↓reduceIte, Int.reduceNeg, Int.reduceAdd, Int.reduceSub, Int.reduceMul, true_imp_iff, forall_const, Nat.mul_one, Int.reduceToNat, Nat.reducePow, Int.reducePow, Bool.true_and, Bool.false_and, Bool.and_false, hle']
  refine wp_loop_on (fun (j : Nat) a1 s2 => j ≤ k ∧ (a1 0 = .int .i64 a ∧ a1 5 = .str (s.take m ++ List.replicate j 48 ++ s.drop (m + j)) ∧ a1 6 = .int .i64 k ∧ a1 7 = .int .i64 j) ∧ s2 = σ) (fun j => k - j) 0 ⟨Nat.zero_le _, ?_, rfl⟩ ?_
  · simp (disch := first | assumption | omega | (simp only [List.length_append, List.length_cons, List.length_nil]; omega)) only [go_sem, reduceCtorEq, Nat.reduceEqDiff, Nat.reduceAdd, Nat.reduceSub, Nat.reduceMul, Nat.reduceLeDiff, Int.reduceLT, Int.reduceLE, Int.reduceEq, ↓reduceIte, Int.reduceNeg, Int.reduceAdd, Int.reduceSub, Int.reduceMul, true_imp_iff, forall_const, Nat.mul_one, Int.reduceToNat, Nat.reducePow, Int.reducePow, Bool.true_and, Bool.false_and, Bool.and_false]
    simp
  rintro j a1 s2 ⟨hj, hf, rfl⟩
  obtain ⟨T, hT⟩ : ∃ T, s.take m ++ List.replicate j 48 ++ s.drop (m + j) = T := ⟨_, rfl⟩
  have hTl : T.length = m + k := by rw [← hT]; simp; omega
  rw [hT] at hf
  by_cases hlt : j < k
  · have g3 : (j : Int) < k := by omega
    have e1 : (T.length : Int) - k = m := by omega
    have t1 : T.take (m + j) = s.take m ++ List.replicate j 48 := by
      rw [← hT, List.take_append_of_le_length (by simp; omega), List.take_of_length_le (by simp; omega)]
    have t2 : T.drop (m + j + 1) = s.drop (m + (j + 1)) := by
      rw [← hT, List.drop_append, List.drop_of_length_le (by simp; omega), List.nil_append, List.drop_drop]
      congr 1
      simp
      omega
    have g4 : (m : Int) + j ≤ T.length := by omega
    have g5 : (m : Int) + j + 1 ≤ T.length := by omega
    have n1 : ((m : Int) + j).toNat = m + j := by omega
    have n2 : ((m : Int) + j + 1).toNat = m + j + 1 := by omega
    have b1 : binS .add (s.take m ++ List.replicate j 48) [48] = some (.str (s.take m ++ List.replicate (j + 1) 48)) := by
      rw [binS_add (by simp; omega), List.replicate_succ', List.append_assoc]
    have b2 : binS .add (s.take m ++ List.replicate (j + 1) 48) (s.drop (m + (j + 1))) = some (.str (s.take m ++ List.replicate (j + 1) 48 ++ s.drop (m + (j + 1)))) := binS_add (by simp; omega)
    simp (disch := first | assumption | omega | (simp only [List.length_append, List.length_cons, List.length_nil]; omega)) only [go_sem, reduceCtorEq, Nat.reduceEqDiff, Nat.reduceAdd, Nat.reduceSub, Nat.reduceMul, Nat.reduceLeDiff, Int.reduceLT, Int.reduceLE, Int.reduceEq, ↓reduceIte, Int.reduceNeg, Int.reduceAdd, Int.reduceSub, Int.reduceMul, true_imp_iff, forall_const, Nat.mul_one, Int.reduceToNat, Nat.reducePow, Int.reducePow, Bool.true_and, Bool.false_and, Bool.and_false, hf, g3, e1, n1, n2, t1, t2, g4, g5, b1, b2, List.take_length]
    exact ⟨j + 1, by omega, by omega, rfl, rfl⟩
  · have g3 : ¬ (j : Int) < k := by omega
    obtain rfl : j = k := by omega
    have hTe : T = s.take m ++ List.replicate j 48 := by rw [← hT, List.drop_of_length_le (by omega), List.append_nil]
    rw [hTe] at hf
    simp (disch := first | assumption | omega | (simp only [List.length_append, List.length_cons, List.length_nil]; omega)) only [go_sem, reduceCtorEq, Nat.reduceEqDiff, Nat.reduceAdd, Nat.reduceSub, Nat.reduceMul, Nat.reduceLeDiff, Int.reduceLT, Int.reduceLE, Int.reduceEq, ↓reduceIte, Int.reduceNeg, Int.reduceAdd, Int.reduceSub, Int.reduceMul, true_imp_iff, forall_const, Nat.mul_one, Int.reduceToNat, Nat.reducePow, Int.reducePow, Bool.true_and, Bool.false_and, Bool.and_false, hf, g3]
    refine hV.use ?_
    simp (disch := first | assumption | omega | (simp only [List.length_append, List.length_cons, List.length_nil]; omega)) only [go_sem, reduceCtorEq, Nat.reduceEqDiff, Nat.reduceAdd, Nat.reduceSub, Nat.reduceMul, Nat.reduceLeDiff, Int.reduceLT, Int.reduceLE, Int.reduceEq, ↓reduceIte, Int.reduceNeg, Int.reduceAdd, Int.reduceSub, Int.reduceMul, true_imp_iff, forall_const, Nat.mul_one, Int.reduceToNat, Nat.reducePow, Int.reducePow, Bool.true_and, Bool.false_and, Bool.and_false]
    exact retC_by (by repeat' (first | exact Drop.refl _ | with_reducible refine Drop.off ?_ (by assumption))) (.refl _) ⟨rfl, rfl⟩
end Go.A
