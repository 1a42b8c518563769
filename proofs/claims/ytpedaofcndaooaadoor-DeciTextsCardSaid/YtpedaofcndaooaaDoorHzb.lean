/- Trunc of deci and of the document. · The document's Mod, Floor and Ceil; DeciRounds. -/
import Derived.Test.YtpedaofcndaooaaDoorHya
namespace Go.A
open Go.Proofs
set_option maxRecDepth 100000
set_option linter.unusedSimpArgs false
set_option linter.unusedVariables false

theorem rtrunc_hi {a p : Int} (h : 4 ≤ p) : Pure Tryd.prog 28 [.int .i64 a, .int .i64 p] (.int .i64 a) := by
  intro σ
  refine a28 (by simp) ?_
  simp (disch := first | assumption | omega | (simp only [List.length_append, List.length_cons, List.length_nil]; omega)) only [go_sem, reduceCtorEq, Nat.reduceEqDiff, Nat.reduceAdd, Nat.reduceSub, Nat.reduceMul, Nat.reduceLeDiff, Int.reduceLT, Int.reduceLE, Int.reduceEq, ↓reduceIte, Int.reduceNeg, Int.reduceAdd, Int.reduceSub, Int.reduceMul, true_imp_iff, forall_const, Nat.mul_one, Int.reduceToNat, Nat.reducePow, Int.reducePow, Bool.true_and, Bool.false_and, Bool.and_false, h]
  exact retC_by (by repeat' (first | exact Drop.refl _ | with_reducible refine Drop.off ?_ (by assumption))) (.refl _) ⟨rfl, rfl⟩
theorem rtrunc_lo {a p : Int} (h : p < -14) : Pure Tryd.prog 28 [.int .i64 a, .int .i64 p] (.int .i64 0) := by
  intro σ
  have g1 : ¬ (4 : Int) ≤ p := by omega
  refine a28 (by simp) ?_
  simp (disch := first | assumption | omega | (simp only [List.length_append, List.length_cons, List.length_nil]; omega)) only [go_sem, reduceCtorEq, Nat.reduceEqDiff, Nat.reduceAdd, Nat.reduceSub, Nat.reduceMul, Nat.reduceLeDiff, Int.reduceLT, Int.reduceLE, Int.reduceEq, ↓reduceIte, Int.reduceNeg, Int.reduceAdd, Int.reduceSub, Int.reduceMul, true_imp_iff, forall_const, Nat.mul_one, Int.reduceToNat, Nat.reducePow, Int.reducePow, Bool.true_and, Bool.false_and, Bool.and_false, h, g1]
  exact retC_by (by repeat' (first | exact Drop.refl _ | with_reducible refine Drop.off ?_ (by assumption))) (.refl _) ⟨rfl, rfl⟩
theorem trunc_lo {a p : Int} (h : p < -14) : Pure Tryd.prog 27 [.int .i64 a, .int .i64 p] (.int .i64 0) := by
  intro σ
  refine a27 (by simp) ?_
  simp (disch := first | assumption | omega | (simp only [List.length_append, List.length_cons, List.length_nil]; omega)) only [go_sem, reduceCtorEq, Nat.reduceEqDiff, Nat.reduceAdd, Nat.reduceSub, Nat.reduceMul, Nat.reduceLeDiff, Int.reduceLT, Int.reduceLE, Int.reduceEq, ↓reduceIte, Int.reduceNeg, Int.reduceAdd, Int.reduceSub, Int.reduceMul, true_imp_iff, forall_const, Nat.mul_one, Int.reduceToNat, Nat.reducePow, Int.reducePow, Bool.true_and, Bool.false_and, Bool.and_false, h]
  exact retC_by (by repeat' (first | exact Drop.refl _ | with_reducible refine Drop.off ?_ (by assumption))) (.refl _) ⟨rfl, rfl⟩
theorem trunc_hi {a p : Int} (h : 4 ≤ p) : Pure Tryd.prog 27 [.int .i64 a, .int .i64 p] (.int .i64 a) := by
  intro σ
  have g1 : ¬ p < -14 := by omega
  refine a27 (by simp) ?_
  simp (disch := first | assumption | omega | (simp only [List.length_append, List.length_cons, List.length_nil]; omega)) only [go_sem, reduceCtorEq, Nat.reduceEqDiff, Nat.reduceAdd, Nat.reduceSub, Nat.reduceMul, Nat.reduceLeDiff, Int.reduceLT, Int.reduceLE, Int.reduceEq, ↓reduceIte, Int.reduceNeg, Int.reduceAdd, Int.reduceSub, Int.reduceMul, true_imp_iff, forall_const, Nat.mul_one, Int.reduceToNat, Nat.reducePow, Int.reducePow, Bool.true_and, Bool.false_and, Bool.and_false, g1]
  refine (unit_no h).use ?_
  simp (disch := first | assumption | omega | (simp only [List.length_append, List.length_cons, List.length_nil]; omega)) only [go_sem, reduceCtorEq, Nat.reduceEqDiff, Nat.reduceAdd, Nat.reduceSub, Nat.reduceMul, Nat.reduceLeDiff, Int.reduceLT, Int.reduceLE, Int.reduceEq, ↓reduceIte, Int.reduceNeg, Int.reduceAdd, Int.reduceSub, Int.reduceMul, true_imp_iff, forall_const, Nat.mul_one, Int.reduceToNat, Nat.reducePow, Int.reducePow, Bool.true_and, Bool.false_and, Bool.and_false]
  exact retC_by (by repeat' (first | exact Drop.refl _ | with_reducible refine Drop.off ?_ (by assumption))) (.refl _) ⟨rfl, rfl⟩
/-- Cut off: towards nought. -/
def truncP (a : Int) (u : Nat) : Int := a - a.tmod u
theorem trunc_ok {σ : ASt} (hT : Tens σ) {a p : Int} (ha : a.natAbs ≤ 999999999999999999) (h0 : -14 ≤ p) (h1 : p < 4) : ACalls Tryd.prog 27 [.int .i64 a, .int .i64 p] σ fun v σ' => v = .int .i64 (truncP a (10 ^ (4 - p).toNat)) ∧ σ' = σ := by
  have hU := unit_ok hT p h0 h1
  have hu0 : 0 < 10 ^ (4 - p).toNat := Nat.pow_pos (by omega)
  have hu1 : 10 ^ (4 - p).toNat ≤ 10 ^ 18 := Nat.pow_le_pow_right (by omega) (by omega)
  generalize 10 ^ (4 - p).toNat = u at hU hu0 hu1
  have g1 : ¬ p < -14 := by omega
  have hm := Int.natAbs_tmod a u
  have hle : a.natAbs % u ≤ a.natAbs := Nat.mod_le _ _
  unfold truncP
  rw [Int.natAbs_natCast] at hm
  have e1 : IntKind.i64.wrap (u : Int) = u := by rw [IntKind.wrap_i64]; omega
  have hs : (a.tmod u < 0 → a < 0) ∧ (0 < a.tmod u → 0 < a) := by
    refine ⟨fun h => ?_, fun h => ?_⟩
    · refine Int.not_le.1 fun h2 => ?_
      have := Int.tmod_nonneg (a := a) (u : Int) h2
      omega
    · refine Int.not_le.1 fun h2 => ?_
      have h3 := Int.tmod_nonneg (a := -a) (u : Int) (by omega)
      rw [Int.neg_tmod] at h3
      omega
  have g2 : (u : Int) ≠ 0 := by omega
  have g3 : (a - a.tmod u).natAbs ≤ 999999999999999999 := by omega
  have e2 : IntKind.i64.wrap (a - a.tmod u) = a - a.tmod u := by rw [IntKind.wrap_i64]; omega
  refine a27 (by simp) ?_
  simp (disch := first | assumption | omega | (simp only [List.length_append, List.length_cons, List.length_nil]; omega)) only [go_sem, reduceCtorEq, Nat.reduceEqDiff, Nat.reduceAdd, Nat.reduceSub, Nat.reduceMul, Nat.reduceLeDiff, Int.reduceLT, Int.reduceLE, Int.reduceEq, ↓reduceIte, Int.reduceNeg, Int.reduceAdd, Int.reduceSub, Int.reduceMul, true_imp_iff, forall_const, Nat.mul_one, Int.reduceToNat, Nat.reducePow, Int.reducePow, Bool.true_and, Bool.false_and, Bool.and_false, g1]
  refine hU.mono ?_
  rintro v σ' ⟨rfl, rfl⟩
  simp (disch := first | assumption | omega | (simp only [List.length_append, List.length_cons, List.length_nil]; omega)) only [go_sem, reduceCtorEq, Nat.reduceEqDiff, Nat.reduceAdd, Nat.reduceSub, Nat.reduceMul, Nat.reduceLeDiff, Int.reduceLT, Int.reduceLE, Int.reduceEq, ↓reduceIte, Int.reduceNeg, Int.reduceAdd, Int.reduceSub, Int.reduceMul, true_imp_iff, forall_const, Nat.mul_one, Int.reduceToNat, Nat.reducePow, Int.reducePow, Bool.true_and, Bool.false_and, Bool.and_false, e1, e2, g2]
  exact retC_by (by repeat' (first | exact Drop.refl _ | with_reducible refine Drop.off ?_ (by assumption))) (.refl _) ⟨rfl, rfl⟩
theorem trunc_nv {s : List UInt8} (h : AllD s) {n : Nat} (hn : n ≤ s.length) : nv (s.take (s.length - n) ++ List.replicate n 48) = nv s / 10 ^ n * 10 ^ n := by
  have hB : AllD (s.drop (s.length - n)) := fun d hd => h d (List.mem_of_mem_drop hd)
  have hl : (s.drop (s.length - n)).length = n := by rw [List.length_drop]; omega
  have hb := nv_lt hB
  rw [hl] at hb
  have := nv_app (s.take (s.length - n)) (s.drop (s.length - n))
  rw [List.take_append_drop, hl] at this
  rw [nv_app, nv_zeros, List.length_replicate, this, Nat.add_zero]
  congr 1
  rw [Nat.mul_comm, Nat.mul_add_div (Nat.pow_pos (by omega)), Nat.div_eq_of_lt hb, Nat.add_zero]
theorem trunc_val (a : Int) (ha : a.natAbs ≤ 999999999999999999) (u : Nat) : madeP (decide (a < 0)) (a.natAbs / u * u) = some (truncP a u) := by
  unfold madeP truncP
  have h1 := Nat.div_mul_le_self a.natAbs u
  rw [if_pos (by omega)]
  have h2 : a.natAbs / u * u + a.natAbs % u = a.natAbs := by rw [Nat.mul_comm]; exact Nat.div_add_mod _ _
  congr 1
  by_cases h0 : a < 0
  · have e : a.tmod u = -(((a.natAbs % u : Nat)) : Int) := by
      rw [show a = -((a.natAbs : Nat) : Int) by omega, Int.neg_tmod, Int.tmod_eq_emod_of_nonneg (by omega), Int.natAbs_neg, Int.natAbs_natCast]
      rfl
    rw [if_pos (by simpa using h0), e]
    generalize a.natAbs / u * u = x at *
    omega
  · have e : a.tmod u = (((a.natAbs % u : Nat)) : Int) := by
      have ea : a = ((a.natAbs : Nat) : Int) := by omega
      rw [Int.tmod_eq_emod_of_nonneg (by omega)]
      conv => lhs; rw [ea]
      rfl
    rw [if_neg (by simpa using h0), e]
    generalize a.natAbs / u * u = x at *
    omega
set_option maxHeartbeats 1000000 in
theorem rtrunc_ok {a p : Int} (ha : a.natAbs ≤ 999999999999999999) (h0 : -14 ≤ p) (h1 : p < 4) : Pure Tryd.prog 28 [.int .i64 a, .int .i64 p] (.int .i64 (truncP a (10 ^ (4 - p).toNat))) := by
  intro σ
  obtain ⟨k, hk⟩ : ∃ k : Nat, (4 - p).toNat = k := ⟨_, rfl⟩
  have e4 : (4 : Int) - p = k := by omega
  have hk0 : 0 < k := by omega
  have hk18 : k ≤ 18 := by omega
  rw [hk]
  have hdl : (Lib.decDigits a.natAbs).length ≤ 18 := dd_len 17 _ (by omega)
  have hdD : AllD (Lib.decDigits a.natAbs) := (dd_all _).1
  have hnv := nv_dd a.natAbs
  have hS := rsize_ok a ha
  have hD := rdigits_ok a.natAbs (by omega)
  have g1 : ¬ (4 : Int) ≤ p := by omega
  have g2 : ¬ p < -14 := by omega
  have hfin := trunc_val a ha (10 ^ k)
  have hlt := nv_lt hdD
  generalize Lib.decDigits a.natAbs = s at *
  refine a28 (by simp) ?_
  simp (disch := first | assumption | omega | (simp only [List.length_append, List.length_cons, List.length_nil]; omega)) only [go_sem, reduceCtorEq, Nat.reduceEqDiff, Nat.reduceAdd, Nat.reduceSub, Nat.reduceMul, Nat.reduceLeDiff, Int.reduceLT, Int.reduceLE, Int.reduceEq, ↓reduceIte, Int.reduceNeg, Int.reduceAdd, Int.reduceSub, Int.reduceMul, true_imp_iff, forall_const, Nat.mul_one, Int.reduceToNat, Nat.reducePow, Int.reducePow, Bool.true_and, Bool.false_and, Bool.and_false, g1, g2]
  refine hS.use ?_
  simp (disch := first | assumption | omega | (simp only [List.length_append, List.length_cons, List.length_nil]; omega)) only [go_sem, reduceCtorEq, Nat.reduceEqDiff, Nat.reduceAdd, Nat.reduceSub, Nat.reduceMul, Nat.reduceLeDiff, Int.reduceLT, Int.reduceLE, Int.reduceEq, ↓reduceIte, Int.reduceNeg, Int.reduceAdd, Int.reduceSub, Int.reduceMul, true_imp_iff, forall_const, Nat.mul_one, Int.reduceToNat, Nat.reducePow, Int.reducePow, Bool.true_and, Bool.false_and, Bool.and_false]
  refine hD.use ?_
  simp (disch := first | assumption | omega | (simp only [List.length_append, List.length_cons, List.length_nil]; omega)) only [go_sem, reduceCtorEq, Nat.reduceEqDiff, Nat.reduceAdd, Nat.reduceSub, Nat.reduceMul, Nat.reduceLeDiff, Int.reduceLT, Int.reduceLE, Int.reduceEq, ↓reduceIte, Int.reduceNeg, Int.reduceAdd, Int.reduceSub, Int.reduceMul, true_imp_iff, forall_const, Nat.mul_one, Int.reduceToNat, Nat.reducePow, Int.reducePow, Bool.true_and, Bool.false_and, Bool.and_false, e4]
  by_cases hle : s.length ≤ k
  · have hle' : (s.length : Int) ≤ k := by omega
    have : a.natAbs / 10 ^ k = 0 := Nat.div_eq_of_lt (by
      rw [← hnv]
      exact Nat.lt_of_lt_of_le hlt (Nat.pow_le_pow_right (by omega) hle))
    rw [this, Nat.zero_mul] at hfin
    have hz : truncP a (10 ^ k) = 0 := by
      unfold madeP at hfin
      rw [if_pos (by omega)] at hfin
      injection hfin with hfin
      rw [← hfin]
      split <;> rfl
    rw [hz]
    simp (disch := first | assumption | omega | (simp only [List.length_append, List.length_cons, List.length_nil]; omega)) only [go_sem, reduceCtorEq, Nat.reduceEqDiff, Nat.reduceAdd, Nat.reduceSub, Nat.reduceMul, Nat.reduceLeDiff, Int.reduceLT, Int.reduceLE, Int.reduceEq, ↓reduceIte, Int.reduceNeg, Int.reduceAdd, Int.reduceSub, Int.reduceMul, true_imp_iff, forall_const, Nat.mul_one, Int.reduceToNat, Nat.reducePow, Int.reducePow, Bool.true_and, Bool.false_and, Bool.and_false, hle']
    exact retC_by (by repeat' (first | exact Drop.refl _ | with_reducible refine Drop.off ?_ (by assumption))) (.refl _) ⟨rfl, rfl⟩
  have hle' : ¬ (s.length : Int) ≤ k := by omega
  obtain ⟨m, hm⟩ : ∃ m, s.length - k = m := ⟨_, rfl⟩
  have hml : s.length = m + k := by omega
  have hres := trunc_nv hdD (n := k) (by omega)
  rw [hm, hnv] at hres
  rw [← hres] at hfin
  have hV := value_ok (decide (a < 0)) (s.take m ++ List.replicate k 48) (allD_app (fun c hc => hdD c (List.mem_of_mem_take hc)) (allD_zeros k)) (by simp; omega)
  unfold valP at hV
  rw [hfin] at hV
  simp only [resAV, Option.getD_some] at hV
  generalize truncP a (10 ^ k) = V at *
  clear hres hfin hlt hdD hnv
  simp (disch := first | assumption | omega | (simp only [List.length_append, List.length_cons, List.length_nil]; omega)) only [go_sem, reduceCtorEq, Nat.reduceEqDiff, Nat.reduceAdd, Nat.reduceSub, Nat.reduceMul, Nat.reduceLeDiff, Int.reduceLT, Int.reduceLE, Int.reduceEq, ↓reduceIte, Int.reduceNeg, Int.reduceAdd, Int.reduceSub, Int.reduceMul, true_imp_iff, forall_const, Nat.mul_one, Int.reduceToNat, Nat.reducePow, Int.reducePow, Bool.true_and, Bool.false_and, Bool.and_false, hle']
  refine wp_loop_on (fun (j : Nat) a1 s2 => j ≤ k ∧ (a1 0 = .int .i64 a ∧ a1 5 = .str (s.take m ++ List.replicate j 48 ++ s.drop (m + j)) ∧ a1 6 = .int .i64 k ∧ a1 7 = .int .i64 j) ∧ s2 = σ) (fun j => k - j) 0 ⟨Nat.zero_le _, ?_, rfl⟩ ?_
  · simp (disch := first | assumption | omega | (simp only [List.length_append, List.length_cons, List.length_nil]; omega)) only [go_sem, reduceCtorEq, Nat.reduceEqDiff, Nat.reduceAdd, Nat.reduceSub, Nat.reduceMul, Nat.reduceLeDiff, Int.reduceLT, Int.reduceLE, Int.reduceEq, ↓reduceIte, Int.reduceNeg, Int.reduceAdd, Int.reduceSub, Int.reduceMul, true_imp_iff, forall_const, Nat.mul_one, Int.reduceToNat, Nat.reducePow, Int.reducePow, Bool.true_and, Bool.false_and, Bool.and_false]
    simp
  rintro j a1 s2 ⟨hj, hf, rfl⟩
  obtain ⟨T, hT⟩ : ∃ T, s.take m ++ List.replicate j 48 ++ s.drop (m + j) = T := ⟨_, rfl⟩
  have hTl : T.length = m + k := by rw [← hT]; simp; omega
  rw [hT] at hf
  by_cases hlt : j < k
  · have g3 : (j : Int) < k := by omega
    have e1 : (T.length : Int) - k = m := by omega
    have t1 : T.take (m + j) = s.take m ++ List.replicate j 48 := by
      rw [← hT, List.take_append_of_le_length (by simp; omega), List.take_of_length_le (by simp; omega)]
    have t2 : T.drop (m + j + 1) = s.drop (m + (j + 1)) := by
      rw [← hT, List.drop_append, List.drop_of_length_le (by simp; omega), List.nil_append, List.drop_drop]
      congr 1
      simp
      omega
    have g4 : (m : Int) + j ≤ T.length := by omega
    have g5 : (m : Int) + j + 1 ≤ T.length := by omega
    have n1 : ((m : Int) + j).toNat = m + j := by omega
    have n2 : ((m : Int) + j + 1).toNat = m + j + 1 := by omega
    have b1 : binS .add (s.take m ++ List.replicate j 48) [48] = some (.str (s.take m ++ List.replicate (j + 1) 48)) := by
      rw [binS_add (by simp; omega), List.replicate_succ', List.append_assoc]
    have b2 : binS .add (s.take m ++ List.replicate (j + 1) 48) (s.drop (m + (j + 1))) = some (.str (s.take m ++ List.replicate (j + 1) 48 ++ s.drop (m + (j + 1)))) := binS_add (by simp; omega)
    simp (disch := first | assumption | omega | (simp only [List.length_append, List.length_cons, List.length_nil]; omega)) only [go_sem, reduceCtorEq, Nat.reduceEqDiff, Nat.reduceAdd, Nat.reduceSub, Nat.reduceMul, Nat.reduceLeDiff, Int.reduceLT, Int.reduceLE, Int.reduceEq, ↓reduceIte, Int.reduceNeg, Int.reduceAdd, Int.reduceSub, Int.reduceMul, true_imp_iff, forall_const, Nat.mul_one, Int.reduceToNat, Nat.reducePow, Int.reducePow, Bool.true_and, Bool.false_and, Bool.and_false, hf, g3, e1, n1, n2, t1, t2, g4, g5, b1, b2, List.take_length]
    exact ⟨j + 1, by omega, by omega, rfl, rfl⟩
  · have g3 : ¬ (j : Int) < k := by omega
    obtain rfl : j = k := by omega
    have hTe : T = s.take m ++ List.replicate j 48 := by rw [← hT, List.drop_of_length_le (by omega), List.append_nil]
    rw [hTe] at hf
    simp (disch := first | assumption | omega | (simp only [List.length_append, List.length_cons, List.length_nil]; omega)) only [go_sem, reduceCtorEq, Nat.reduceEqDiff, Nat.reduceAdd, Nat.reduceSub, Nat.reduceMul, Nat.reduceLeDiff, Int.reduceLT, Int.reduceLE, Int.reduceEq, ↓reduceIte, Int.reduceNeg, Int.reduceAdd, Int.reduceSub, Int.reduceMul, true_imp_iff, forall_const, Nat.mul_one, Int.reduceToNat, Nat.reducePow, Int.reducePow, Bool.true_and, Bool.false_and, Bool.and_false, hf, g3]
    refine hV.use ?_
    simp (disch := first | assumption | omega | (simp only [List.length_append, List.length_cons, List.length_nil]; omega)) only [go_sem, reduceCtorEq, Nat.reduceEqDiff, Nat.reduceAdd, Nat.reduceSub, Nat.reduceMul, Nat.reduceLeDiff, Int.reduceLT, Int.reduceLE, Int.reduceEq, ↓reduceIte, Int.reduceNeg, Int.reduceAdd, Int.reduceSub, Int.reduceMul, true_imp_iff, forall_const, Nat.mul_one, Int.reduceToNat, Nat.reducePow, Int.reducePow, Bool.true_and, Bool.false_and, Bool.and_false]
    exact retC_by (by repeat' (first | exact Drop.refl _ | with_reducible refine Drop.off ?_ (by assumption))) (.refl _) ⟨rfl, rfl⟩
end Go.A
namespace Go.A
open Go.Proofs
set_option maxRecDepth 100000
set_option linter.unusedSimpArgs false
set_option linter.unusedVariables false

theorem rmod_ok {a b : Int} (ha : a.natAbs ≤ 999999999999999999) (hb : 0 < b) (hb2 : b ≤ 999999999999999999) : Pure Tryd.prog 50 [.int .i64 a, .int .i64 b] (.int .i64 (a % b)) := by
  intro σ
  have hl := emod_left (a := a) hb
  have hlt := Int.tmod_lt_of_pos a hb
  have hgt : -b < a.tmod b := by
    have := Int.tmod_lt_of_pos (-a) hb
    rw [Int.neg_tmod] at this
    omega
  have hs := Int.natAbs_tmod a b
  have hle : a.natAbs % b.natAbs ≤ a.natAbs := Nat.mod_le _ _
  have hdm := Int.mul_tdiv_add_tmod a b
  rw [Int.mul_comm] at hdm
  have g0 : b ≠ 0 := by omega
  have g1 : ¬ b < 0 := by omega
  have hq : decide (b < 0) = false := by simp; omega
  have hqb : (a.tdiv b).natAbs ≤ a.natAbs := by rw [Int.natAbs_tdiv]; exact Nat.div_le_self _ _
  rw [hq] at hl
  generalize a % b = R at *
  generalize hm : a.tmod b = m at *
  generalize hqq : a.tdiv b = q at *
  obtain ⟨Q, hQ⟩ : ∃ Q, q * b = Q := ⟨_, rfl⟩
  rw [hQ] at hdm
  have e0 : IntKind.i64.wrap q = q := by rw [IntKind.wrap_i64]; omega
  have e1 : IntKind.i64.wrap Q = Q := by rw [IntKind.wrap_i64]; omega
  have e2 : a - Q = m := by omega
  have e3 : IntKind.i64.wrap m = m := by rw [IntKind.wrap_i64]; omega
  refine a50 (by simp) ?_
  by_cases hn : m < 0
  · rw [if_pos ⟨by omega, by simp; exact hn⟩] at hl
    have e4 : IntKind.i64.wrap (m + b) = R := by rw [IntKind.wrap_i64]; omega
    simp (disch := first | assumption | omega | (simp only [List.length_append, List.length_cons, List.length_nil]; omega)) only [go_sem, reduceCtorEq, Nat.reduceEqDiff, Nat.reduceAdd, Nat.reduceSub, Nat.reduceMul, Nat.reduceLeDiff, Int.reduceLT, Int.reduceLE, Int.reduceEq, ↓reduceIte, Int.reduceNeg, Int.reduceAdd, Int.reduceSub, Int.reduceMul, true_imp_iff, forall_const, Nat.mul_one, Int.reduceToNat, Nat.reducePow, Int.reducePow, Bool.true_and, Bool.false_and, Bool.and_false, g0, g1, hb, hqq, hQ, e0, e1, e2, e3, hn, e4]
    exact retC_by (by repeat' (first | exact Drop.refl _ | with_reducible refine Drop.off ?_ (by assumption))) (.refl _) ⟨rfl, rfl⟩
  · rw [if_neg (by rintro ⟨_, h⟩; simp at h; omega)] at hl
    subst hl
    by_cases hp : 0 < m
    · simp (disch := first | assumption | omega | (simp only [List.length_append, List.length_cons, List.length_nil]; omega)) only [go_sem, reduceCtorEq, Nat.reduceEqDiff, Nat.reduceAdd, Nat.reduceSub, Nat.reduceMul, Nat.reduceLeDiff, Int.reduceLT, Int.reduceLE, Int.reduceEq, ↓reduceIte, Int.reduceNeg, Int.reduceAdd, Int.reduceSub, Int.reduceMul, true_imp_iff, forall_const, Nat.mul_one, Int.reduceToNat, Nat.reducePow, Int.reducePow, Bool.true_and, Bool.false_and, Bool.and_false, g0, g1, hb, hqq, hQ, e0, e1, e2, e3, hn, hp]
      exact retC_by (by repeat' (first | exact Drop.refl _ | with_reducible refine Drop.off ?_ (by assumption))) (.refl _) ⟨rfl, rfl⟩
    · simp (disch := first | assumption | omega | (simp only [List.length_append, List.length_cons, List.length_nil]; omega)) only [go_sem, reduceCtorEq, Nat.reduceEqDiff, Nat.reduceAdd, Nat.reduceSub, Nat.reduceMul, Nat.reduceLeDiff, Int.reduceLT, Int.reduceLE, Int.reduceEq, ↓reduceIte, Int.reduceNeg, Int.reduceAdd, Int.reduceSub, Int.reduceMul, true_imp_iff, forall_const, Nat.mul_one, Int.reduceToNat, Nat.reducePow, Int.reducePow, Bool.true_and, Bool.false_and, Bool.and_false, g0, g1, hb, hqq, hQ, e0, e1, e2, e3, hn, hp]
      exact retC_by (by repeat' (first | exact Drop.refl _ | with_reducible refine Drop.off ?_ (by assumption))) (.refl _) ⟨rfl, rfl⟩
theorem rfloor_ok {a b : Int} (ha : a.natAbs ≤ 999999999999999999) (hb : 0 < b) (hb2 : b ≤ 999999999999999999) : Pure Tryd.prog 30 [.int .i64 a, .int .i64 b] (resAV (fitP (a - a % b))) := by
  intro σ
  have h1 := Int.emod_nonneg a (Int.ne_of_gt hb)
  have h2 := Int.emod_lt_of_pos a hb
  have hM := rmod_ok ha hb hb2
  have hF := fit_ok (a - a % b)
  generalize a % b = m at *
  have e : IntKind.i64.wrap (a - m) = a - m := by rw [IntKind.wrap_i64]; omega
  simp only [resAV] at hF ⊢
  refine a30 (by simp) ?_
  simp (disch := first | assumption | omega | (simp only [List.length_append, List.length_cons, List.length_nil]; omega)) only [go_sem, reduceCtorEq, Nat.reduceEqDiff, Nat.reduceAdd, Nat.reduceSub, Nat.reduceMul, Nat.reduceLeDiff, Int.reduceLT, Int.reduceLE, Int.reduceEq, ↓reduceIte, Int.reduceNeg, Int.reduceAdd, Int.reduceSub, Int.reduceMul, true_imp_iff, forall_const, Nat.mul_one, Int.reduceToNat, Nat.reducePow, Int.reducePow, Bool.true_and, Bool.false_and, Bool.and_false]
  refine hM.use ?_
  simp (disch := first | assumption | omega | (simp only [List.length_append, List.length_cons, List.length_nil]; omega)) only [go_sem, reduceCtorEq, Nat.reduceEqDiff, Nat.reduceAdd, Nat.reduceSub, Nat.reduceMul, Nat.reduceLeDiff, Int.reduceLT, Int.reduceLE, Int.reduceEq, ↓reduceIte, Int.reduceNeg, Int.reduceAdd, Int.reduceSub, Int.reduceMul, true_imp_iff, forall_const, Nat.mul_one, Int.reduceToNat, Nat.reducePow, Int.reducePow, Bool.true_and, Bool.false_and, Bool.and_false, e]
  refine hF.use ?_
  simp (disch := first | assumption | omega | (simp only [List.length_append, List.length_cons, List.length_nil]; omega)) only [go_sem, reduceCtorEq, Nat.reduceEqDiff, Nat.reduceAdd, Nat.reduceSub, Nat.reduceMul, Nat.reduceLeDiff, Int.reduceLT, Int.reduceLE, Int.reduceEq, ↓reduceIte, Int.reduceNeg, Int.reduceAdd, Int.reduceSub, Int.reduceMul, true_imp_iff, forall_const, Nat.mul_one, Int.reduceToNat, Nat.reducePow, Int.reducePow, Bool.true_and, Bool.false_and, Bool.and_false]
  exact retC_by (by repeat' (first | exact Drop.refl _ | with_reducible refine Drop.off ?_ (by assumption))) (.refl _) ⟨rfl, rfl⟩
/-- Rounded up, or nothing. -/
def ceilP (a b : Int) : Option Int := if a % b = 0 then some a else fitP (a - a % b + b)
theorem rceil_ok {a b : Int} (ha : a.natAbs ≤ 999999999999999999) (hb : 0 < b) (hb2 : b ≤ 999999999999999999) : Pure Tryd.prog 31 [.int .i64 a, .int .i64 b] (resAV (ceilP a b)) := by
  intro σ
  have h1 := Int.emod_nonneg a (Int.ne_of_gt hb)
  have h2 := Int.emod_lt_of_pos a hb
  have hM := rmod_ok ha hb hb2
  have hF := fit_ok (a - a % b + b)
  unfold ceilP
  generalize a % b = m at *
  simp only [resAV] at hF ⊢
  refine a31 (by simp) ?_
  simp (disch := first | assumption | omega | (simp only [List.length_append, List.length_cons, List.length_nil]; omega)) only [go_sem, reduceCtorEq, Nat.reduceEqDiff, Nat.reduceAdd, Nat.reduceSub, Nat.reduceMul, Nat.reduceLeDiff, Int.reduceLT, Int.reduceLE, Int.reduceEq, ↓reduceIte, Int.reduceNeg, Int.reduceAdd, Int.reduceSub, Int.reduceMul, true_imp_iff, forall_const, Nat.mul_one, Int.reduceToNat, Nat.reducePow, Int.reducePow, Bool.true_and, Bool.false_and, Bool.and_false]
  refine hM.use ?_
  by_cases hm : m = 0
  · rw [if_pos hm]
    simp (disch := first | assumption | omega | (simp only [List.length_append, List.length_cons, List.length_nil]; omega)) only [go_sem, reduceCtorEq, Nat.reduceEqDiff, Nat.reduceAdd, Nat.reduceSub, Nat.reduceMul, Nat.reduceLeDiff, Int.reduceLT, Int.reduceLE, Int.reduceEq, ↓reduceIte, Int.reduceNeg, Int.reduceAdd, Int.reduceSub, Int.reduceMul, true_imp_iff, forall_const, Nat.mul_one, Int.reduceToNat, Nat.reducePow, Int.reducePow, Bool.true_and, Bool.false_and, Bool.and_false, hm]
    exact retC_by (by repeat' (first | exact Drop.refl _ | with_reducible refine Drop.off ?_ (by assumption))) (.refl _) ⟨rfl, rfl⟩
  · rw [if_neg hm]
    obtain ⟨c, hc⟩ : ∃ c, a - m + b = c := ⟨_, rfl⟩
    have e : IntKind.i64.wrap (a - m) = a - m := by rw [IntKind.wrap_i64]; omega
    rw [hc] at hF ⊢
    simp (disch := first | assumption | omega | (simp only [List.length_append, List.length_cons, List.length_nil]; omega)) only [go_sem, reduceCtorEq, Nat.reduceEqDiff, Nat.reduceAdd, Nat.reduceSub, Nat.reduceMul, Nat.reduceLeDiff, Int.reduceLT, Int.reduceLE, Int.reduceEq, ↓reduceIte, Int.reduceNeg, Int.reduceAdd, Int.reduceSub, Int.reduceMul, true_imp_iff, forall_const, Nat.mul_one, Int.reduceToNat, Nat.reducePow, Int.reducePow, Bool.true_and, Bool.false_and, Bool.and_false, hm, e, hc]
    refine hF.use ?_
    simp (disch := first | assumption | omega | (simp only [List.length_append, List.length_cons, List.length_nil]; omega)) only [go_sem, reduceCtorEq, Nat.reduceEqDiff, Nat.reduceAdd, Nat.reduceSub, Nat.reduceMul, Nat.reduceLeDiff, Int.reduceLT, Int.reduceLE, Int.reduceEq, ↓reduceIte, Int.reduceNeg, Int.reduceAdd, Int.reduceSub, Int.reduceMul, true_imp_iff, forall_const, Nat.mul_one, Int.reduceToNat, Nat.reducePow, Int.reducePow, Bool.true_and, Bool.false_and, Bool.and_false]
    exact retC_by (by repeat' (first | exact Drop.refl _ | with_reducible refine Drop.off ?_ (by assumption))) (.refl _) ⟨rfl, rfl⟩
theorem ceil_is {a b : Int} (ha : a.natAbs ≤ 999999999999999999) (hb : 0 < b) (hb2 : b ≤ 999999999999999999) : Pure Tryd.prog 18 [.int .i64 a, .int .i64 b] (resAV (ceilP a b)) := by
  have hC := ceil_ok ha hb hb2
  have hn := neg_emod_left (a := a) hb
  have h1 := Int.emod_nonneg a (b := b) (by omega)
  have h2 := Int.emod_lt_of_pos a (b := b) (by omega)
  rw [hn] at hC
  unfold ceilP
  simp only [resAV]
  unfold fitP at hC ⊢
  generalize a % b = m at *
  by_cases hm : m = 0
  · subst hm
    rw [if_pos rfl, Int.sub_zero, if_pos (by omega)] at hC
    rw [if_pos rfl]
    simp only [Option.getD_some, Option.isSome_some] at hC ⊢
    rw [show 0 - -a = a by omega] at hC
    exact hC
  · rw [if_neg hm] at hC ⊢
    by_cases hc : (-a - (b - m)).natAbs ≤ 999999999999999999
    · rw [if_pos hc] at hC
      rw [if_pos (by omega)]
      simp only [Option.getD_some, Option.isSome_some] at hC ⊢
      rw [show 0 - (-a - (b - m)) = a - m + b by omega] at hC
      exact hC
    · rw [if_neg hc] at hC
      rw [if_neg (by omega)]
      exact hC
theorem ceil_no {a b : Int} (ha : a.natAbs ≤ 999999999999999999) (h : b ≤ 0) : Pure Tryd.prog 18 [.int .i64 a, .int .i64 b] (resAV none) := by
  intro σ
  have hF := floor_no (a := 0 - a) h
  simp only [resAV, Option.getD_none, Option.isSome_none] at hF ⊢
  refine a18 (by simp) ?_
  simp (disch := first | assumption | omega | (simp only [List.length_append, List.length_cons, List.length_nil]; omega)) only [go_sem, reduceCtorEq, Nat.reduceEqDiff, Nat.reduceAdd, Nat.reduceSub, Nat.reduceMul, Nat.reduceLeDiff, Int.reduceLT, Int.reduceLE, Int.reduceEq, ↓reduceIte, Int.reduceNeg, Int.reduceAdd, Int.reduceSub, Int.reduceMul, true_imp_iff, forall_const, Nat.mul_one, Int.reduceToNat, Nat.reducePow, Int.reducePow, Bool.true_and, Bool.false_and, Bool.and_false]
  refine hF.use ?_
  simp (disch := first | assumption | omega | (simp only [List.length_append, List.length_cons, List.length_nil]; omega)) only [go_sem, reduceCtorEq, Nat.reduceEqDiff, Nat.reduceAdd, Nat.reduceSub, Nat.reduceMul, Nat.reduceLeDiff, Int.reduceLT, Int.reduceLE, Int.reduceEq, ↓reduceIte, Int.reduceNeg, Int.reduceAdd, Int.reduceSub, Int.reduceMul, true_imp_iff, forall_const, Nat.mul_one, Int.reduceToNat, Nat.reducePow, Int.reducePow, Bool.true_and, Bool.false_and, Bool.and_false]
  exact retC_by (by repeat' (first | exact Drop.refl _ | with_reducible refine Drop.off ?_ (by assumption))) (.refl _) ⟨rfl, rfl⟩
theorem whole_ok {a : Int} (ha : a.natAbs ≤ 999999999999999999) : Pure Tryd.prog 33 [.int .i64 a] (.int .i64 (a.tdiv 10000)) := by
  intro σ
  have hqb : (a.tdiv 10000).natAbs ≤ a.natAbs := by rw [Int.natAbs_tdiv]; exact Nat.div_le_self _ _
  have e : IntKind.i64.wrap (a.tdiv 10000) = a.tdiv 10000 := by rw [IntKind.wrap_i64]; omega
  refine a33 (by simp) ?_
  simp (disch := first | assumption | omega | (simp only [List.length_append, List.length_cons, List.length_nil]; omega)) only [go_sem, reduceCtorEq, Nat.reduceEqDiff, Nat.reduceAdd, Nat.reduceSub, Nat.reduceMul, Nat.reduceLeDiff, Int.reduceLT, Int.reduceLE, Int.reduceEq, ↓reduceIte, Int.reduceNeg, Int.reduceAdd, Int.reduceSub, Int.reduceMul, true_imp_iff, forall_const, Nat.mul_one, Int.reduceToNat, Nat.reducePow, Int.reducePow, Bool.true_and, Bool.false_and, Bool.and_false, e]
  exact retC_by (by repeat' (first | exact Drop.refl _ | with_reducible refine Drop.off ?_ (by assumption))) (.refl _) ⟨rfl, rfl⟩
theorem round_all {σ : ASt} (hT : Tens σ) {a : Int} (p : Int) (ha : a.natAbs ≤ 999999999999999999) : ∃ o, ACalls Tryd.prog 13 [.int .i64 a, .int .i64 p] σ (fun v σ' => v = resAV o ∧ σ' = σ) ∧ Pure Tryd.prog 26 [.int .i64 a, .int .i64 p] (resAV o) := by
  by_cases h1 : p < -14
  · exact ⟨some 0, round_lo h1 σ, rround_lo h1⟩
  · by_cases h2 : 4 ≤ p
    · exact ⟨some a, round_no h2 σ, rround_hi h2⟩
    · exact ⟨_, round_ok hT ha (by omega) (by omega), rround_ok ha (by omega) (by omega)⟩
theorem trunc_all {σ : ASt} (hT : Tens σ) {a : Int} (p : Int) (ha : a.natAbs ≤ 999999999999999999) : ∃ t, ACalls Tryd.prog 27 [.int .i64 a, .int .i64 p] σ (fun v σ' => v = .int .i64 t ∧ σ' = σ) ∧ Pure Tryd.prog 28 [.int .i64 a, .int .i64 p] (.int .i64 t) := by
  by_cases h1 : p < -14
  · exact ⟨0, trunc_lo h1 σ, rtrunc_lo h1⟩
  · by_cases h2 : 4 ≤ p
    · exact ⟨a, trunc_hi h2 σ, rtrunc_hi h2⟩
    · exact ⟨_, trunc_ok hT ha (by omega) (by omega), rtrunc_ok ha (by omega) (by omega)⟩
set_option maxHeartbeats 1000000 in
theorem DeciRounds_any {σ : ASt} (h : Tab σ) (hT : Tens σ) (a b p : Int) : ACalls Tryd.prog 8 [.int .i64 a, .int .i64 b, .int .i64 p] σ fun v σ' => v = .bool true ∧ σ' = σ := by
  have hA := dawake_ok h hT
  refine a8 (by simp) ?_
  simp (disch := first | assumption | omega | (simp only [List.length_append, List.length_cons, List.length_nil]; omega)) only [go_sem, reduceCtorEq, Nat.reduceEqDiff, Nat.reduceAdd, Nat.reduceSub, Nat.reduceMul, Nat.reduceLeDiff, Int.reduceLT, Int.reduceLE, Int.reduceEq, ↓reduceIte, Int.reduceNeg, Int.reduceAdd, Int.reduceSub, Int.reduceMul, true_imp_iff, forall_const, Nat.mul_one, Int.reduceToNat, Nat.reducePow, Int.reducePow, Bool.true_and, Bool.false_and, Bool.and_false]
  refine (good_ok a).use ?_
  by_cases hg : a.natAbs ≤ 999999999999999999
  · simp (disch := first | assumption | omega | (simp only [List.length_append, List.length_cons, List.length_nil]; omega)) only [go_sem, reduceCtorEq, Nat.reduceEqDiff, Nat.reduceAdd, Nat.reduceSub, Nat.reduceMul, Nat.reduceLeDiff, Int.reduceLT, Int.reduceLE, Int.reduceEq, ↓reduceIte, Int.reduceNeg, Int.reduceAdd, Int.reduceSub, Int.reduceMul, true_imp_iff, forall_const, Nat.mul_one, Int.reduceToNat, Nat.reducePow, Int.reducePow, Bool.true_and, Bool.false_and, Bool.and_false, hg]
    refine (good_ok b).use ?_
    by_cases hg2 : b.natAbs ≤ 999999999999999999
    · obtain ⟨o, hR, hRr⟩ := round_all hT p hg
      obtain ⟨t, hU, hUr⟩ := trunc_all hT p hg
      have hAb := abs_ok a (by omega) (by omega)
      have hSz := rsize_ok a hg
      have eS : IntKind.i64.wrap ((a.natAbs : Nat) : Int) = ((a.natAbs : Nat) : Int) := by rw [IntKind.wrap_i64]; omega
      simp only [resAV] at hR hRr
      have hs1 := same_ok (o.getD 0) o.isSome (o.getD 0) o.isSome
      rw [decide_eq_true ⟨rfl, rfl⟩] at hs1
      generalize o.getD 0 = x at *
      generalize o.isSome = i at *
      simp (disch := first | assumption | omega | (simp only [List.length_append, List.length_cons, List.length_nil]; omega)) only [go_sem, reduceCtorEq, Nat.reduceEqDiff, Nat.reduceAdd, Nat.reduceSub, Nat.reduceMul, Nat.reduceLeDiff, Int.reduceLT, Int.reduceLE, Int.reduceEq, ↓reduceIte, Int.reduceNeg, Int.reduceAdd, Int.reduceSub, Int.reduceMul, true_imp_iff, forall_const, Nat.mul_one, Int.reduceToNat, Nat.reducePow, Int.reducePow, Bool.true_and, Bool.false_and, Bool.and_false, hg2]
      refine hR.mono ?_
      rintro v σ' ⟨rfl, rfl⟩
      simp (disch := first | assumption | omega | (simp only [List.length_append, List.length_cons, List.length_nil]; omega)) only [go_sem, reduceCtorEq, Nat.reduceEqDiff, Nat.reduceAdd, Nat.reduceSub, Nat.reduceMul, Nat.reduceLeDiff, Int.reduceLT, Int.reduceLE, Int.reduceEq, ↓reduceIte, Int.reduceNeg, Int.reduceAdd, Int.reduceSub, Int.reduceMul, true_imp_iff, forall_const, Nat.mul_one, Int.reduceToNat, Nat.reducePow, Int.reducePow, Bool.true_and, Bool.false_and, Bool.and_false]
      refine hRr.use ?_
      simp (disch := first | assumption | omega | (simp only [List.length_append, List.length_cons, List.length_nil]; omega)) only [go_sem, reduceCtorEq, Nat.reduceEqDiff, Nat.reduceAdd, Nat.reduceSub, Nat.reduceMul, Nat.reduceLeDiff, Int.reduceLT, Int.reduceLE, Int.reduceEq, ↓reduceIte, Int.reduceNeg, Int.reduceAdd, Int.reduceSub, Int.reduceMul, true_imp_iff, forall_const, Nat.mul_one, Int.reduceToNat, Nat.reducePow, Int.reducePow, Bool.true_and, Bool.false_and, Bool.and_false]
      refine hA.mono ?_
      rintro v σ' ⟨rfl, rfl⟩
      simp (disch := first | assumption | omega | (simp only [List.length_append, List.length_cons, List.length_nil]; omega)) only [go_sem, reduceCtorEq, Nat.reduceEqDiff, Nat.reduceAdd, Nat.reduceSub, Nat.reduceMul, Nat.reduceLeDiff, Int.reduceLT, Int.reduceLE, Int.reduceEq, ↓reduceIte, Int.reduceNeg, Int.reduceAdd, Int.reduceSub, Int.reduceMul, true_imp_iff, forall_const, Nat.mul_one, Int.reduceToNat, Nat.reducePow, Int.reducePow, Bool.true_and, Bool.false_and, Bool.and_false]
      refine hs1.use ?_
      simp (disch := first | assumption | omega | (simp only [List.length_append, List.length_cons, List.length_nil]; omega)) only [go_sem, reduceCtorEq, Nat.reduceEqDiff, Nat.reduceAdd, Nat.reduceSub, Nat.reduceMul, Nat.reduceLeDiff, Int.reduceLT, Int.reduceLE, Int.reduceEq, ↓reduceIte, Int.reduceNeg, Int.reduceAdd, Int.reduceSub, Int.reduceMul, true_imp_iff, forall_const, Nat.mul_one, Int.reduceToNat, Nat.reducePow, Int.reducePow, Bool.true_and, Bool.false_and, Bool.and_false]
      refine hU.mono ?_
      rintro v σ' ⟨rfl, rfl⟩
      simp (disch := first | assumption | omega | (simp only [List.length_append, List.length_cons, List.length_nil]; omega)) only [go_sem, reduceCtorEq, Nat.reduceEqDiff, Nat.reduceAdd, Nat.reduceSub, Nat.reduceMul, Nat.reduceLeDiff, Int.reduceLT, Int.reduceLE, Int.reduceEq, ↓reduceIte, Int.reduceNeg, Int.reduceAdd, Int.reduceSub, Int.reduceMul, true_imp_iff, forall_const, Nat.mul_one, Int.reduceToNat, Nat.reducePow, Int.reducePow, Bool.true_and, Bool.false_and, Bool.and_false]
      refine hUr.use ?_
      simp (disch := first | assumption | omega | (simp only [List.length_append, List.length_cons, List.length_nil]; omega)) only [go_sem, reduceCtorEq, Nat.reduceEqDiff, Nat.reduceAdd, Nat.reduceSub, Nat.reduceMul, Nat.reduceLeDiff, Int.reduceLT, Int.reduceLE, Int.reduceEq, ↓reduceIte, Int.reduceNeg, Int.reduceAdd, Int.reduceSub, Int.reduceMul, true_imp_iff, forall_const, Nat.mul_one, Int.reduceToNat, Nat.reducePow, Int.reducePow, Bool.true_and, Bool.false_and, Bool.and_false]
      refine hAb.use ?_
      simp (disch := first | assumption | omega | (simp only [List.length_append, List.length_cons, List.length_nil]; omega)) only [go_sem, reduceCtorEq, Nat.reduceEqDiff, Nat.reduceAdd, Nat.reduceSub, Nat.reduceMul, Nat.reduceLeDiff, Int.reduceLT, Int.reduceLE, Int.reduceEq, ↓reduceIte, Int.reduceNeg, Int.reduceAdd, Int.reduceSub, Int.reduceMul, true_imp_iff, forall_const, Nat.mul_one, Int.reduceToNat, Nat.reducePow, Int.reducePow, Bool.true_and, Bool.false_and, Bool.and_false]
      refine hSz.use ?_
      simp (disch := first | assumption | omega | (simp only [List.length_append, List.length_cons, List.length_nil]; omega)) only [go_sem, reduceCtorEq, Nat.reduceEqDiff, Nat.reduceAdd, Nat.reduceSub, Nat.reduceMul, Nat.reduceLeDiff, Int.reduceLT, Int.reduceLE, Int.reduceEq, ↓reduceIte, Int.reduceNeg, Int.reduceAdd, Int.reduceSub, Int.reduceMul, true_imp_iff, forall_const, Nat.mul_one, Int.reduceToNat, Nat.reducePow, Int.reducePow, Bool.true_and, Bool.false_and, Bool.and_false, eS]
      by_cases hb : b ≤ 0
      · have hF := floor_no (a := a) hb
        have hC := ceil_no (a := a) hg hb
        simp only [resAV, Option.getD_none, Option.isSome_none] at hF hC
        refine hF.use ?_
        simp (disch := first | assumption | omega | (simp only [List.length_append, List.length_cons, List.length_nil]; omega)) only [go_sem, reduceCtorEq, Nat.reduceEqDiff, Nat.reduceAdd, Nat.reduceSub, Nat.reduceMul, Nat.reduceLeDiff, Int.reduceLT, Int.reduceLE, Int.reduceEq, ↓reduceIte, Int.reduceNeg, Int.reduceAdd, Int.reduceSub, Int.reduceMul, true_imp_iff, forall_const, Nat.mul_one, Int.reduceToNat, Nat.reducePow, Int.reducePow, Bool.true_and, Bool.false_and, Bool.and_false]
        refine hC.use ?_
        simp (disch := first | assumption | omega | (simp only [List.length_append, List.length_cons, List.length_nil]; omega)) only [go_sem, reduceCtorEq, Nat.reduceEqDiff, Nat.reduceAdd, Nat.reduceSub, Nat.reduceMul, Nat.reduceLeDiff, Int.reduceLT, Int.reduceLE, Int.reduceEq, ↓reduceIte, Int.reduceNeg, Int.reduceAdd, Int.reduceSub, Int.reduceMul, true_imp_iff, forall_const, Nat.mul_one, Int.reduceToNat, Nat.reducePow, Int.reducePow, Bool.true_and, Bool.false_and, Bool.and_false, hb]
        exact retC_by (by repeat' (first | exact Drop.refl _ | with_reducible refine Drop.off ?_ (by assumption))) (.refl _) ⟨rfl, rfl⟩
      · have hF := floor_ok hg (b := b) (by omega) (by omega)
        have hFr := rfloor_ok hg (b := b) (by omega) (by omega)
        have hC := ceil_is hg (b := b) (by omega) (by omega)
        have hCr := rceil_ok hg (b := b) (by omega) (by omega)
        have hSg := sign_ok a
        have hW := whole_ok hg
        have hI := isInt_ok a
        simp only [resAV] at hF hFr hC hCr
        generalize fitP (a - a % b) = f at *
        generalize ceilP a b = g at *
        have hs2 := same_ok (f.getD 0) f.isSome (f.getD 0) f.isSome
        have hs3 := same_ok (g.getD 0) g.isSome (g.getD 0) g.isSome
        rw [decide_eq_true ⟨rfl, rfl⟩] at hs2 hs3
        generalize f.getD 0 = fx at *
        generalize f.isSome = fi at *
        generalize g.getD 0 = gx at *
        generalize g.isSome = gi at *
        refine hF.use ?_
        simp (disch := first | assumption | omega | (simp only [List.length_append, List.length_cons, List.length_nil]; omega)) only [go_sem, reduceCtorEq, Nat.reduceEqDiff, Nat.reduceAdd, Nat.reduceSub, Nat.reduceMul, Nat.reduceLeDiff, Int.reduceLT, Int.reduceLE, Int.reduceEq, ↓reduceIte, Int.reduceNeg, Int.reduceAdd, Int.reduceSub, Int.reduceMul, true_imp_iff, forall_const, Nat.mul_one, Int.reduceToNat, Nat.reducePow, Int.reducePow, Bool.true_and, Bool.false_and, Bool.and_false]
        refine hC.use ?_
        simp (disch := first | assumption | omega | (simp only [List.length_append, List.length_cons, List.length_nil]; omega)) only [go_sem, reduceCtorEq, Nat.reduceEqDiff, Nat.reduceAdd, Nat.reduceSub, Nat.reduceMul, Nat.reduceLeDiff, Int.reduceLT, Int.reduceLE, Int.reduceEq, ↓reduceIte, Int.reduceNeg, Int.reduceAdd, Int.reduceSub, Int.reduceMul, true_imp_iff, forall_const, Nat.mul_one, Int.reduceToNat, Nat.reducePow, Int.reducePow, Bool.true_and, Bool.false_and, Bool.and_false, hb]
        refine hFr.use ?_
        simp (disch := first | assumption | omega | (simp only [List.length_append, List.length_cons, List.length_nil]; omega)) only [go_sem, reduceCtorEq, Nat.reduceEqDiff, Nat.reduceAdd, Nat.reduceSub, Nat.reduceMul, Nat.reduceLeDiff, Int.reduceLT, Int.reduceLE, Int.reduceEq, ↓reduceIte, Int.reduceNeg, Int.reduceAdd, Int.reduceSub, Int.reduceMul, true_imp_iff, forall_const, Nat.mul_one, Int.reduceToNat, Nat.reducePow, Int.reducePow, Bool.true_and, Bool.false_and, Bool.and_false]
        refine hs2.use ?_
        simp (disch := first | assumption | omega | (simp only [List.length_append, List.length_cons, List.length_nil]; omega)) only [go_sem, reduceCtorEq, Nat.reduceEqDiff, Nat.reduceAdd, Nat.reduceSub, Nat.reduceMul, Nat.reduceLeDiff, Int.reduceLT, Int.reduceLE, Int.reduceEq, ↓reduceIte, Int.reduceNeg, Int.reduceAdd, Int.reduceSub, Int.reduceMul, true_imp_iff, forall_const, Nat.mul_one, Int.reduceToNat, Nat.reducePow, Int.reducePow, Bool.true_and, Bool.false_and, Bool.and_false]
        refine hCr.use ?_
        simp (disch := first | assumption | omega | (simp only [List.length_append, List.length_cons, List.length_nil]; omega)) only [go_sem, reduceCtorEq, Nat.reduceEqDiff, Nat.reduceAdd, Nat.reduceSub, Nat.reduceMul, Nat.reduceLeDiff, Int.reduceLT, Int.reduceLE, Int.reduceEq, ↓reduceIte, Int.reduceNeg, Int.reduceAdd, Int.reduceSub, Int.reduceMul, true_imp_iff, forall_const, Nat.mul_one, Int.reduceToNat, Nat.reducePow, Int.reducePow, Bool.true_and, Bool.false_and, Bool.and_false]
        have eW : IntKind.i64.wrap (a.tdiv 10000) = a.tdiv 10000 := by
          have hqb : (a.tdiv 10000).natAbs ≤ a.natAbs := by rw [Int.natAbs_tdiv]; exact Nat.div_le_self _ _
          rw [IntKind.wrap_i64]; omega
        by_cases h1 : a < 0
        · rw [if_pos h1] at hSg
          have h2 : ¬ 0 < a := by omega
          simp (disch := first | assumption | omega | (simp only [List.length_append, List.length_cons, List.length_nil]; omega)) only [go_sem, reduceCtorEq, Nat.reduceEqDiff, Nat.reduceAdd, Nat.reduceSub, Nat.reduceMul, Nat.reduceLeDiff, Int.reduceLT, Int.reduceLE, Int.reduceEq, ↓reduceIte, Int.reduceNeg, Int.reduceAdd, Int.reduceSub, Int.reduceMul, true_imp_iff, forall_const, Nat.mul_one, Int.reduceToNat, Nat.reducePow, Int.reducePow, Bool.true_and, Bool.false_and, Bool.and_false, h1, h2]
          refine hs3.use ?_
          simp (disch := first | assumption | omega | (simp only [List.length_append, List.length_cons, List.length_nil]; omega)) only [go_sem, reduceCtorEq, Nat.reduceEqDiff, Nat.reduceAdd, Nat.reduceSub, Nat.reduceMul, Nat.reduceLeDiff, Int.reduceLT, Int.reduceLE, Int.reduceEq, ↓reduceIte, Int.reduceNeg, Int.reduceAdd, Int.reduceSub, Int.reduceMul, true_imp_iff, forall_const, Nat.mul_one, Int.reduceToNat, Nat.reducePow, Int.reducePow, Bool.true_and, Bool.false_and, Bool.and_false]
          refine hSg.use ?_
          simp (disch := first | assumption | omega | (simp only [List.length_append, List.length_cons, List.length_nil]; omega)) only [go_sem, reduceCtorEq, Nat.reduceEqDiff, Nat.reduceAdd, Nat.reduceSub, Nat.reduceMul, Nat.reduceLeDiff, Int.reduceLT, Int.reduceLE, Int.reduceEq, ↓reduceIte, Int.reduceNeg, Int.reduceAdd, Int.reduceSub, Int.reduceMul, true_imp_iff, forall_const, Nat.mul_one, Int.reduceToNat, Nat.reducePow, Int.reducePow, Bool.true_and, Bool.false_and, Bool.and_false]
          refine hW.use ?_
          simp (disch := first | assumption | omega | (simp only [List.length_append, List.length_cons, List.length_nil]; omega)) only [go_sem, reduceCtorEq, Nat.reduceEqDiff, Nat.reduceAdd, Nat.reduceSub, Nat.reduceMul, Nat.reduceLeDiff, Int.reduceLT, Int.reduceLE, Int.reduceEq, ↓reduceIte, Int.reduceNeg, Int.reduceAdd, Int.reduceSub, Int.reduceMul, true_imp_iff, forall_const, Nat.mul_one, Int.reduceToNat, Nat.reducePow, Int.reducePow, Bool.true_and, Bool.false_and, Bool.and_false, eW]
          refine hI.use ?_
          simp (disch := first | assumption | omega | (simp only [List.length_append, List.length_cons, List.length_nil]; omega)) only [go_sem, reduceCtorEq, Nat.reduceEqDiff, Nat.reduceAdd, Nat.reduceSub, Nat.reduceMul, Nat.reduceLeDiff, Int.reduceLT, Int.reduceLE, Int.reduceEq, ↓reduceIte, Int.reduceNeg, Int.reduceAdd, Int.reduceSub, Int.reduceMul, true_imp_iff, forall_const, Nat.mul_one, Int.reduceToNat, Nat.reducePow, Int.reducePow, Bool.true_and, Bool.false_and, Bool.and_false]
          exact retC_by (by repeat' (first | exact Drop.refl _ | with_reducible refine Drop.off ?_ (by assumption))) (.refl _) ⟨rfl, rfl⟩
        · rw [if_neg h1] at hSg
          by_cases h2 : 0 < a
          · rw [if_pos h2] at hSg
            simp (disch := first | assumption | omega | (simp only [List.length_append, List.length_cons, List.length_nil]; omega)) only [go_sem, reduceCtorEq, Nat.reduceEqDiff, Nat.reduceAdd, Nat.reduceSub, Nat.reduceMul, Nat.reduceLeDiff, Int.reduceLT, Int.reduceLE, Int.reduceEq, ↓reduceIte, Int.reduceNeg, Int.reduceAdd, Int.reduceSub, Int.reduceMul, true_imp_iff, forall_const, Nat.mul_one, Int.reduceToNat, Nat.reducePow, Int.reducePow, Bool.true_and, Bool.false_and, Bool.and_false, h1, h2]
            refine hs3.use ?_
            simp (disch := first | assumption | omega | (simp only [List.length_append, List.length_cons, List.length_nil]; omega)) only [go_sem, reduceCtorEq, Nat.reduceEqDiff, Nat.reduceAdd, Nat.reduceSub, Nat.reduceMul, Nat.reduceLeDiff, Int.reduceLT, Int.reduceLE, Int.reduceEq, ↓reduceIte, Int.reduceNeg, Int.reduceAdd, Int.reduceSub, Int.reduceMul, true_imp_iff, forall_const, Nat.mul_one, Int.reduceToNat, Nat.reducePow, Int.reducePow, Bool.true_and, Bool.false_and, Bool.and_false]
            refine hSg.use ?_
            simp (disch := first | assumption | omega | (simp only [List.length_append, List.length_cons, List.length_nil]; omega)) only [go_sem, reduceCtorEq, Nat.reduceEqDiff, Nat.reduceAdd, Nat.reduceSub, Nat.reduceMul, Nat.reduceLeDiff, Int.reduceLT, Int.reduceLE, Int.reduceEq, ↓reduceIte, Int.reduceNeg, Int.reduceAdd, Int.reduceSub, Int.reduceMul, true_imp_iff, forall_const, Nat.mul_one, Int.reduceToNat, Nat.reducePow, Int.reducePow, Bool.true_and, Bool.false_and, Bool.and_false]
            refine hW.use ?_
            simp (disch := first | assumption | omega | (simp only [List.length_append, List.length_cons, List.length_nil]; omega)) only [go_sem, reduceCtorEq, Nat.reduceEqDiff, Nat.reduceAdd, Nat.reduceSub, Nat.reduceMul, Nat.reduceLeDiff, Int.reduceLT, Int.reduceLE, Int.reduceEq, ↓reduceIte, Int.reduceNeg, Int.reduceAdd, Int.reduceSub, Int.reduceMul, true_imp_iff, forall_const, Nat.mul_one, Int.reduceToNat, Nat.reducePow, Int.reducePow, Bool.true_and, Bool.false_and, Bool.and_false, eW]
            refine hI.use ?_
            simp (disch := first | assumption | omega | (simp only [List.length_append, List.length_cons, List.length_nil]; omega)) only [go_sem, reduceCtorEq, Nat.reduceEqDiff, Nat.reduceAdd, Nat.reduceSub, Nat.reduceMul, Nat.reduceLeDiff, Int.reduceLT, Int.reduceLE, Int.reduceEq, ↓reduceIte, Int.reduceNeg, Int.reduceAdd, Int.reduceSub, Int.reduceMul, true_imp_iff, forall_const, Nat.mul_one, Int.reduceToNat, Nat.reducePow, Int.reducePow, Bool.true_and, Bool.false_and, Bool.and_false]
            exact retC_by (by repeat' (first | exact Drop.refl _ | with_reducible refine Drop.off ?_ (by assumption))) (.refl _) ⟨rfl, rfl⟩
          · rw [if_neg h2] at hSg
            simp (disch := first | assumption | omega | (simp only [List.length_append, List.length_cons, List.length_nil]; omega)) only [go_sem, reduceCtorEq, Nat.reduceEqDiff, Nat.reduceAdd, Nat.reduceSub, Nat.reduceMul, Nat.reduceLeDiff, Int.reduceLT, Int.reduceLE, Int.reduceEq, ↓reduceIte, Int.reduceNeg, Int.reduceAdd, Int.reduceSub, Int.reduceMul, true_imp_iff, forall_const, Nat.mul_one, Int.reduceToNat, Nat.reducePow, Int.reducePow, Bool.true_and, Bool.false_and, Bool.and_false, h1, h2]
            refine hs3.use ?_
            simp (disch := first | assumption | omega | (simp only [List.length_append, List.length_cons, List.length_nil]; omega)) only [go_sem, reduceCtorEq, Nat.reduceEqDiff, Nat.reduceAdd, Nat.reduceSub, Nat.reduceMul, Nat.reduceLeDiff, Int.reduceLT, Int.reduceLE, Int.reduceEq, ↓reduceIte, Int.reduceNeg, Int.reduceAdd, Int.reduceSub, Int.reduceMul, true_imp_iff, forall_const, Nat.mul_one, Int.reduceToNat, Nat.reducePow, Int.reducePow, Bool.true_and, Bool.false_and, Bool.and_false]
            refine hSg.use ?_
            simp (disch := first | assumption | omega | (simp only [List.length_append, List.length_cons, List.length_nil]; omega)) only [go_sem, reduceCtorEq, Nat.reduceEqDiff, Nat.reduceAdd, Nat.reduceSub, Nat.reduceMul, Nat.reduceLeDiff, Int.reduceLT, Int.reduceLE, Int.reduceEq, ↓reduceIte, Int.reduceNeg, Int.reduceAdd, Int.reduceSub, Int.reduceMul, true_imp_iff, forall_const, Nat.mul_one, Int.reduceToNat, Nat.reducePow, Int.reducePow, Bool.true_and, Bool.false_and, Bool.and_false]
            refine hW.use ?_
            simp (disch := first | assumption | omega | (simp only [List.length_append, List.length_cons, List.length_nil]; omega)) only [go_sem, reduceCtorEq, Nat.reduceEqDiff, Nat.reduceAdd, Nat.reduceSub, Nat.reduceMul, Nat.reduceLeDiff, Int.reduceLT, Int.reduceLE, Int.reduceEq, ↓reduceIte, Int.reduceNeg, Int.reduceAdd, Int.reduceSub, Int.reduceMul, true_imp_iff, forall_const, Nat.mul_one, Int.reduceToNat, Nat.reducePow, Int.reducePow, Bool.true_and, Bool.false_and, Bool.and_false, eW]
            refine hI.use ?_
            simp (disch := first | assumption | omega | (simp only [List.length_append, List.length_cons, List.length_nil]; omega)) only [go_sem, reduceCtorEq, Nat.reduceEqDiff, Nat.reduceAdd, Nat.reduceSub, Nat.reduceMul, Nat.reduceLeDiff, Int.reduceLT, Int.reduceLE, Int.reduceEq, ↓reduceIte, Int.reduceNeg, Int.reduceAdd, Int.reduceSub, Int.reduceMul, true_imp_iff, forall_const, Nat.mul_one, Int.reduceToNat, Nat.reducePow, Int.reducePow, Bool.true_and, Bool.false_and, Bool.and_false]
            exact retC_by (by repeat' (first | exact Drop.refl _ | with_reducible refine Drop.off ?_ (by assumption))) (.refl _) ⟨rfl, rfl⟩
    · simp (disch := first | assumption | omega | (simp only [List.length_append, List.length_cons, List.length_nil]; omega)) only [go_sem, reduceCtorEq, Nat.reduceEqDiff, Nat.reduceAdd, Nat.reduceSub, Nat.reduceMul, Nat.reduceLeDiff, Int.reduceLT, Int.reduceLE, Int.reduceEq, ↓reduceIte, Int.reduceNeg, Int.reduceAdd, Int.reduceSub, Int.reduceMul, true_imp_iff, forall_const, Nat.mul_one, Int.reduceToNat, Nat.reducePow, Int.reducePow, Bool.true_and, Bool.false_and, Bool.and_false, hg2]
      refine hA.mono ?_
      rintro v σ' ⟨rfl, rfl⟩
      simp (disch := first | assumption | omega | (simp only [List.length_append, List.length_cons, List.length_nil]; omega)) only [go_sem, reduceCtorEq, Nat.reduceEqDiff, Nat.reduceAdd, Nat.reduceSub, Nat.reduceMul, Nat.reduceLeDiff, Int.reduceLT, Int.reduceLE, Int.reduceEq, ↓reduceIte, Int.reduceNeg, Int.reduceAdd, Int.reduceSub, Int.reduceMul, true_imp_iff, forall_const, Nat.mul_one, Int.reduceToNat, Nat.reducePow, Int.reducePow, Bool.true_and, Bool.false_and, Bool.and_false]
      exact retC_by (by repeat' (first | exact Drop.refl _ | with_reducible refine Drop.off ?_ (by assumption))) (.refl _) ⟨rfl, rfl⟩
  · simp (disch := first | assumption | omega | (simp only [List.length_append, List.length_cons, List.length_nil]; omega)) only [go_sem, reduceCtorEq, Nat.reduceEqDiff, Nat.reduceAdd, Nat.reduceSub, Nat.reduceMul, Nat.reduceLeDiff, Int.reduceLT, Int.reduceLE, Int.reduceEq, ↓reduceIte, Int.reduceNeg, Int.reduceAdd, Int.reduceSub, Int.reduceMul, true_imp_iff, forall_const, Nat.mul_one, Int.reduceToNat, Nat.reducePow, Int.reducePow, Bool.true_and, Bool.false_and, Bool.and_false, hg]
    refine hA.mono ?_
    rintro v σ' ⟨rfl, rfl⟩
    simp (disch := first | assumption | omega | (simp only [List.length_append, List.length_cons, List.length_nil]; omega)) only [go_sem, reduceCtorEq, Nat.reduceEqDiff, Nat.reduceAdd, Nat.reduceSub, Nat.reduceMul, Nat.reduceLeDiff, Int.reduceLT, Int.reduceLE, Int.reduceEq, ↓reduceIte, Int.reduceNeg, Int.reduceAdd, Int.reduceSub, Int.reduceMul, true_imp_iff, forall_const, Nat.mul_one, Int.reduceToNat, Nat.reducePow, Int.reducePow, Bool.true_and, Bool.false_and, Bool.and_false]
    exact retC_by (by repeat' (first | exact Drop.refl _ | with_reducible refine Drop.off ?_ (by assumption))) (.refl _) ⟨rfl, rfl⟩
end Go.A
