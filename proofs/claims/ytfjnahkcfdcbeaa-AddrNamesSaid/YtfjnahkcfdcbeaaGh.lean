/- AddrColumns, walked. -/
import Derived.Test.YtfjnahkcfdcbeaaGd
namespace Go.A
open Go.Proofs
set_option maxRecDepth 100000
set_option linter.unusedSimpArgs false
set_option linter.unusedVariables false

theorem bytesLess_trans : ∀ {x y z : List UInt8}, Op.bytesLess x y = true → Op.bytesLess y z = true → Op.bytesLess x z = true
  | [], [], _, h, _ => by simp [Op.bytesLess] at h
  | [], _ :: _, [], _, h => by simp [Op.bytesLess] at h
  | [], _ :: _, _ :: _, _, _ => rfl
  | _ :: _, [], _, h, _ => by simp [Op.bytesLess] at h
  | _ :: _, _ :: _, [], _, h => by simp [Op.bytesLess] at h
  | a :: x, b :: y, c :: z, h, k => by
    simp only [Op.bytesLess, Bool.or_eq_true, Bool.and_eq_true, decide_eq_true_eq, beq_iff_eq] at h k ⊢
    rcases h with h | ⟨rfl, h⟩
    · rcases k with k | ⟨rfl, k⟩
      · exact .inl (UInt8.lt_trans h k)
      · exact .inl h
    · rcases k with k | ⟨rfl, k⟩
      · exact .inl k
      · exact .inr ⟨rfl, bytesLess_trans h k⟩
/-- One name comes ahead of another one. -/
def aheadB (s t : List UInt8) : Bool := decide (s.length < t.length) || (decide (s.length = t.length) && Op.bytesLess s t)
theorem aheadB_trans {x y z : List UInt8} (h : aheadB x y = true) (k : aheadB y z = true) : aheadB x z = true := by
  simp only [aheadB, Bool.or_eq_true, Bool.and_eq_true, decide_eq_true_eq] at h k ⊢
  rcases h with h | ⟨h, h'⟩ <;> rcases k with k | ⟨k, k'⟩
  · exact .inl (by omega)
  · exact .inl (by omega)
  · exact .inl (by omega)
  · exact .inr ⟨by omega, bytesLess_trans h' k'⟩
theorem names_rise1 : (List.range 699).all (fun i => aheadB (lettersP i) (lettersP (i + 1 : Nat))) = true := by decide +kernel
theorem names_rise (a : Nat) : ∀ k, a + k + 1 < 700 → aheadB (lettersP a) (lettersP (a + k + 1 : Nat)) = true
  | 0, h => by
    have := List.all_eq_true.1 names_rise1 a (List.mem_range.2 (by omega))
    simpa using this
  | k + 1, h => by
    have h1 := names_rise a k (by omega)
    have h2 := List.all_eq_true.1 names_rise1 (a + k + 1) (List.mem_range.2 (by omega))
    exact aheadB_trans h1 h2
theorem names_back1 : (List.range 700).all (fun i => decide (columnP (lettersP i) = ((i : Int), true))) = true := by decide +kernel
theorem names_back {a : Int} (h0 : 0 ≤ a) (h1 : a < 700) : columnP (lettersP a) = (a, true) := by
  obtain ⟨n, rfl⟩ : ∃ n : Nat, a = n := ⟨a.toNat, by omega⟩
  have := List.all_eq_true.1 names_back1 n (List.mem_range.2 (by omega))
  simpa using this
theorem lettersF_len : ∀ k n, (lettersF k n).length ≤ k
  | 0, n => Nat.le_refl _
  | k + 1, n => by
    unfold lettersF
    split
    · exact Nat.zero_le _
    · have := lettersF_len k ((n - 1) / 26)
      simp; omega
theorem letters_len (c : Int) : (lettersP c).length ≤ 4 := by
  unfold lettersP
  split
  · exact Nat.zero_le _
  · exact lettersF_len _ _

theorem AddrColumns_any (a b : Int) (σ : ASt) : ACalls Try.prog 4 [.int .i64 a, .int .i64 b] σ fun v _ => v = .bool true := by
  refine a4 (by simp) ?_
  by_cases hc : a < 0 ∨ b ≤ a ∨ 700 ≤ b
  · repeat' (first | (simp (disch := first | assumption | omega) only [go_sem, reduceCtorEq, Nat.reduceEqDiff, Nat.reduceAdd, Nat.reduceSub, Nat.reduceMul, Nat.reduceLeDiff, Int.reduceLT, Int.reduceLE, Int.reduceEq, ↓reduceIte, Int.reduceNeg, Int.reduceAdd, Int.reduceSub, Int.reduceMul, true_imp_iff, forall_const, Nat.mul_one]) | refine aawake_ok.use ?_ | with_reducible refine gC_d (fun h => ?_) (fun h => ?_) | with_reducible refine gC_dn (fun h => ?_) (fun h => ?_) | with_reducible refine condC_d (fun h => ?_) (fun h => ?_) | with_reducible refine condC_n (fun h => ?_) (fun h => ?_) | with_reducible refine condC_b (fun h => ?_) (fun h => ?_) | with_reducible refine boxC_by ?_ fun b hb => ?_)
    all_goals first
      | (exfalso; omega)
      | exact retC_by (by repeat' (first | exact Drop.refl _ | with_reducible refine Drop.off ?_ (by assumption))) (.refl _) rfl
  · have h0 : ¬ a < 0 := by omega
    have h1 : ¬ b ≤ a := by omega
    have h2 : ¬ 700 ≤ b := by omega
    have hr := names_rise a.toNat (b - a - 1).toNat (by omega)
    rw [show (a.toNat : Int) = a by omega, show ((a.toNat + (b - a - 1).toNat + 1 : Nat) : Int) = b by omega] at hr
    have ha := names_back (a := a) (by omega) (by omega)
    have hb := names_back (a := b) (by omega) (by omega)
    have la := letters_len a
    have lb := letters_len b
    have oa := letters_ok a
    have ob := letters_ok b
    generalize lettersP a = s at *
    generalize lettersP b = t at *
    simp (disch := first | assumption | omega) only [go_sem, reduceCtorEq, Nat.reduceEqDiff, Nat.reduceAdd, Nat.reduceSub, Nat.reduceMul, Nat.reduceLeDiff, Int.reduceLT, Int.reduceLE, Int.reduceEq, ↓reduceIte, Int.reduceNeg, Int.reduceAdd, Int.reduceSub, Int.reduceMul, true_imp_iff, forall_const, Nat.mul_one, h0, h1, h2]
    refine oa.use ?_
    simp (disch := first | assumption | omega) only [go_sem, reduceCtorEq, Nat.reduceEqDiff, Nat.reduceAdd, Nat.reduceSub, Nat.reduceMul, Nat.reduceLeDiff, Int.reduceLT, Int.reduceLE, Int.reduceEq, ↓reduceIte, Int.reduceNeg, Int.reduceAdd, Int.reduceSub, Int.reduceMul, true_imp_iff, forall_const, Nat.mul_one]
    refine ob.use ?_
    simp (disch := first | assumption | omega) only [go_sem, reduceCtorEq, Nat.reduceEqDiff, Nat.reduceAdd, Nat.reduceSub, Nat.reduceMul, Nat.reduceLeDiff, Int.reduceLT, Int.reduceLE, Int.reduceEq, ↓reduceIte, Int.reduceNeg, Int.reduceAdd, Int.reduceSub, Int.reduceMul, true_imp_iff, forall_const, Nat.mul_one]
    refine (column_ok s (by omega)).use ?_
    rw [ha]
    simp (disch := first | assumption | omega) only [go_sem, reduceCtorEq, Nat.reduceEqDiff, Nat.reduceAdd, Nat.reduceSub, Nat.reduceMul, Nat.reduceLeDiff, Int.reduceLT, Int.reduceLE, Int.reduceEq, ↓reduceIte, Int.reduceNeg, Int.reduceAdd, Int.reduceSub, Int.reduceMul, true_imp_iff, forall_const, Nat.mul_one]
    refine (column_ok t (by omega)).use ?_
    rw [hb]
    simp (disch := first | assumption | omega) only [go_sem, reduceCtorEq, Nat.reduceEqDiff, Nat.reduceAdd, Nat.reduceSub, Nat.reduceMul, Nat.reduceLeDiff, Int.reduceLT, Int.reduceLE, Int.reduceEq, ↓reduceIte, Int.reduceNeg, Int.reduceAdd, Int.reduceSub, Int.reduceMul, true_imp_iff, forall_const, Nat.mul_one]
    refine aawake_ok.use ?_
    simp (disch := first | assumption | omega) only [go_sem, reduceCtorEq, Nat.reduceEqDiff, Nat.reduceAdd, Nat.reduceSub, Nat.reduceMul, Nat.reduceLeDiff, Int.reduceLT, Int.reduceLE, Int.reduceEq, ↓reduceIte, Int.reduceNeg, Int.reduceAdd, Int.reduceSub, Int.reduceMul, true_imp_iff, forall_const, Nat.mul_one]
    unfold aheadB at hr
    by_cases hl : s.length < t.length
    · have hl' : (s.length : Int) < t.length := by omega
      simp (disch := first | assumption | omega) only [go_sem, reduceCtorEq, Nat.reduceEqDiff, Nat.reduceAdd, Nat.reduceSub, Nat.reduceMul, Nat.reduceLeDiff, Int.reduceLT, Int.reduceLE, Int.reduceEq, ↓reduceIte, Int.reduceNeg, Int.reduceAdd, Int.reduceSub, Int.reduceMul, true_imp_iff, forall_const, Nat.mul_one, hl']
      exact retC_by (by repeat' (first | exact Drop.refl _ | with_reducible refine Drop.off ?_ (by assumption))) (.refl _) rfl
    · have hl' : ¬ (s.length : Int) < t.length := by omega
      simp only [hl, decide_false, Bool.false_or, Bool.and_eq_true, decide_eq_true_eq] at hr
      have he : (s.length : Int) = t.length := by omega
      have hr2 := hr.2
      simp (disch := first | assumption | omega) only [go_sem, reduceCtorEq, Nat.reduceEqDiff, Nat.reduceAdd, Nat.reduceSub, Nat.reduceMul, Nat.reduceLeDiff, Int.reduceLT, Int.reduceLE, Int.reduceEq, ↓reduceIte, Int.reduceNeg, Int.reduceAdd, Int.reduceSub, Int.reduceMul, true_imp_iff, forall_const, Nat.mul_one, hl', he, hr2]
      exact retC_by (by repeat' (first | exact Drop.refl _ | with_reducible refine Drop.off ?_ (by assumption))) (.refl _) rfl
end Go.A
