/- The document's Round of tabularref01. · Small ones: Sign, IsInt, same, fit, the reference's Floor. · The reference's Mod, Floor and Ceil; the ends of Round. · Trunc of deci and of the document. · The document's Mod, Floor and Ceil; DeciRounds. -/
import Derived.Test.YtmefepbdognkdaaDoorHv
import Derived.Test.YtmefepbdognkdaaDoorCodeH
namespace Go.A
open Go.Proofs
set_option maxRecDepth 100000
set_option linter.unusedSimpArgs false
set_option linter.unusedVariables false

theorem allD_zeros (k : Nat) : AllD (List.replicate k 48) := by
  intro c hc
  obtain ⟨_, rfl⟩ := List.mem_replicate.1 hc
  decide
theorem allD_app {l m : List UInt8} (h : AllD l) (k : AllD m) : AllD (l ++ m) := fun c hc => (List.mem_append.1 hc).elim (h c) (k c)
theorem allD_strip {l : List UInt8} (h : AllD l) : AllD (stripP l) := fun c hc => h c ((List.dropWhile_sublist _).subset hc)
theorem inc_len (s : List UInt8) : (incP s).length ≤ s.length + 1 := by
  unfold incP
  have := incC_len s
  split <;> simp <;> omega
theorem cutD_len (s : List UInt8) (n : Nat) : (cutD s n).length ≤ s.length + n + 2 := by
  have hp : (padP s n).length ≤ s.length + n + 1 := by unfold padP; simp; omega
  unfold cutD
  split
  · omega
  · split
    · have := inc_len ((padP s n).take ((padP s n).length - n))
      simp at this ⊢
      omega
    · simp; omega
end Go.A
namespace Go.A
open Go.Proofs
set_option maxRecDepth 100000
set_option linter.unusedSimpArgs false
set_option linter.unusedVariables false

theorem dsign_ok (a : Int) : Pure Tryd.prog 33 [.int .i64 a] (.int .i64 (if a < 0 then -1 else if 0 < a then 1 else 0)) := by
  intro σ
  refine a33 (by simp) ?_
  by_cases h0 : a < 0
  · rw [if_pos h0]
    simp (disch := first | assumption | omega | (simp only [List.length_append, List.length_cons, List.length_nil]; omega)) only [go_sem, reduceCtorEq, Nat.reduceEqDiff, Nat.reduceAdd, Nat.reduceSub, Nat.reduceMul, Nat.reduceLeDiff, Int.reduceLT, Int.reduceLE, Int.reduceEq, ↓reduceIte, Int.reduceNeg, Int.reduceAdd, Int.reduceSub, Int.reduceMul, true_imp_iff, forall_const, Nat.mul_one, Int.reduceToNat, Nat.reducePow, Int.reducePow, Bool.true_and, Bool.false_and, Bool.and_false, h0]
    exact retC_by (by repeat' (first | exact Drop.refl _ | with_reducible refine Drop.off ?_ (by assumption))) (.refl _) ⟨rfl, rfl⟩
  · rw [if_neg h0]
    by_cases h1 : 0 < a
    · rw [if_pos h1]
      simp (disch := first | assumption | omega | (simp only [List.length_append, List.length_cons, List.length_nil]; omega)) only [go_sem, reduceCtorEq, Nat.reduceEqDiff, Nat.reduceAdd, Nat.reduceSub, Nat.reduceMul, Nat.reduceLeDiff, Int.reduceLT, Int.reduceLE, Int.reduceEq, ↓reduceIte, Int.reduceNeg, Int.reduceAdd, Int.reduceSub, Int.reduceMul, true_imp_iff, forall_const, Nat.mul_one, Int.reduceToNat, Nat.reducePow, Int.reducePow, Bool.true_and, Bool.false_and, Bool.and_false, h0, h1]
      exact retC_by (by repeat' (first | exact Drop.refl _ | with_reducible refine Drop.off ?_ (by assumption))) (.refl _) ⟨rfl, rfl⟩
    · rw [if_neg h1]
      simp (disch := first | assumption | omega | (simp only [List.length_append, List.length_cons, List.length_nil]; omega)) only [go_sem, reduceCtorEq, Nat.reduceEqDiff, Nat.reduceAdd, Nat.reduceSub, Nat.reduceMul, Nat.reduceLeDiff, Int.reduceLT, Int.reduceLE, Int.reduceEq, ↓reduceIte, Int.reduceNeg, Int.reduceAdd, Int.reduceSub, Int.reduceMul, true_imp_iff, forall_const, Nat.mul_one, Int.reduceToNat, Nat.reducePow, Int.reducePow, Bool.true_and, Bool.false_and, Bool.and_false, h0, h1]
      exact retC_by (by repeat' (first | exact Drop.refl _ | with_reducible refine Drop.off ?_ (by assumption))) (.refl _) ⟨rfl, rfl⟩
theorem isInt_ok (a : Int) : Pure Tryd.prog 12 [.int .i64 a] (.bool (decide (a.tmod 10000 = 0))) := by
  intro σ
  refine a12 (by simp) ?_
  simp (disch := first | assumption | omega | (simp only [List.length_append, List.length_cons, List.length_nil]; omega)) only [go_sem, reduceCtorEq, Nat.reduceEqDiff, Nat.reduceAdd, Nat.reduceSub, Nat.reduceMul, Nat.reduceLeDiff, Int.reduceLT, Int.reduceLE, Int.reduceEq, ↓reduceIte, Int.reduceNeg, Int.reduceAdd, Int.reduceSub, Int.reduceMul, true_imp_iff, forall_const, Nat.mul_one, Int.reduceToNat, Nat.reducePow, Int.reducePow, Bool.true_and, Bool.false_and, Bool.and_false]
  exact retC_by (by repeat' (first | exact Drop.refl _ | with_reducible refine Drop.off ?_ (by assumption))) (.refl _) ⟨rfl, rfl⟩
end Go.A
namespace Go.A
open Go.Proofs
set_option maxRecDepth 100000
set_option linter.unusedSimpArgs false
set_option linter.unusedVariables false

theorem round_lo {a p : Int} (h : p < -14) : Pure Tryd.prog 38 [.int .i64 a, .int .i64 p] (resAV (some 0)) := by
  intro σ
  refine a38 (by simp) ?_
  simp (disch := first | assumption | omega | (simp only [List.length_append, List.length_cons, List.length_nil]; omega)) only [go_sem, reduceCtorEq, Nat.reduceEqDiff, Nat.reduceAdd, Nat.reduceSub, Nat.reduceMul, Nat.reduceLeDiff, Int.reduceLT, Int.reduceLE, Int.reduceEq, ↓reduceIte, Int.reduceNeg, Int.reduceAdd, Int.reduceSub, Int.reduceMul, true_imp_iff, forall_const, Nat.mul_one, Int.reduceToNat, Nat.reducePow, Int.reducePow, Bool.true_and, Bool.false_and, Bool.and_false, h]
  exact retC_by (by repeat' (first | exact Drop.refl _ | with_reducible refine Drop.off ?_ (by assumption))) (.refl _) ⟨rfl, rfl⟩
theorem floor_no {a b : Int} (h : b ≤ 0) : Pure Tryd.prog 35 [.int .i64 a, .int .i64 b] (resAV none) := by
  intro σ
  refine a35 (by simp) ?_
  simp (disch := first | assumption | omega | (simp only [List.length_append, List.length_cons, List.length_nil]; omega)) only [go_sem, reduceCtorEq, Nat.reduceEqDiff, Nat.reduceAdd, Nat.reduceSub, Nat.reduceMul, Nat.reduceLeDiff, Int.reduceLT, Int.reduceLE, Int.reduceEq, ↓reduceIte, Int.reduceNeg, Int.reduceAdd, Int.reduceSub, Int.reduceMul, true_imp_iff, forall_const, Nat.mul_one, Int.reduceToNat, Nat.reducePow, Int.reducePow, Bool.true_and, Bool.false_and, Bool.and_false, h]
  exact retC_by (by repeat' (first | exact Drop.refl _ | with_reducible refine Drop.off ?_ (by assumption))) (.refl _) ⟨rfl, rfl⟩
end Go.A
namespace Go.A
open Go.Proofs
set_option maxRecDepth 100000
set_option linter.unusedSimpArgs false
set_option linter.unusedVariables false

theorem trunc_lo {a p : Int} (h : p < -14) : Pure Tryd.prog 36 [.int .i64 a, .int .i64 p] (.int .i64 0) := by
  intro σ
  refine a36 (by simp) ?_
  simp (disch := first | assumption | omega | (simp only [List.length_append, List.length_cons, List.length_nil]; omega)) only [go_sem, reduceCtorEq, Nat.reduceEqDiff, Nat.reduceAdd, Nat.reduceSub, Nat.reduceMul, Nat.reduceLeDiff, Int.reduceLT, Int.reduceLE, Int.reduceEq, ↓reduceIte, Int.reduceNeg, Int.reduceAdd, Int.reduceSub, Int.reduceMul, true_imp_iff, forall_const, Nat.mul_one, Int.reduceToNat, Nat.reducePow, Int.reducePow, Bool.true_and, Bool.false_and, Bool.and_false, h]
  exact retC_by (by repeat' (first | exact Drop.refl _ | with_reducible refine Drop.off ?_ (by assumption))) (.refl _) ⟨rfl, rfl⟩
theorem trunc_hi {a p : Int} (h : 4 ≤ p) : Pure Tryd.prog 36 [.int .i64 a, .int .i64 p] (.int .i64 a) := by
  intro σ
  have g1 : ¬ p < -14 := by omega
  refine a36 (by simp) ?_
  simp (disch := first | assumption | omega | (simp only [List.length_append, List.length_cons, List.length_nil]; omega)) only [go_sem, reduceCtorEq, Nat.reduceEqDiff, Nat.reduceAdd, Nat.reduceSub, Nat.reduceMul, Nat.reduceLeDiff, Int.reduceLT, Int.reduceLE, Int.reduceEq, ↓reduceIte, Int.reduceNeg, Int.reduceAdd, Int.reduceSub, Int.reduceMul, true_imp_iff, forall_const, Nat.mul_one, Int.reduceToNat, Nat.reducePow, Int.reducePow, Bool.true_and, Bool.false_and, Bool.and_false, g1]
  refine (unit_no h).use ?_
  simp (disch := first | assumption | omega | (simp only [List.length_append, List.length_cons, List.length_nil]; omega)) only [go_sem, reduceCtorEq, Nat.reduceEqDiff, Nat.reduceAdd, Nat.reduceSub, Nat.reduceMul, Nat.reduceLeDiff, Int.reduceLT, Int.reduceLE, Int.reduceEq, ↓reduceIte, Int.reduceNeg, Int.reduceAdd, Int.reduceSub, Int.reduceMul, true_imp_iff, forall_const, Nat.mul_one, Int.reduceToNat, Nat.reducePow, Int.reducePow, Bool.true_and, Bool.false_and, Bool.and_false]
  exact retC_by (by repeat' (first | exact Drop.refl _ | with_reducible refine Drop.off ?_ (by assumption))) (.refl _) ⟨rfl, rfl⟩
/-- Cut off: towards nought. -/
def truncP (a : Int) (u : Nat) : Int := a - a.tmod u
theorem trunc_ok {σ : ASt} (hT : Tens σ) {a p : Int} (ha : a.natAbs ≤ 999999999999999999) (h0 : -14 ≤ p) (h1 : p < 4) : ACalls Tryd.prog 36 [.int .i64 a, .int .i64 p] σ fun v σ' => v = .int .i64 (truncP a (10 ^ (4 - p).toNat)) ∧ σ' = σ := by
  have hU := unit_ok hT p h0 h1
  have hu0 : 0 < 10 ^ (4 - p).toNat := Nat.pow_pos (by omega)
  have hu1 : 10 ^ (4 - p).toNat ≤ 10 ^ 18 := Nat.pow_le_pow_right (by omega) (by omega)
  generalize 10 ^ (4 - p).toNat = u at hU hu0 hu1
  have g1 : ¬ p < -14 := by omega
  have hm := Int.natAbs_tmod a u
  have hle : a.natAbs % u ≤ a.natAbs := Nat.mod_le _ _
  unfold truncP
  rw [Int.natAbs_natCast] at hm
  have e1 : IntKind.i64.wrap (u : Int) = u := by rw [IntKind.wrap_i64]; omega
  have hs : (a.tmod u < 0 → a < 0) ∧ (0 < a.tmod u → 0 < a) := by
    refine ⟨fun h => ?_, fun h => ?_⟩
    · refine Int.not_le.1 fun h2 => ?_
      have := Int.tmod_nonneg (a := a) (u : Int) h2
      omega
    · refine Int.not_le.1 fun h2 => ?_
      have h3 := Int.tmod_nonneg (a := -a) (u : Int) (by omega)
      rw [Int.neg_tmod] at h3
      omega
  have g2 : (u : Int) ≠ 0 := by omega
  have g3 : (a - a.tmod u).natAbs ≤ 999999999999999999 := by omega
  have e2 : IntKind.i64.wrap (a - a.tmod u) = a - a.tmod u := by rw [IntKind.wrap_i64]; omega
  refine a36 (by simp) ?_
  simp (disch := first | assumption | omega | (simp only [List.length_append, List.length_cons, List.length_nil]; omega)) only [go_sem, reduceCtorEq, Nat.reduceEqDiff, Nat.reduceAdd, Nat.reduceSub, Nat.reduceMul, Nat.reduceLeDiff, Int.reduceLT, Int.reduceLE, Int.reduceEq, ↓reduceIte, Int.reduceNeg, Int.reduceAdd, Int.reduceSub, Int.reduceMul, true_imp_iff, forall_const, Nat.mul_one, Int.reduceToNat, Nat.reducePow, Int.reducePow, Bool.true_and, Bool.false_and, Bool.and_false, g1]
  refine hU.mono ?_
  rintro v σ' ⟨rfl, rfl⟩
  simp (disch := first | assumption | omega | (simp only [List.length_append, List.length_cons, List.length_nil]; omega)) only [go_sem, reduceCtorEq, Nat.reduceEqDiff, Nat.reduceAdd, Nat.reduceSub, Nat.reduceMul, Nat.reduceLeDiff, Int.reduceLT, Int.reduceLE, Int.reduceEq, ↓reduceIte, Int.reduceNeg, Int.reduceAdd, Int.reduceSub, Int.reduceMul, true_imp_iff, forall_const, Nat.mul_one, Int.reduceToNat, Nat.reducePow, Int.reducePow, Bool.true_and, Bool.false_and, Bool.and_false, e1, e2, g2]
  exact retC_by (by repeat' (first | exact Drop.refl _ | with_reducible refine Drop.off ?_ (by assumption))) (.refl _) ⟨rfl, rfl⟩
theorem trunc_nv {s : List UInt8} (h : AllD s) {n : Nat} (hn : n ≤ s.length) : nv (s.take (s.length - n) ++ List.replicate n 48) = nv s / 10 ^ n * 10 ^ n := by
  have hB : AllD (s.drop (s.length - n)) := fun d hd => h d (List.mem_of_mem_drop hd)
  have hl : (s.drop (s.length - n)).length = n := by rw [List.length_drop]; omega
  have hb := nv_lt hB
  rw [hl] at hb
  have := nv_app (s.take (s.length - n)) (s.drop (s.length - n))
  rw [List.take_append_drop, hl] at this
  rw [nv_app, nv_zeros, List.length_replicate, this, Nat.add_zero]
  congr 1
  rw [Nat.mul_comm, Nat.mul_add_div (Nat.pow_pos (by omega)), Nat.div_eq_of_lt hb, Nat.add_zero]
theorem trunc_val (a : Int) (ha : a.natAbs ≤ 999999999999999999) (u : Nat) : madeP (decide (a < 0)) (a.natAbs / u * u) = some (truncP a u) := by
  unfold madeP truncP
  have h1 := Nat.div_mul_le_self a.natAbs u
  rw [if_pos (by omega)]
  have h2 : a.natAbs / u * u + a.natAbs % u = a.natAbs := by rw [Nat.mul_comm]; exact Nat.div_add_mod _ _
  congr 1
  by_cases h0 : a < 0
  · have e : a.tmod u = -(((a.natAbs % u : Nat)) : Int) := by
      rw [show a = -((a.natAbs : Nat) : Int) by omega, Int.neg_tmod, Int.tmod_eq_emod_of_nonneg (by omega), Int.natAbs_neg, Int.natAbs_natCast]
      rfl
    rw [if_pos (by simpa using h0), e]
    generalize a.natAbs / u * u = x at *
    omega
  · have e : a.tmod u = (((a.natAbs % u : Nat)) : Int) := by
      have ea : a = ((a.natAbs : Nat) : Int) := by omega
      rw [Int.tmod_eq_emod_of_nonneg (by omega)]
      conv => lhs; rw [ea]
      rfl
    rw [if_neg (by simpa using h0), e]
    generalize a.natAbs / u * u = x at *
    omega
end Go.A
namespace Go.A
open Go.Proofs
set_option maxRecDepth 100000
set_option linter.unusedSimpArgs false
set_option linter.unusedVariables false

/-- Rounded up, or nothing. -/
def ceilP (a b : Int) : Option Int := if a % b = 0 then some a else fitP (a - a % b + b)
theorem ceil_is {a b : Int} (ha : a.natAbs ≤ 999999999999999999) (hb : 0 < b) (hb2 : b ≤ 999999999999999999) : Pure Tryd.prog 71 [.int .i64 a, .int .i64 b] (resAV (ceilP a b)) := by
  have hC := ceil_ok ha hb hb2
  have hn := neg_emod_left (a := a) hb
  have h1 := Int.emod_nonneg a (b := b) (by omega)
  have h2 := Int.emod_lt_of_pos a (b := b) (by omega)
  rw [hn] at hC
  unfold ceilP
  simp only [resAV]
  unfold fitP at hC ⊢
  generalize a % b = m at *
  by_cases hm : m = 0
  · subst hm
    rw [if_pos rfl, Int.sub_zero, if_pos (by omega)] at hC
    rw [if_pos rfl]
    simp only [Option.getD_some, Option.isSome_some] at hC ⊢
    rw [show 0 - -a = a by omega] at hC
    exact hC
  · rw [if_neg hm] at hC ⊢
    by_cases hc : (-a - (b - m)).natAbs ≤ 999999999999999999
    · rw [if_pos hc] at hC
      rw [if_pos (by omega)]
      simp only [Option.getD_some, Option.isSome_some] at hC ⊢
      rw [show 0 - (-a - (b - m)) = a - m + b by omega] at hC
      exact hC
    · rw [if_neg hc] at hC
      rw [if_neg (by omega)]
      exact hC
theorem ceil_no {a b : Int} (ha : a.natAbs ≤ 999999999999999999) (h : b ≤ 0) : Pure Tryd.prog 71 [.int .i64 a, .int .i64 b] (resAV none) := by
  intro σ
  have hF := floor_no (a := 0 - a) h
  simp only [resAV, Option.getD_none, Option.isSome_none] at hF ⊢
  refine a71 (by simp) ?_
  simp (disch := first | assumption | omega | (simp only [List.length_append, List.length_cons, List.length_nil]; omega)) only [go_sem, reduceCtorEq, Nat.reduceEqDiff, Nat.reduceAdd, Nat.reduceSub, Nat.reduceMul, Nat.reduceLeDiff, Int.reduceLT, Int.reduceLE, Int.reduceEq, ↓reduceIte, Int.reduceNeg, Int.reduceAdd, Int.reduceSub, Int.reduceMul, true_imp_iff, forall_const, Nat.mul_one, Int.reduceToNat, Nat.reducePow, Int.reducePow, Bool.true_and, Bool.false_and, Bool.and_false]
  refine hF.use ?_
  simp (disch := first | assumption | omega | (simp only [List.length_append, List.length_cons, List.length_nil]; omega)) only [go_sem, reduceCtorEq, Nat.reduceEqDiff, Nat.reduceAdd, Nat.reduceSub, Nat.reduceMul, Nat.reduceLeDiff, Int.reduceLT, Int.reduceLE, Int.reduceEq, ↓reduceIte, Int.reduceNeg, Int.reduceAdd, Int.reduceSub, Int.reduceMul, true_imp_iff, forall_const, Nat.mul_one, Int.reduceToNat, Nat.reducePow, Int.reducePow, Bool.true_and, Bool.false_and, Bool.and_false]
  exact retC_by (by repeat' (first | exact Drop.refl _ | with_reducible refine Drop.off ?_ (by assumption))) (.refl _) ⟨rfl, rfl⟩
theorem whole_ok {a : Int} (ha : a.natAbs ≤ 999999999999999999) : Pure Tryd.prog 13 [.int .i64 a] (.int .i64 (a.tdiv 10000)) := by
  intro σ
  have hqb : (a.tdiv 10000).natAbs ≤ a.natAbs := by rw [Int.natAbs_tdiv]; exact Nat.div_le_self _ _
  have e : IntKind.i64.wrap (a.tdiv 10000) = a.tdiv 10000 := by rw [IntKind.wrap_i64]; omega
  refine a13 (by simp) ?_
  simp (disch := first | assumption | omega | (simp only [List.length_append, List.length_cons, List.length_nil]; omega)) only [go_sem, reduceCtorEq, Nat.reduceEqDiff, Nat.reduceAdd, Nat.reduceSub, Nat.reduceMul, Nat.reduceLeDiff, Int.reduceLT, Int.reduceLE, Int.reduceEq, ↓reduceIte, Int.reduceNeg, Int.reduceAdd, Int.reduceSub, Int.reduceMul, true_imp_iff, forall_const, Nat.mul_one, Int.reduceToNat, Nat.reducePow, Int.reducePow, Bool.true_and, Bool.false_and, Bool.and_false, e]
  exact retC_by (by repeat' (first | exact Drop.refl _ | with_reducible refine Drop.off ?_ (by assumption))) (.refl _) ⟨rfl, rfl⟩
end Go.A
