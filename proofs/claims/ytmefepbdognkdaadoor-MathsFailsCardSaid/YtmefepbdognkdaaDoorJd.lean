/- Steps, divisors, multiples: functions of maths. -/
import Derived.Test.YtmefepbdognkdaaDoorJc
import Derived.Test.YtmefepbdognkdaaDoorCodeJ
namespace Go.A
open Go.Proofs
set_option maxRecDepth 100000
set_option linter.unusedSimpArgs false
set_option linter.unusedVariables false

theorem munit_ok (n : Nat) (hn : n ≤ 20) : Pure Tryd.prog 69 [.int .i64 n] (.int .i64 ((10000 / 10 ^ n : Nat) : Int)) := by
  intro σ
  refine a69 (by simp) ?_
  simp (disch := first | assumption | omega | (simp only [List.length_append, List.length_cons, List.length_nil]; omega)) only [go_sem, reduceCtorEq, Nat.reduceEqDiff, Nat.reduceAdd, Nat.reduceSub, Nat.reduceMul, Nat.reduceLeDiff, Int.reduceLT, Int.reduceLE, Int.reduceEq, ↓reduceIte, Int.reduceNeg, Int.reduceAdd, Int.reduceSub, Int.reduceMul, true_imp_iff, forall_const, Nat.mul_one, Int.reduceToNat, Nat.reducePow, Int.reducePow, Bool.true_and, Bool.false_and, Bool.and_false]
  refine wp_loop_on (fun (i : Nat) a1 s2 => i ≤ n ∧ (∃ u : Nat, 10000 / 10 ^ i = u ∧ a1 3 = .int .i64 u) ∧ (a1 4 = .int .i64 n ∧ a1 5 = .int .i64 i) ∧ s2 = σ) (fun i => n - i) 0 ⟨Nat.zero_le _, ⟨10000, by decide, ?_⟩, ?_, rfl⟩ ?_
  · simp (disch := first | assumption | omega | (simp only [List.length_append, List.length_cons, List.length_nil]; omega)) only [go_sem, reduceCtorEq, Nat.reduceEqDiff, Nat.reduceAdd, Nat.reduceSub, Nat.reduceMul, Nat.reduceLeDiff, Int.reduceLT, Int.reduceLE, Int.reduceEq, ↓reduceIte, Int.reduceNeg, Int.reduceAdd, Int.reduceSub, Int.reduceMul, true_imp_iff, forall_const, Nat.mul_one, Int.reduceToNat, Nat.reducePow, Int.reducePow, Bool.true_and, Bool.false_and, Bool.and_false]
  · simp (disch := first | assumption | omega | (simp only [List.length_append, List.length_cons, List.length_nil]; omega)) only [go_sem, reduceCtorEq, Nat.reduceEqDiff, Nat.reduceAdd, Nat.reduceSub, Nat.reduceMul, Nat.reduceLeDiff, Int.reduceLT, Int.reduceLE, Int.reduceEq, ↓reduceIte, Int.reduceNeg, Int.reduceAdd, Int.reduceSub, Int.reduceMul, true_imp_iff, forall_const, Nat.mul_one, Int.reduceToNat, Nat.reducePow, Int.reducePow, Bool.true_and, Bool.false_and, Bool.and_false]
  rintro i a1 s2 ⟨hi, ⟨u, hu, h3⟩, hf, rfl⟩
  by_cases hlt : i < n
  · have hlt' : (i : Int) < n := by omega
    have e : (u : Int).tdiv 10 = ((u / 10 : Nat) : Int) := rfl
    have hul : u ≤ 10000 := by rw [← hu]; exact Nat.div_le_self _ _
    have hs : 10000 / 10 ^ (i + 1) = u / 10 := by rw [Nat.pow_succ, ← Nat.div_div_eq_div_mul, hu]
    obtain ⟨w, hw⟩ : ∃ w, u / 10 = w := ⟨_, rfl⟩
    rw [hw] at e hs
    have hwl : w ≤ 10000 := by omega
    have e2 : IntKind.i64.wrap (w : Int) = w := by rw [IntKind.wrap_i64]; omega
    simp (disch := first | assumption | omega | (simp only [List.length_append, List.length_cons, List.length_nil]; omega)) only [go_sem, reduceCtorEq, Nat.reduceEqDiff, Nat.reduceAdd, Nat.reduceSub, Nat.reduceMul, Nat.reduceLeDiff, Int.reduceLT, Int.reduceLE, Int.reduceEq, ↓reduceIte, Int.reduceNeg, Int.reduceAdd, Int.reduceSub, Int.reduceMul, true_imp_iff, forall_const, Nat.mul_one, Int.reduceToNat, Nat.reducePow, Int.reducePow, Bool.true_and, Bool.false_and, Bool.and_false, hf, h3, hlt', e, e2]
    exact ⟨i + 1, by omega, by omega, ⟨w, hs, rfl⟩, rfl⟩
  · have hlt' : ¬ (i : Int) < n := by omega
    obtain rfl : i = n := by omega
    rw [hu]
    simp (disch := first | assumption | omega | (simp only [List.length_append, List.length_cons, List.length_nil]; omega)) only [go_sem, reduceCtorEq, Nat.reduceEqDiff, Nat.reduceAdd, Nat.reduceSub, Nat.reduceMul, Nat.reduceLeDiff, Int.reduceLT, Int.reduceLE, Int.reduceEq, ↓reduceIte, Int.reduceNeg, Int.reduceAdd, Int.reduceSub, Int.reduceMul, true_imp_iff, forall_const, Nat.mul_one, Int.reduceToNat, Nat.reducePow, Int.reducePow, Bool.true_and, Bool.false_and, Bool.and_false, hf, h3, hlt']
    exact retC_by (by repeat' (first | exact Drop.refl _ | with_reducible refine Drop.off ?_ (by assumption))) (.refl _) ⟨rfl, rfl⟩
def truncG (a p : Int) : Int := if p < -14 then 0 else if 4 ≤ p then a else truncP a (10 ^ (4 - p).toNat)
theorem trunc_g {σ : ASt} (hT : Tens σ) {a : Int} (p : Int) (ha : a.natAbs ≤ 999999999999999999) : ACalls Tryd.prog 36 [.int .i64 a, .int .i64 p] σ (fun v σ' => v = .int .i64 (truncG a p) ∧ σ' = σ) := by
  unfold truncG
  by_cases h1 : p < -14
  · rw [if_pos h1]
    exact trunc_lo h1 σ
  · rw [if_neg h1]
    by_cases h2 : 4 ≤ p
    · rw [if_pos h2]
      exact trunc_hi h2 σ
    · rw [if_neg h2]
      exact trunc_ok hT ha (by omega) (by omega)
theorem truncP_le (a : Int) (u : Nat) : (truncP a u).natAbs ≤ a.natAbs := by
  unfold truncP
  have hm := Int.natAbs_tmod a u
  have hle : a.natAbs % u ≤ a.natAbs := Nat.mod_le _ _
  rw [Int.natAbs_natCast] at hm
  have hs : (a.tmod u < 0 → a < 0) ∧ (0 < a.tmod u → 0 < a) := by
    refine ⟨fun h => ?_, fun h => ?_⟩
    · refine Int.not_le.1 fun h2 => ?_
      have := Int.tmod_nonneg (a := a) (u : Int) h2
      omega
    · refine Int.not_le.1 fun h2 => ?_
      have h3 := Int.tmod_nonneg (a := -a) (u : Int) (by omega)
      rw [Int.neg_tmod] at h3
      omega
  omega
theorem truncG_le (a p : Int) : (truncG a p).natAbs ≤ a.natAbs := by
  unfold truncG
  split
  · simp
  · split
    · exact Nat.le_refl _
    · exact truncP_le _ _
/-- The step of the last place that stays. -/
def awStep (n : Int) : Option Int := if 0 < n then some ((10000 / 10 ^ n.toNat : Nat) : Int) else powD 100000 (0 - n)
def awayP (a n : Int) : PV :=
  if truncG a n = a then .num a else match awStep n with
  | none => .fail 2
  | some s => cntP (fitP (if a < 0 then truncG a n - s else truncG a n + s))
theorem powD_le {a n p : Int} (h : powD a n = some p) : p.natAbs ≤ 999999999999999999 := by
  unfold powD at h
  split at h
  · cases h
  · obtain ⟨q, hq, hp⟩ := Option.bind_eq_some_iff.1 h
    split at hp
    · unfold divD at hp
      split at hp
      · cases hp
      · exact quoD_le hp
    · injection hp with hp
      subst hp
      exact powN_le hq
theorem away_ok {σ : ASt} (hT : Tens σ) {a n : Int} (ha : a.natAbs ≤ 999999999999999999) (h0 : -20 ≤ n) (h1 : n ≤ 20) : ACalls Tryd.prog 39 [.int .i64 a, .int .i64 n] σ (fun v σ' => v = (awayP a n).av ∧ σ' = σ) := by
  have hTr := trunc_g hT n ha
  have hTl := truncG_le a n
  have hP := pow_ok 100000 (0 - n) (by decide)
  unfold awayP
  generalize truncG a n = t at *
  refine a39 (by simp) ?_
  simp (disch := first | assumption | omega | (simp only [List.length_append, List.length_cons, List.length_nil]; omega)) only [go_sem, reduceCtorEq, Nat.reduceEqDiff, Nat.reduceAdd, Nat.reduceSub, Nat.reduceMul, Nat.reduceLeDiff, Int.reduceLT, Int.reduceLE, Int.reduceEq, ↓reduceIte, Int.reduceNeg, Int.reduceAdd, Int.reduceSub, Int.reduceMul, true_imp_iff, forall_const, Nat.mul_one, Int.reduceToNat, Nat.reducePow, Int.reducePow, Bool.true_and, Bool.false_and, Bool.and_false]
  refine hTr.mono ?_
  rintro v σ' ⟨rfl, rfl⟩
  by_cases hta : t = a
  · subst hta
    rw [if_pos rfl]
    simp only [PV.av]
    simp (disch := first | assumption | omega | (simp only [List.length_append, List.length_cons, List.length_nil]; omega)) only [go_sem, reduceCtorEq, Nat.reduceEqDiff, Nat.reduceAdd, Nat.reduceSub, Nat.reduceMul, Nat.reduceLeDiff, Int.reduceLT, Int.reduceLE, Int.reduceEq, ↓reduceIte, Int.reduceNeg, Int.reduceAdd, Int.reduceSub, Int.reduceMul, true_imp_iff, forall_const, Nat.mul_one, Int.reduceToNat, Nat.reducePow, Int.reducePow, Bool.true_and, Bool.false_and, Bool.and_false]
    exact retC_by (by repeat' (first | exact Drop.refl _ | with_reducible refine Drop.off ?_ (by assumption))) (.refl _) ⟨rfl, rfl⟩
  rw [if_neg hta]
  obtain ⟨F, hF⟩ : ∃ F, F = ACode.wp Tryd.prog c39_25 := ⟨_, rfl⟩
  have fin : ∀ (a1 : AFr) (o : Option Int), (∀ s, o = some s → s.natAbs ≤ 999999999999999999) → (a1 0 = .int .i64 a ∧ a1 5 = .int .i64 t ∧ a1 6 = .int .i64 (o.getD 0) ∧ a1 7 = .bool o.isSome) →
      F (RetQ [.t 4] fun v σ'' => v = (match o with | none => PV.fail 2 | some s => cntP (fitP (if a < 0 then t - s else t + s))).av ∧ σ'' = σ') a1 σ' := by
    intro a1 o ho hf
    rw [hF]
    cases o with
    | none =>
      simp only [Option.getD_none, Option.isSome_none, PV.av] at hf ⊢
      simp (disch := first | assumption | omega | (simp only [List.length_append, List.length_cons, List.length_nil]; omega)) only [go_sem, reduceCtorEq, Nat.reduceEqDiff, Nat.reduceAdd, Nat.reduceSub, Nat.reduceMul, Nat.reduceLeDiff, Int.reduceLT, Int.reduceLE, Int.reduceEq, ↓reduceIte, Int.reduceNeg, Int.reduceAdd, Int.reduceSub, Int.reduceMul, true_imp_iff, forall_const, Nat.mul_one, Int.reduceToNat, Nat.reducePow, Int.reducePow, Bool.true_and, Bool.false_and, Bool.and_false, hf]
      exact retC_by (by repeat' (first | exact Drop.refl _ | with_reducible refine Drop.off ?_ (by assumption))) (.refl _) ⟨rfl, rfl⟩
    | some s =>
      have hs := ho s rfl
      simp only [Option.getD_some, Option.isSome_some] at hf ⊢
      by_cases hn : a < 0
      · rw [if_pos hn]
        have hS := sub_ok (a := t) (b := s) (by omega)
        have hC := counted_ok (fitP (t - s))
        generalize fitP (t - s) = o at *
        simp only [resAV] at hS
        simp (disch := first | assumption | omega | (simp only [List.length_append, List.length_cons, List.length_nil]; omega)) only [go_sem, reduceCtorEq, Nat.reduceEqDiff, Nat.reduceAdd, Nat.reduceSub, Nat.reduceMul, Nat.reduceLeDiff, Int.reduceLT, Int.reduceLE, Int.reduceEq, ↓reduceIte, Int.reduceNeg, Int.reduceAdd, Int.reduceSub, Int.reduceMul, true_imp_iff, forall_const, Nat.mul_one, Int.reduceToNat, Nat.reducePow, Int.reducePow, Bool.true_and, Bool.false_and, Bool.and_false, hf, hn]
        refine hS.use ?_
        simp (disch := first | assumption | omega | (simp only [List.length_append, List.length_cons, List.length_nil]; omega)) only [go_sem, reduceCtorEq, Nat.reduceEqDiff, Nat.reduceAdd, Nat.reduceSub, Nat.reduceMul, Nat.reduceLeDiff, Int.reduceLT, Int.reduceLE, Int.reduceEq, ↓reduceIte, Int.reduceNeg, Int.reduceAdd, Int.reduceSub, Int.reduceMul, true_imp_iff, forall_const, Nat.mul_one, Int.reduceToNat, Nat.reducePow, Int.reducePow, Bool.true_and, Bool.false_and, Bool.and_false]
        refine hC.use ?_
        simp (disch := first | assumption | omega | (simp only [List.length_append, List.length_cons, List.length_nil]; omega)) only [go_sem, reduceCtorEq, Nat.reduceEqDiff, Nat.reduceAdd, Nat.reduceSub, Nat.reduceMul, Nat.reduceLeDiff, Int.reduceLT, Int.reduceLE, Int.reduceEq, ↓reduceIte, Int.reduceNeg, Int.reduceAdd, Int.reduceSub, Int.reduceMul, true_imp_iff, forall_const, Nat.mul_one, Int.reduceToNat, Nat.reducePow, Int.reducePow, Bool.true_and, Bool.false_and, Bool.and_false]
        exact retC_by (by repeat' (first | exact Drop.refl _ | with_reducible refine Drop.off ?_ (by assumption))) (.refl _) ⟨rfl, rfl⟩
      · rw [if_neg hn]
        have hS := add_ok (a := t) (b := s) (by omega)
        have hC := counted_ok (fitP (t + s))
        generalize fitP (t + s) = o at *
        simp only [resAV] at hS
        simp (disch := first | assumption | omega | (simp only [List.length_append, List.length_cons, List.length_nil]; omega)) only [go_sem, reduceCtorEq, Nat.reduceEqDiff, Nat.reduceAdd, Nat.reduceSub, Nat.reduceMul, Nat.reduceLeDiff, Int.reduceLT, Int.reduceLE, Int.reduceEq, ↓reduceIte, Int.reduceNeg, Int.reduceAdd, Int.reduceSub, Int.reduceMul, true_imp_iff, forall_const, Nat.mul_one, Int.reduceToNat, Nat.reducePow, Int.reducePow, Bool.true_and, Bool.false_and, Bool.and_false, hf, hn]
        refine hS.use ?_
        simp (disch := first | assumption | omega | (simp only [List.length_append, List.length_cons, List.length_nil]; omega)) only [go_sem, reduceCtorEq, Nat.reduceEqDiff, Nat.reduceAdd, Nat.reduceSub, Nat.reduceMul, Nat.reduceLeDiff, Int.reduceLT, Int.reduceLE, Int.reduceEq, ↓reduceIte, Int.reduceNeg, Int.reduceAdd, Int.reduceSub, Int.reduceMul, true_imp_iff, forall_const, Nat.mul_one, Int.reduceToNat, Nat.reducePow, Int.reducePow, Bool.true_and, Bool.false_and, Bool.and_false]
        refine hC.use ?_
        simp (disch := first | assumption | omega | (simp only [List.length_append, List.length_cons, List.length_nil]; omega)) only [go_sem, reduceCtorEq, Nat.reduceEqDiff, Nat.reduceAdd, Nat.reduceSub, Nat.reduceMul, Nat.reduceLeDiff, Int.reduceLT, Int.reduceLE, Int.reduceEq, ↓reduceIte, Int.reduceNeg, Int.reduceAdd, Int.reduceSub, Int.reduceMul, true_imp_iff, forall_const, Nat.mul_one, Int.reduceToNat, Nat.reducePow, Int.reducePow, Bool.true_and, Bool.false_and, Bool.and_false]
        exact retC_by (by repeat' (first | exact Drop.refl _ | with_reducible refine Drop.off ?_ (by assumption))) (.refl _) ⟨rfl, rfl⟩
  have hple := @powD_le 100000 (0 - n)
  unfold awStep
  simp only [resAV] at hP
  by_cases hn : 0 < n
  · rw [if_pos hn]
    have hU := munit_ok n.toNat (by omega)
    rw [show ((n.toNat : Nat) : Int) = n by omega] at hU
    have hul : 10000 / 10 ^ n.toNat ≤ 10000 := Nat.div_le_self _ _
    generalize powD 100000 (0 - n) = o at *
    generalize 10000 / 10 ^ n.toNat = u at *
    simp (disch := first | assumption | omega | (simp only [List.length_append, List.length_cons, List.length_nil]; omega)) only [go_sem, reduceCtorEq, Nat.reduceEqDiff, Nat.reduceAdd, Nat.reduceSub, Nat.reduceMul, Nat.reduceLeDiff, Int.reduceLT, Int.reduceLE, Int.reduceEq, ↓reduceIte, Int.reduceNeg, Int.reduceAdd, Int.reduceSub, Int.reduceMul, true_imp_iff, forall_const, Nat.mul_one, Int.reduceToNat, Nat.reducePow, Int.reducePow, Bool.true_and, Bool.false_and, Bool.and_false, hta, ←hF]
    refine hP.use ?_
    simp (disch := first | assumption | omega | (simp only [List.length_append, List.length_cons, List.length_nil]; omega)) only [go_sem, reduceCtorEq, Nat.reduceEqDiff, Nat.reduceAdd, Nat.reduceSub, Nat.reduceMul, Nat.reduceLeDiff, Int.reduceLT, Int.reduceLE, Int.reduceEq, ↓reduceIte, Int.reduceNeg, Int.reduceAdd, Int.reduceSub, Int.reduceMul, true_imp_iff, forall_const, Nat.mul_one, Int.reduceToNat, Nat.reducePow, Int.reducePow, Bool.true_and, Bool.false_and, Bool.and_false, hn, ←hF]
    refine hU.use ?_
    simp (disch := first | assumption | omega | (simp only [List.length_append, List.length_cons, List.length_nil]; omega)) only [go_sem, reduceCtorEq, Nat.reduceEqDiff, Nat.reduceAdd, Nat.reduceSub, Nat.reduceMul, Nat.reduceLeDiff, Int.reduceLT, Int.reduceLE, Int.reduceEq, ↓reduceIte, Int.reduceNeg, Int.reduceAdd, Int.reduceSub, Int.reduceMul, true_imp_iff, forall_const, Nat.mul_one, Int.reduceToNat, Nat.reducePow, Int.reducePow, Bool.true_and, Bool.false_and, Bool.and_false, ←hF]
    refine fin _ (some (u : Int)) (fun s hs => by injection hs with hs; omega) ?_
    simp only [Option.getD_some, Option.isSome_some]
    simp (disch := first | assumption | omega | (simp only [List.length_append, List.length_cons, List.length_nil]; omega)) only [go_sem, reduceCtorEq, Nat.reduceEqDiff, Nat.reduceAdd, Nat.reduceSub, Nat.reduceMul, Nat.reduceLeDiff, Int.reduceLT, Int.reduceLE, Int.reduceEq, ↓reduceIte, Int.reduceNeg, Int.reduceAdd, Int.reduceSub, Int.reduceMul, true_imp_iff, forall_const, Nat.mul_one, Int.reduceToNat, Nat.reducePow, Int.reducePow, Bool.true_and, Bool.false_and, Bool.and_false]
  · rw [if_neg hn]
    generalize powD 100000 (0 - n) = o at *
    simp (disch := first | assumption | omega | (simp only [List.length_append, List.length_cons, List.length_nil]; omega)) only [go_sem, reduceCtorEq, Nat.reduceEqDiff, Nat.reduceAdd, Nat.reduceSub, Nat.reduceMul, Nat.reduceLeDiff, Int.reduceLT, Int.reduceLE, Int.reduceEq, ↓reduceIte, Int.reduceNeg, Int.reduceAdd, Int.reduceSub, Int.reduceMul, true_imp_iff, forall_const, Nat.mul_one, Int.reduceToNat, Nat.reducePow, Int.reducePow, Bool.true_and, Bool.false_and, Bool.and_false, hta, ←hF]
    refine hP.use ?_
    simp (disch := first | assumption | omega | (simp only [List.length_append, List.length_cons, List.length_nil]; omega)) only [go_sem, reduceCtorEq, Nat.reduceEqDiff, Nat.reduceAdd, Nat.reduceSub, Nat.reduceMul, Nat.reduceLeDiff, Int.reduceLT, Int.reduceLE, Int.reduceEq, ↓reduceIte, Int.reduceNeg, Int.reduceAdd, Int.reduceSub, Int.reduceMul, true_imp_iff, forall_const, Nat.mul_one, Int.reduceToNat, Nat.reducePow, Int.reducePow, Bool.true_and, Bool.false_and, Bool.and_false, hn, ←hF]
    refine fin _ o (fun s hs => hple hs) ?_
    simp (disch := first | assumption | omega | (simp only [List.length_append, List.length_cons, List.length_nil]; omega)) only [go_sem, reduceCtorEq, Nat.reduceEqDiff, Nat.reduceAdd, Nat.reduceSub, Nat.reduceMul, Nat.reduceLeDiff, Int.reduceLT, Int.reduceLE, Int.reduceEq, ↓reduceIte, Int.reduceNeg, Int.reduceAdd, Int.reduceSub, Int.reduceMul, true_imp_iff, forall_const, Nat.mul_one, Int.reduceToNat, Nat.reducePow, Int.reducePow, Bool.true_and, Bool.false_and, Bool.and_false]
theorem divisor_ok (x y : Nat) (hx : x ≤ 999999999999999999) (hy : y ≤ 999999999999999999) : Pure Tryd.prog 75 [.int .i64 x, .int .i64 y] (.int .i64 (Nat.gcd x y : Nat)) := by
  intro σ
  obtain ⟨G, hG⟩ : ∃ G, Nat.gcd x y = G := ⟨_, rfl⟩
  rw [hG]
  refine a75 (by simp) ?_
  simp (disch := first | assumption | omega | (simp only [List.length_append, List.length_cons, List.length_nil]; omega)) only [go_sem, reduceCtorEq, Nat.reduceEqDiff, Nat.reduceAdd, Nat.reduceSub, Nat.reduceMul, Nat.reduceLeDiff, Int.reduceLT, Int.reduceLE, Int.reduceEq, ↓reduceIte, Int.reduceNeg, Int.reduceAdd, Int.reduceSub, Int.reduceMul, true_imp_iff, forall_const, Nat.mul_one, Int.reduceToNat, Nat.reducePow, Int.reducePow, Bool.true_and, Bool.false_and, Bool.and_false]
  refine wp_loop_on (fun (i : Nat × Nat) a1 s2 => (Nat.gcd i.1 i.2 = G ∧ i.1 ≤ 999999999999999999 ∧ i.2 ≤ 999999999999999999) ∧ (a1 0 = .int .i64 i.1 ∧ a1 1 = .int .i64 i.2) ∧ s2 = σ) (fun i => i.2) (x, y) ⟨⟨hG, hx, hy⟩, ?_, rfl⟩ ?_
  · simp (disch := first | assumption | omega | (simp only [List.length_append, List.length_cons, List.length_nil]; omega)) only [go_sem, reduceCtorEq, Nat.reduceEqDiff, Nat.reduceAdd, Nat.reduceSub, Nat.reduceMul, Nat.reduceLeDiff, Int.reduceLT, Int.reduceLE, Int.reduceEq, ↓reduceIte, Int.reduceNeg, Int.reduceAdd, Int.reduceSub, Int.reduceMul, true_imp_iff, forall_const, Nat.mul_one, Int.reduceToNat, Nat.reducePow, Int.reducePow, Bool.true_and, Bool.false_and, Bool.and_false]
  rintro ⟨u, v⟩ a1 s2 ⟨⟨hg, hu, hv⟩, hf, rfl⟩
  dsimp only at hg hu hv hf
  by_cases h0 : 0 < v
  · have h0' : (0 : Int) < v := by omega
    have hne : (v : Int) ≠ 0 := by omega
    have e : (u : Int).tmod v = ((u % v : Nat) : Int) := rfl
    have hm := Nat.mod_lt u h0
    have hgs : Nat.gcd v (u % v) = G := by rw [← hg, Nat.gcd_comm v, ← Nat.gcd_rec, Nat.gcd_comm]
    obtain ⟨w, hw⟩ : ∃ w, u % v = w := ⟨_, rfl⟩
    rw [hw] at e hm hgs
    simp (disch := first | assumption | omega | (simp only [List.length_append, List.length_cons, List.length_nil]; omega)) only [go_sem, reduceCtorEq, Nat.reduceEqDiff, Nat.reduceAdd, Nat.reduceSub, Nat.reduceMul, Nat.reduceLeDiff, Int.reduceLT, Int.reduceLE, Int.reduceEq, ↓reduceIte, Int.reduceNeg, Int.reduceAdd, Int.reduceSub, Int.reduceMul, true_imp_iff, forall_const, Nat.mul_one, Int.reduceToNat, Nat.reducePow, Int.reducePow, Bool.true_and, Bool.false_and, Bool.and_false, hf, h0', hne, e]
    exact ⟨(v, w), by dsimp only; omega, ⟨hgs, by dsimp only; omega, by dsimp only; omega⟩, rfl, rfl⟩
  · have h0' : ¬ (0 : Int) < v := by omega
    obtain rfl : v = 0 := by omega
    rw [Nat.gcd_zero_right] at hg
    subst hg
    simp (disch := first | assumption | omega | (simp only [List.length_append, List.length_cons, List.length_nil]; omega)) only [go_sem, reduceCtorEq, Nat.reduceEqDiff, Nat.reduceAdd, Nat.reduceSub, Nat.reduceMul, Nat.reduceLeDiff, Int.reduceLT, Int.reduceLE, Int.reduceEq, ↓reduceIte, Int.reduceNeg, Int.reduceAdd, Int.reduceSub, Int.reduceMul, true_imp_iff, forall_const, Nat.mul_one, Int.reduceToNat, Nat.reducePow, Int.reducePow, Bool.true_and, Bool.false_and, Bool.and_false, hf, h0']
    exact retC_by (by repeat' (first | exact Drop.refl _ | with_reducible refine Drop.off ?_ (by assumption))) (.refl _) ⟨rfl, rfl⟩
end Go.A
