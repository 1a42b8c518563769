/- MathsRounds, MathsDivides. -/
import Derived.Test.YtmefepbdognkdaaDoorJf
import Derived.Test.YtmefepbdognkdaaDoorCodeJh
namespace Go.A
open Go.Proofs
set_option maxRecDepth 100000
set_option linter.unusedSimpArgs false
set_option linter.unusedVariables false

theorem tmod_sign (a : Int) (u : Nat) : a.tmod u = if a < 0 then -((a.natAbs % u : Nat) : Int) else ((a.natAbs % u : Nat) : Int) := by
  by_cases h0 : a < 0
  · rw [if_pos h0, show a = -((a.natAbs : Nat) : Int) by omega, Int.neg_tmod, Int.tmod_eq_emod_of_nonneg (by omega), Int.natAbs_neg, Int.natAbs_natCast]
    rfl
  · rw [if_neg h0, Int.tmod_eq_emod_of_nonneg (by omega)]
    conv => lhs; rw [show a = ((a.natAbs : Nat) : Int) by omega]
    rfl
/-- Rounded down, rounded, rounded up. -/
theorem rounds_law {a : Int} (ha : a.natAbs ≤ 999999999999999999) {u : Nat} (hu : u = 1 ∨ u = 10 ∨ u = 100 ∨ u = 1000 ∨ u = 10000) :
    (truncP a u = a → roundP a u = some a) ∧ (truncP a u ≠ a → a.natAbs ≤ (if a < 0 then truncP a u - u else truncP a u + u).natAbs ∧
      (∀ r, roundP a u = some r → r = truncP a u ∨ r = if a < 0 then truncP a u - u else truncP a u + u) ∧ (roundP a u = none → 999999999999989999 < a.natAbs) ∧
      (fitP (if a < 0 then truncP a u - u else truncP a u + u) = none → 999999999999989999 < a.natAbs)) := by
  unfold truncP
  rw [tmod_sign]
  unfold roundP madeP rndN fitP
  rcases hu with rfl | rfl | rfl | rfl | rfl
  all_goals
    by_cases h0 : a < 0
    · simp only [if_pos h0, decide_eq_true h0, if_true]
      refine ⟨fun h => ?_, fun h => ⟨by omega, fun r hr => ?_, fun hr => ?_, fun hr => ?_⟩⟩
      · split <;> (split <;> first | (congr 1; omega) | omega)
      · split at hr <;> (split at hr <;> first | (injection hr with hr; omega) | cases hr)
      · split at hr <;> (split at hr <;> first | omega | cases hr)
      · split at hr <;> first | omega | cases hr
    · simp only [if_neg h0, decide_eq_false h0, Bool.false_eq_true, if_false]
      refine ⟨fun h => ?_, fun h => ⟨by omega, fun r hr => ?_, fun hr => ?_, fun hr => ?_⟩⟩
      · split <;> (split <;> first | (congr 1; omega) | omega)
      · split at hr <;> (split at hr <;> first | (injection hr with hr; omega) | cases hr)
      · split at hr <;> (split at hr <;> first | omega | cases hr)
      · split at hr <;> first | omega | cases hr
theorem given_cnt (o : Option Int) : givenP (cntP o) = (o.getD 0, o.isSome) := by cases o <;> rfl
theorem places_two {a p : Int} (h0 : 0 ≤ p) (h4 : p ≤ 4) : placesM [a, p * 10000] = p := by
  unfold placesM secP
  dsimp only
  rw [Int.mul_tdiv_cancel _ (by omega)]
  omega
theorem rounds_all {a p : Int} (ha : a.natAbs ≤ 999999999999999999) (h0 : 0 ≤ p) (h4 : p ≤ 4) : ∃ (t : Int) (o w : Option Int), truncG a p = t ∧ roundP a (10 ^ (4 - p).toNat) = o ∧ awayP a p = cntP w ∧ t.natAbs ≤ a.natAbs ∧
    (o = none ∨ w = none → 999999999999989999 < a.natAbs) ∧ ∀ r v, o = some r → w = some v → a.natAbs ≤ v.natAbs ∧ (r = t ∨ r = v) ∧ (t ≠ a ∨ v = a) ∧ r.natAbs ≤ 999999999999999999 ∧ v.natAbs ≤ 999999999999999999 := by
  have hst : ∃ u : Nat, (u = 1 ∨ u = 10 ∨ u = 100 ∨ u = 1000 ∨ u = 10000) ∧ 10 ^ (4 - p).toNat = u ∧ truncG a p = truncP a u ∧ awStep p = some (u : Int) := by
    have hp : p = 0 ∨ p = 1 ∨ p = 2 ∨ p = 3 ∨ p = 4 := by omega
    rcases hp with rfl | rfl | rfl | rfl | rfl
    · exact ⟨10000, by simp, by decide, rfl, by decide +kernel⟩
    · exact ⟨1000, by simp, by decide, rfl, by decide +kernel⟩
    · exact ⟨100, by simp, by decide, rfl, by decide +kernel⟩
    · exact ⟨10, by simp, by decide, rfl, by decide +kernel⟩
    · refine ⟨1, by simp, by decide, ?_, by decide +kernel⟩
      unfold truncG truncP
      rw [if_neg (by omega), if_pos (by omega), show ((1 : Nat) : Int) = 1 from rfl, Int.tmod_one, Int.sub_zero]
  obtain ⟨u, hu, e1, e2, e3⟩ := hst
  obtain ⟨l1, l2⟩ := rounds_law ha hu
  have hle := truncP_le a u
  rw [e1]
  refine ⟨_, _, if truncP a u = a then some a else fitP (if a < 0 then truncP a u - u else truncP a u + u), e2, rfl, ?_, hle, ?_, ?_⟩
  · unfold awayP
    rw [e2, e3]
    by_cases ht : truncP a u = a
    · rw [if_pos ht, if_pos ht]; rfl
    · rw [if_neg ht, if_neg ht]
  · by_cases ht : truncP a u = a
    · rw [if_pos ht, l1 ht]
      rintro (h | h) <;> cases h
    · rw [if_neg ht]
      obtain ⟨_, _, h3, h4⟩ := l2 ht
      rintro (h | h)
      · exact h3 h
      · exact h4 h
  · intro r v hr hv
    by_cases ht : truncP a u = a
    · rw [if_pos ht] at hv
      rw [l1 ht] at hr
      injection hr with hr; injection hv with hv
      subst hr hv
      exact ⟨Nat.le_refl _, .inr rfl, .inr rfl, ha, ha⟩
    · rw [if_neg ht] at hv
      obtain ⟨h1, h2, _, _⟩ := l2 ht
      have hvb : v.natAbs ≤ 999999999999999999 ∧ (if a < 0 then truncP a u - u else truncP a u + u) = v := by
        obtain ⟨z, hz⟩ : ∃ z, (if a < 0 then truncP a u - u else truncP a u + u) = z := ⟨_, rfl⟩
        rw [hz] at hv ⊢
        unfold fitP at hv
        split at hv
        · injection hv with hv; exact ⟨by omega, hv⟩
        · cases hv
      rw [hvb.2] at h1 h2
      exact ⟨h1, h2 r hr, .inl ht, roundP_le hr, hvb.1⟩
set_option maxHeartbeats 1000000 in
theorem MathsRounds_any {σ : ASt} (hU : U8 σ) (hT : Tens σ) (a p : Int) : ACalls Tryd.prog 3 [.int .i64 a, .int .i64 p] σ fun v σ' => v = .bool true ∧ σ' = σ := by
  have hA := mawake_ok hU hT
  refine a3 (by simp) ?_
  simp (disch := first | assumption | omega | (simp only [List.length_append, List.length_cons, List.length_nil]; omega)) only [go_sem, reduceCtorEq, Nat.reduceEqDiff, Nat.reduceAdd, Nat.reduceSub, Nat.reduceMul, Nat.reduceLeDiff, Int.reduceLT, Int.reduceLE, Int.reduceEq, ↓reduceIte, Int.reduceNeg, Int.reduceAdd, Int.reduceSub, Int.reduceMul, true_imp_iff, forall_const, Nat.mul_one, Int.reduceToNat, Nat.reducePow, Int.reducePow, Bool.true_and, Bool.false_and, Bool.and_false]
  refine (dgood_ok a).use ?_
  by_cases hg : a.natAbs ≤ 999999999999999999
  · by_cases h0 : p < 0
    · simp (disch := first | assumption | omega | (simp only [List.length_append, List.length_cons, List.length_nil]; omega)) only [go_sem, reduceCtorEq, Nat.reduceEqDiff, Nat.reduceAdd, Nat.reduceSub, Nat.reduceMul, Nat.reduceLeDiff, Int.reduceLT, Int.reduceLE, Int.reduceEq, ↓reduceIte, Int.reduceNeg, Int.reduceAdd, Int.reduceSub, Int.reduceMul, true_imp_iff, forall_const, Nat.mul_one, Int.reduceToNat, Nat.reducePow, Int.reducePow, Bool.true_and, Bool.false_and, Bool.and_false, hg, h0]
      refine hA.mono ?_
      rintro v σ' ⟨rfl, rfl⟩
      simp (disch := first | assumption | omega | (simp only [List.length_append, List.length_cons, List.length_nil]; omega)) only [go_sem, reduceCtorEq, Nat.reduceEqDiff, Nat.reduceAdd, Nat.reduceSub, Nat.reduceMul, Nat.reduceLeDiff, Int.reduceLT, Int.reduceLE, Int.reduceEq, ↓reduceIte, Int.reduceNeg, Int.reduceAdd, Int.reduceSub, Int.reduceMul, true_imp_iff, forall_const, Nat.mul_one, Int.reduceToNat, Nat.reducePow, Int.reducePow, Bool.true_and, Bool.false_and, Bool.and_false]
      exact retC_by (by repeat' (first | exact Drop.refl _ | with_reducible refine Drop.off ?_ (by assumption))) (.refl _) ⟨rfl, rfl⟩
    by_cases h4 : 4 < p
    · simp (disch := first | assumption | omega | (simp only [List.length_append, List.length_cons, List.length_nil]; omega)) only [go_sem, reduceCtorEq, Nat.reduceEqDiff, Nat.reduceAdd, Nat.reduceSub, Nat.reduceMul, Nat.reduceLeDiff, Int.reduceLT, Int.reduceLE, Int.reduceEq, ↓reduceIte, Int.reduceNeg, Int.reduceAdd, Int.reduceSub, Int.reduceMul, true_imp_iff, forall_const, Nat.mul_one, Int.reduceToNat, Nat.reducePow, Int.reducePow, Bool.true_and, Bool.false_and, Bool.and_false, hg, h0, h4]
      refine hA.mono ?_
      rintro v σ' ⟨rfl, rfl⟩
      simp (disch := first | assumption | omega | (simp only [List.length_append, List.length_cons, List.length_nil]; omega)) only [go_sem, reduceCtorEq, Nat.reduceEqDiff, Nat.reduceAdd, Nat.reduceSub, Nat.reduceMul, Nat.reduceLeDiff, Int.reduceLT, Int.reduceLE, Int.reduceEq, ↓reduceIte, Int.reduceNeg, Int.reduceAdd, Int.reduceSub, Int.reduceMul, true_imp_iff, forall_const, Nat.mul_one, Int.reduceToNat, Nat.reducePow, Int.reducePow, Bool.true_and, Bool.false_and, Bool.and_false]
      exact retC_by (by repeat' (first | exact Drop.refl _ | with_reducible refine Drop.off ?_ (by assumption))) (.refl _) ⟨rfl, rfl⟩
    have hpl := places_two (a := a) (p := p) (by omega) (by omega)
    have hpb : (p * 10000).natAbs ≤ 999999999999999999 := by omega
    obtain ⟨t, o, w, et, eo, ew, htb, hnone, hboth⟩ := rounds_all hg (show 0 ≤ p by omega) (show p ≤ 4 by omega)
    have hD := one_ok (σ := σ) sDOWN [a, p * 10000] _ (by simp) (fun σ' hk => call_down (hk.tens hT) hg hpb)
    have hR := one_ok (σ := σ) sROUND [a, p * 10000] (cntP o) (by simp) (fun σ' hk => call_round (hk.tens hT) hg hpb (by rw [hpl, ← eo]; exact round_ok4 (hk.tens hT) hg (by omega) (by omega)))
    have hP := one_ok (σ := σ) sUP [a, p * 10000] _ (by simp) (fun σ' hk => call_up (hk.tens hT) hg hpb)
    rw [hpl, et] at hD
    rw [hpl, ew, given_cnt] at hP
    rw [given_cnt] at hR
    simp only [sDOWN, sROUND, sUP, List.map_cons, List.map_nil, givenP] at hD hR hP
    have hAa := abs_ok a (by omega) (by omega)
    have hAt := abs_ok t (by omega) (by omega)
    obtain ⟨F, hF⟩ : ∃ F, F = ACode.wp Tryd.prog c3_22 := ⟨_, rfl⟩
    have fin : ∀ (a1 : AFr), (a1 0 = .int .i64 a ∧ a1 6 = .int .i64 t ∧ a1 8 = .int .i64 (o.getD 0) ∧ a1 9 = .bool o.isSome ∧ a1 10 = .int .i64 (w.getD 0) ∧ a1 11 = .bool w.isSome) → F (RetQ [.t 4] fun v σ' => v = .bool true ∧ σ' = σ) a1 σ := by
      intro a1 hf
      rw [hF]
      cases ho : o with
      | none =>
        rw [ho] at hf
        simp only [Option.getD_none, Option.isSome_none] at hf
        have hb := hnone (.inl ho)
        have hb' : (999999999999989999 : Int) < (a.natAbs : Nat) := by omega
        simp (disch := first | assumption | omega | (simp only [List.length_append, List.length_cons, List.length_nil]; omega)) only [go_sem, reduceCtorEq, Nat.reduceEqDiff, Nat.reduceAdd, Nat.reduceSub, Nat.reduceMul, Nat.reduceLeDiff, Int.reduceLT, Int.reduceLE, Int.reduceEq, ↓reduceIte, Int.reduceNeg, Int.reduceAdd, Int.reduceSub, Int.reduceMul, true_imp_iff, forall_const, Nat.mul_one, Int.reduceToNat, Nat.reducePow, Int.reducePow, Bool.true_and, Bool.false_and, Bool.and_false, hf]
        refine hA.mono ?_
        rintro v σ' ⟨rfl, rfl⟩
        simp (disch := first | assumption | omega | (simp only [List.length_append, List.length_cons, List.length_nil]; omega)) only [go_sem, reduceCtorEq, Nat.reduceEqDiff, Nat.reduceAdd, Nat.reduceSub, Nat.reduceMul, Nat.reduceLeDiff, Int.reduceLT, Int.reduceLE, Int.reduceEq, ↓reduceIte, Int.reduceNeg, Int.reduceAdd, Int.reduceSub, Int.reduceMul, true_imp_iff, forall_const, Nat.mul_one, Int.reduceToNat, Nat.reducePow, Int.reducePow, Bool.true_and, Bool.false_and, Bool.and_false, hf]
        refine hAa.use ?_
        simp (disch := first | assumption | omega | (simp only [List.length_append, List.length_cons, List.length_nil]; omega)) only [go_sem, reduceCtorEq, Nat.reduceEqDiff, Nat.reduceAdd, Nat.reduceSub, Nat.reduceMul, Nat.reduceLeDiff, Int.reduceLT, Int.reduceLE, Int.reduceEq, ↓reduceIte, Int.reduceNeg, Int.reduceAdd, Int.reduceSub, Int.reduceMul, true_imp_iff, forall_const, Nat.mul_one, Int.reduceToNat, Nat.reducePow, Int.reducePow, Bool.true_and, Bool.false_and, Bool.and_false, hb']
        exact retC_by (by repeat' (first | exact Drop.refl _ | with_reducible refine Drop.off ?_ (by assumption))) (.refl _) ⟨rfl, rfl⟩
      | some r =>
        rw [ho] at hf
        simp only [Option.getD_some, Option.isSome_some] at hf
        cases hw : w with
        | none =>
          rw [hw] at hf
          simp only [Option.getD_none, Option.isSome_none] at hf
          have hb := hnone (.inr hw)
          have hb' : (999999999999989999 : Int) < (a.natAbs : Nat) := by omega
          simp (disch := first | assumption | omega | (simp only [List.length_append, List.length_cons, List.length_nil]; omega)) only [go_sem, reduceCtorEq, Nat.reduceEqDiff, Nat.reduceAdd, Nat.reduceSub, Nat.reduceMul, Nat.reduceLeDiff, Int.reduceLT, Int.reduceLE, Int.reduceEq, ↓reduceIte, Int.reduceNeg, Int.reduceAdd, Int.reduceSub, Int.reduceMul, true_imp_iff, forall_const, Nat.mul_one, Int.reduceToNat, Nat.reducePow, Int.reducePow, Bool.true_and, Bool.false_and, Bool.and_false, hf]
          refine hA.mono ?_
          rintro v σ' ⟨rfl, rfl⟩
          simp (disch := first | assumption | omega | (simp only [List.length_append, List.length_cons, List.length_nil]; omega)) only [go_sem, reduceCtorEq, Nat.reduceEqDiff, Nat.reduceAdd, Nat.reduceSub, Nat.reduceMul, Nat.reduceLeDiff, Int.reduceLT, Int.reduceLE, Int.reduceEq, ↓reduceIte, Int.reduceNeg, Int.reduceAdd, Int.reduceSub, Int.reduceMul, true_imp_iff, forall_const, Nat.mul_one, Int.reduceToNat, Nat.reducePow, Int.reducePow, Bool.true_and, Bool.false_and, Bool.and_false, hf]
          refine hAa.use ?_
          simp (disch := first | assumption | omega | (simp only [List.length_append, List.length_cons, List.length_nil]; omega)) only [go_sem, reduceCtorEq, Nat.reduceEqDiff, Nat.reduceAdd, Nat.reduceSub, Nat.reduceMul, Nat.reduceLeDiff, Int.reduceLT, Int.reduceLE, Int.reduceEq, ↓reduceIte, Int.reduceNeg, Int.reduceAdd, Int.reduceSub, Int.reduceMul, true_imp_iff, forall_const, Nat.mul_one, Int.reduceToNat, Nat.reducePow, Int.reducePow, Bool.true_and, Bool.false_and, Bool.and_false, hb']
          exact retC_by (by repeat' (first | exact Drop.refl _ | with_reducible refine Drop.off ?_ (by assumption))) (.refl _) ⟨rfl, rfl⟩
        | some v =>
          rw [hw] at hf
          simp only [Option.getD_some, Option.isSome_some] at hf
          obtain ⟨b1, b2, b3, b4, b5⟩ := hboth r v ho hw
          have hAv := abs_ok v (by omega) (by omega)
          have g1 : ((t.natAbs : Nat) : Int) ≤ (a.natAbs : Nat) := by omega
          have g2 : ((a.natAbs : Nat) : Int) ≤ (v.natAbs : Nat) := by omega
          simp (disch := first | assumption | omega | (simp only [List.length_append, List.length_cons, List.length_nil]; omega)) only [go_sem, reduceCtorEq, Nat.reduceEqDiff, Nat.reduceAdd, Nat.reduceSub, Nat.reduceMul, Nat.reduceLeDiff, Int.reduceLT, Int.reduceLE, Int.reduceEq, ↓reduceIte, Int.reduceNeg, Int.reduceAdd, Int.reduceSub, Int.reduceMul, true_imp_iff, forall_const, Nat.mul_one, Int.reduceToNat, Nat.reducePow, Int.reducePow, Bool.true_and, Bool.false_and, Bool.and_false, hf]
          refine hA.mono ?_
          rintro v σ' ⟨rfl, rfl⟩
          simp (disch := first | assumption | omega | (simp only [List.length_append, List.length_cons, List.length_nil]; omega)) only [go_sem, reduceCtorEq, Nat.reduceEqDiff, Nat.reduceAdd, Nat.reduceSub, Nat.reduceMul, Nat.reduceLeDiff, Int.reduceLT, Int.reduceLE, Int.reduceEq, ↓reduceIte, Int.reduceNeg, Int.reduceAdd, Int.reduceSub, Int.reduceMul, true_imp_iff, forall_const, Nat.mul_one, Int.reduceToNat, Nat.reducePow, Int.reducePow, Bool.true_and, Bool.false_and, Bool.and_false, hf]
          refine hAt.use ?_
          simp (disch := first | assumption | omega | (simp only [List.length_append, List.length_cons, List.length_nil]; omega)) only [go_sem, reduceCtorEq, Nat.reduceEqDiff, Nat.reduceAdd, Nat.reduceSub, Nat.reduceMul, Nat.reduceLeDiff, Int.reduceLT, Int.reduceLE, Int.reduceEq, ↓reduceIte, Int.reduceNeg, Int.reduceAdd, Int.reduceSub, Int.reduceMul, true_imp_iff, forall_const, Nat.mul_one, Int.reduceToNat, Nat.reducePow, Int.reducePow, Bool.true_and, Bool.false_and, Bool.and_false, hf]
          refine hAa.use ?_
          simp (disch := first | assumption | omega | (simp only [List.length_append, List.length_cons, List.length_nil]; omega)) only [go_sem, reduceCtorEq, Nat.reduceEqDiff, Nat.reduceAdd, Nat.reduceSub, Nat.reduceMul, Nat.reduceLeDiff, Int.reduceLT, Int.reduceLE, Int.reduceEq, ↓reduceIte, Int.reduceNeg, Int.reduceAdd, Int.reduceSub, Int.reduceMul, true_imp_iff, forall_const, Nat.mul_one, Int.reduceToNat, Nat.reducePow, Int.reducePow, Bool.true_and, Bool.false_and, Bool.and_false, hf, g1]
          refine hAa.use ?_
          simp (disch := first | assumption | omega | (simp only [List.length_append, List.length_cons, List.length_nil]; omega)) only [go_sem, reduceCtorEq, Nat.reduceEqDiff, Nat.reduceAdd, Nat.reduceSub, Nat.reduceMul, Nat.reduceLeDiff, Int.reduceLT, Int.reduceLE, Int.reduceEq, ↓reduceIte, Int.reduceNeg, Int.reduceAdd, Int.reduceSub, Int.reduceMul, true_imp_iff, forall_const, Nat.mul_one, Int.reduceToNat, Nat.reducePow, Int.reducePow, Bool.true_and, Bool.false_and, Bool.and_false, hf]
          refine hAv.use ?_
          by_cases c1 : r = t
          · by_cases c2 : t = a
            · have c3 := b3.resolve_left (fun h => h c2)
              simp (disch := first | assumption | omega | (simp only [List.length_append, List.length_cons, List.length_nil]; omega)) only [go_sem, reduceCtorEq, Nat.reduceEqDiff, Nat.reduceAdd, Nat.reduceSub, Nat.reduceMul, Nat.reduceLeDiff, Int.reduceLT, Int.reduceLE, Int.reduceEq, ↓reduceIte, Int.reduceNeg, Int.reduceAdd, Int.reduceSub, Int.reduceMul, true_imp_iff, forall_const, Nat.mul_one, Int.reduceToNat, Nat.reducePow, Int.reducePow, Bool.true_and, Bool.false_and, Bool.and_false, hf, g2, c1, c2, c3]
              exact retC_by (by repeat' (first | exact Drop.refl _ | with_reducible refine Drop.off ?_ (by assumption))) (.refl _) ⟨rfl, rfl⟩
            · simp (disch := first | assumption | omega | (simp only [List.length_append, List.length_cons, List.length_nil]; omega)) only [go_sem, reduceCtorEq, Nat.reduceEqDiff, Nat.reduceAdd, Nat.reduceSub, Nat.reduceMul, Nat.reduceLeDiff, Int.reduceLT, Int.reduceLE, Int.reduceEq, ↓reduceIte, Int.reduceNeg, Int.reduceAdd, Int.reduceSub, Int.reduceMul, true_imp_iff, forall_const, Nat.mul_one, Int.reduceToNat, Nat.reducePow, Int.reducePow, Bool.true_and, Bool.false_and, Bool.and_false, hf, g2, c1, c2]
              exact retC_by (by repeat' (first | exact Drop.refl _ | with_reducible refine Drop.off ?_ (by assumption))) (.refl _) ⟨rfl, rfl⟩
          · have c4 := b2.resolve_left c1
            by_cases c2 : t = a
            · have c3 := b3.resolve_left (fun h => h c2)
              subst c4
              simp (disch := first | assumption | omega | (simp only [List.length_append, List.length_cons, List.length_nil]; omega)) only [go_sem, reduceCtorEq, Nat.reduceEqDiff, Nat.reduceAdd, Nat.reduceSub, Nat.reduceMul, Nat.reduceLeDiff, Int.reduceLT, Int.reduceLE, Int.reduceEq, ↓reduceIte, Int.reduceNeg, Int.reduceAdd, Int.reduceSub, Int.reduceMul, true_imp_iff, forall_const, Nat.mul_one, Int.reduceToNat, Nat.reducePow, Int.reducePow, Bool.true_and, Bool.false_and, Bool.and_false, hf, g2, c1, c2, c3]
              exact retC_by (by repeat' (first | exact Drop.refl _ | with_reducible refine Drop.off ?_ (by assumption))) (.refl _) ⟨rfl, rfl⟩
            · subst c4
              simp (disch := first | assumption | omega | (simp only [List.length_append, List.length_cons, List.length_nil]; omega)) only [go_sem, reduceCtorEq, Nat.reduceEqDiff, Nat.reduceAdd, Nat.reduceSub, Nat.reduceMul, Nat.reduceLeDiff, Int.reduceLT, Int.reduceLE, Int.reduceEq, ↓reduceIte, Int.reduceNeg, Int.reduceAdd, Int.reduceSub, Int.reduceMul, true_imp_iff, forall_const, Nat.mul_one, Int.reduceToNat, Nat.reducePow, Int.reducePow, Bool.true_and, Bool.false_and, Bool.and_false, hf, g2, c1, c2]
              exact retC_by (by repeat' (first | exact Drop.refl _ | with_reducible refine Drop.off ?_ (by assumption))) (.refl _) ⟨rfl, rfl⟩
    simp (disch := first | assumption | omega | (simp only [List.length_append, List.length_cons, List.length_nil]; omega)) only [go_sem, reduceCtorEq, Nat.reduceEqDiff, Nat.reduceAdd, Nat.reduceSub, Nat.reduceMul, Nat.reduceLeDiff, Int.reduceLT, Int.reduceLE, Int.reduceEq, ↓reduceIte, Int.reduceNeg, Int.reduceAdd, Int.reduceSub, Int.reduceMul, true_imp_iff, forall_const, Nat.mul_one, Int.reduceToNat, Nat.reducePow, Int.reducePow, Bool.true_and, Bool.false_and, Bool.and_false, hg, h0, h4, ←hF]
    refine hD.mono ?_
    rintro v σ' ⟨rfl, rfl⟩
    simp (disch := first | assumption | omega | (simp only [List.length_append, List.length_cons, List.length_nil]; omega)) only [go_sem, reduceCtorEq, Nat.reduceEqDiff, Nat.reduceAdd, Nat.reduceSub, Nat.reduceMul, Nat.reduceLeDiff, Int.reduceLT, Int.reduceLE, Int.reduceEq, ↓reduceIte, Int.reduceNeg, Int.reduceAdd, Int.reduceSub, Int.reduceMul, true_imp_iff, forall_const, Nat.mul_one, Int.reduceToNat, Nat.reducePow, Int.reducePow, Bool.true_and, Bool.false_and, Bool.and_false, ←hF]
    refine hR.mono ?_
    rintro v σ' ⟨rfl, rfl⟩
    simp (disch := first | assumption | omega | (simp only [List.length_append, List.length_cons, List.length_nil]; omega)) only [go_sem, reduceCtorEq, Nat.reduceEqDiff, Nat.reduceAdd, Nat.reduceSub, Nat.reduceMul, Nat.reduceLeDiff, Int.reduceLT, Int.reduceLE, Int.reduceEq, ↓reduceIte, Int.reduceNeg, Int.reduceAdd, Int.reduceSub, Int.reduceMul, true_imp_iff, forall_const, Nat.mul_one, Int.reduceToNat, Nat.reducePow, Int.reducePow, Bool.true_and, Bool.false_and, Bool.and_false, ←hF]
    refine hP.mono ?_
    rintro v σ' ⟨rfl, rfl⟩
    simp (disch := first | assumption | omega | (simp only [List.length_append, List.length_cons, List.length_nil]; omega)) only [go_sem, reduceCtorEq, Nat.reduceEqDiff, Nat.reduceAdd, Nat.reduceSub, Nat.reduceMul, Nat.reduceLeDiff, Int.reduceLT, Int.reduceLE, Int.reduceEq, ↓reduceIte, Int.reduceNeg, Int.reduceAdd, Int.reduceSub, Int.reduceMul, true_imp_iff, forall_const, Nat.mul_one, Int.reduceToNat, Nat.reducePow, Int.reducePow, Bool.true_and, Bool.false_and, Bool.and_false, ←hF]
    refine fin _ ?_
    simp (disch := first | assumption | omega | (simp only [List.length_append, List.length_cons, List.length_nil]; omega)) only [go_sem, reduceCtorEq, Nat.reduceEqDiff, Nat.reduceAdd, Nat.reduceSub, Nat.reduceMul, Nat.reduceLeDiff, Int.reduceLT, Int.reduceLE, Int.reduceEq, ↓reduceIte, Int.reduceNeg, Int.reduceAdd, Int.reduceSub, Int.reduceMul, true_imp_iff, forall_const, Nat.mul_one, Int.reduceToNat, Nat.reducePow, Int.reducePow, Bool.true_and, Bool.false_and, Bool.and_false]
  · simp (disch := first | assumption | omega | (simp only [List.length_append, List.length_cons, List.length_nil]; omega)) only [go_sem, reduceCtorEq, Nat.reduceEqDiff, Nat.reduceAdd, Nat.reduceSub, Nat.reduceMul, Nat.reduceLeDiff, Int.reduceLT, Int.reduceLE, Int.reduceEq, ↓reduceIte, Int.reduceNeg, Int.reduceAdd, Int.reduceSub, Int.reduceMul, true_imp_iff, forall_const, Nat.mul_one, Int.reduceToNat, Nat.reducePow, Int.reducePow, Bool.true_and, Bool.false_and, Bool.and_false, hg]
    refine hA.mono ?_
    rintro v σ' ⟨rfl, rfl⟩
    simp (disch := first | assumption | omega | (simp only [List.length_append, List.length_cons, List.length_nil]; omega)) only [go_sem, reduceCtorEq, Nat.reduceEqDiff, Nat.reduceAdd, Nat.reduceSub, Nat.reduceMul, Nat.reduceLeDiff, Int.reduceLT, Int.reduceLE, Int.reduceEq, ↓reduceIte, Int.reduceNeg, Int.reduceAdd, Int.reduceSub, Int.reduceMul, true_imp_iff, forall_const, Nat.mul_one, Int.reduceToNat, Nat.reducePow, Int.reducePow, Bool.true_and, Bool.false_and, Bool.and_false]
    exact retC_by (by repeat' (first | exact Drop.refl _ | with_reducible refine Drop.off ?_ (by assumption))) (.refl _) ⟨rfl, rfl⟩
end Go.A
