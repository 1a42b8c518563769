/- References' texts, walked. -/
import Derived.Test.YtfjnahkcfdcbeaaDoorWa
import Derived.Test.YtfjnahkcfdcbeaaDoorWc
namespace Go.A
open Go.Proofs
set_option maxRecDepth 100000
set_option linter.unusedSimpArgs false
set_option linter.unusedVariables false

theorem dollar_ok (b : Bool) : Pure Tryd.prog 29 [.bool b] (.str (dolP b)) := by
  intro σ
  refine a29 (by simp) ?_
  cases b
  · simp (disch := first | assumption | omega | (simp only [List.length_append]; omega)) only [go_sem, reduceCtorEq, Nat.reduceEqDiff, Nat.reduceAdd, Nat.reduceSub, Nat.reduceMul, Nat.reduceLeDiff, Int.reduceLT, Int.reduceLE, Int.reduceEq, ↓reduceIte, Int.reduceNeg, Int.reduceAdd, Int.reduceSub, Int.reduceMul, true_imp_iff, forall_const, Nat.mul_one, Int.reduceToNat, Nat.reducePow, Int.reducePow, Bool.true_and, Bool.false_and, Bool.and_false]
    exact retC_by (Drop.refl _) (.refl _) ⟨rfl, rfl⟩
  · simp (disch := first | assumption | omega | (simp only [List.length_append]; omega)) only [go_sem, reduceCtorEq, Nat.reduceEqDiff, Nat.reduceAdd, Nat.reduceSub, Nat.reduceMul, Nat.reduceLeDiff, Int.reduceLT, Int.reduceLE, Int.reduceEq, ↓reduceIte, Int.reduceNeg, Int.reduceAdd, Int.reduceSub, Int.reduceMul, true_imp_iff, forall_const, Nat.mul_one, Int.reduceToNat, Nat.reducePow, Int.reducePow, Bool.true_and, Bool.false_and, Bool.and_false]
    exact retC_by (Drop.refl _) (.refl _) ⟨rfl, rfl⟩
theorem text_ok {σ : ASt} (ht : Tab σ) {r : Ref} (hg : r.good = true) : ACalls Tryd.prog 12 [refAV r] σ fun v σ' => v = .str (textP r) ∧ σ' = σ := by
  have hg' := hg
  simp only [Ref.good, decide_eq_true_eq] at hg'
  obtain ⟨g1, g2, g3, g4⟩ := hg'
  have hi := itoa_num g1 g2
  have hl := letters_len r.col
  have hn := (num_facts g1 g2).2.2.2.1
  have hd1 : (dolP r.absCol).length ≤ 1 := by unfold dolP; split <;> simp
  have hd2 : (dolP r.absRow).length ≤ 1 := by unfold dolP; split <;> simp
  obtain ⟨l, hlq⟩ : ∃ l, textP r = l := ⟨_, rfl⟩
  rw [hlq]
  unfold textP at hlq
  refine a12 (by simp) ?_
  simp (disch := first | assumption | omega | (simp only [List.length_append]; omega)) only [go_sem, reduceCtorEq, Nat.reduceEqDiff, Nat.reduceAdd, Nat.reduceSub, Nat.reduceMul, Nat.reduceLeDiff, Int.reduceLT, Int.reduceLE, Int.reduceEq, ↓reduceIte, Int.reduceNeg, Int.reduceAdd, Int.reduceSub, Int.reduceMul, true_imp_iff, forall_const, Nat.mul_one, Int.reduceToNat, Nat.reducePow, Int.reducePow, Bool.true_and, Bool.false_and, Bool.and_false, refAV]
  refine boxC_by rfl fun b hb => ?_
  simp (disch := first | assumption | omega | (simp only [List.length_append]; omega)) only [go_sem, reduceCtorEq, Nat.reduceEqDiff, Nat.reduceAdd, Nat.reduceSub, Nat.reduceMul, Nat.reduceLeDiff, Int.reduceLT, Int.reduceLE, Int.reduceEq, ↓reduceIte, Int.reduceNeg, Int.reduceAdd, Int.reduceSub, Int.reduceMul, true_imp_iff, forall_const, Nat.mul_one, Int.reduceToNat, Nat.reducePow, Int.reducePow, Bool.true_and, Bool.false_and, Bool.and_false]
  refine (dollar_ok _).use ?_
  simp (disch := first | assumption | omega | (simp only [List.length_append]; omega)) only [go_sem, reduceCtorEq, Nat.reduceEqDiff, Nat.reduceAdd, Nat.reduceSub, Nat.reduceMul, Nat.reduceLeDiff, Int.reduceLT, Int.reduceLE, Int.reduceEq, ↓reduceIte, Int.reduceNeg, Int.reduceAdd, Int.reduceSub, Int.reduceMul, true_imp_iff, forall_const, Nat.mul_one, Int.reduceToNat, Nat.reducePow, Int.reducePow, Bool.true_and, Bool.false_and, Bool.and_false]
  refine (letters_ok _).use ?_
  simp (disch := first | assumption | omega | (simp only [List.length_append]; omega)) only [go_sem, reduceCtorEq, Nat.reduceEqDiff, Nat.reduceAdd, Nat.reduceSub, Nat.reduceMul, Nat.reduceLeDiff, Int.reduceLT, Int.reduceLE, Int.reduceEq, ↓reduceIte, Int.reduceNeg, Int.reduceAdd, Int.reduceSub, Int.reduceMul, true_imp_iff, forall_const, Nat.mul_one, Int.reduceToNat, Nat.reducePow, Int.reducePow, Bool.true_and, Bool.false_and, Bool.and_false]
  refine (dollar_ok _).use ?_
  simp (disch := first | assumption | omega | (simp only [List.length_append]; omega)) only [go_sem, reduceCtorEq, Nat.reduceEqDiff, Nat.reduceAdd, Nat.reduceSub, Nat.reduceMul, Nat.reduceLeDiff, Int.reduceLT, Int.reduceLE, Int.reduceEq, ↓reduceIte, Int.reduceNeg, Int.reduceAdd, Int.reduceSub, Int.reduceMul, true_imp_iff, forall_const, Nat.mul_one, Int.reduceToNat, Nat.reducePow, Int.reducePow, Bool.true_and, Bool.false_and, Bool.and_false]
  refine (itoa_ok (ht.set hb) (by omega) (by omega)).mono ?_
  rintro v σ' ⟨rfl, rfl⟩
  rw [hi]
  simp (disch := first | assumption | omega | (simp only [List.length_append]; omega)) only [go_sem, reduceCtorEq, Nat.reduceEqDiff, Nat.reduceAdd, Nat.reduceSub, Nat.reduceMul, Nat.reduceLeDiff, Int.reduceLT, Int.reduceLE, Int.reduceEq, ↓reduceIte, Int.reduceNeg, Int.reduceAdd, Int.reduceSub, Int.reduceMul, true_imp_iff, forall_const, Nat.mul_one, Int.reduceToNat, Nat.reducePow, Int.reducePow, Bool.true_and, Bool.false_and, Bool.and_false, hlq]
  exact retC_by (by repeat' (first | exact Drop.refl _ | with_reducible refine Drop.off ?_ (by assumption))) (.refl _) ⟨rfl, rfl⟩
theorem atext_ok {σ : ASt} (ht : Tab σ) {a b : Ref} (ha : a.good = true) (hb : b.good = true) : ACalls Tryd.prog 14 [areaAV a b] σ fun v σ' => v = .str (textP a ++ [58] ++ textP b) ∧ σ' = σ := by
  have l1 := text_len ha
  have l2 := text_len hb
  refine a14 (by simp) ?_
  simp (disch := first | assumption | omega | (simp only [List.length_append]; omega)) only [go_sem, reduceCtorEq, Nat.reduceEqDiff, Nat.reduceAdd, Nat.reduceSub, Nat.reduceMul, Nat.reduceLeDiff, Int.reduceLT, Int.reduceLE, Int.reduceEq, ↓reduceIte, Int.reduceNeg, Int.reduceAdd, Int.reduceSub, Int.reduceMul, true_imp_iff, forall_const, Nat.mul_one, Int.reduceToNat, Nat.reducePow, Int.reducePow, Bool.true_and, Bool.false_and, Bool.and_false, areaAV]
  refine boxC_by rfl fun b0 hb0 => ?_
  simp (disch := first | assumption | omega | (simp only [List.length_append]; omega)) only [go_sem, reduceCtorEq, Nat.reduceEqDiff, Nat.reduceAdd, Nat.reduceSub, Nat.reduceMul, Nat.reduceLeDiff, Int.reduceLT, Int.reduceLE, Int.reduceEq, ↓reduceIte, Int.reduceNeg, Int.reduceAdd, Int.reduceSub, Int.reduceMul, true_imp_iff, forall_const, Nat.mul_one, Int.reduceToNat, Nat.reducePow, Int.reducePow, Bool.true_and, Bool.false_and, Bool.and_false]
  refine (text_ok (ht.set hb0) ha).mono ?_
  rintro v σ' ⟨rfl, rfl⟩
  have e1 : binS .add (textP a) [58] = some (.str (textP a ++ [58])) := binS_add (by simp only [List.length_cons, List.length_nil]; omega)
  have e2 : binS .add (textP a ++ [58]) (textP b) = some (.str (textP a ++ [58] ++ textP b)) := binS_add (by simp only [List.length_append, List.length_cons, List.length_nil]; omega)
  simp (disch := first | assumption | omega | (simp only [List.length_append]; omega)) only [go_sem, reduceCtorEq, Nat.reduceEqDiff, Nat.reduceAdd, Nat.reduceSub, Nat.reduceMul, Nat.reduceLeDiff, Int.reduceLT, Int.reduceLE, Int.reduceEq, ↓reduceIte, Int.reduceNeg, Int.reduceAdd, Int.reduceSub, Int.reduceMul, true_imp_iff, forall_const, Nat.mul_one, Int.reduceToNat, Nat.reducePow, Int.reducePow, Bool.true_and, Bool.false_and, Bool.and_false, e1]
  refine (text_ok (ht.set hb0) hb).mono ?_
  rintro v σ' ⟨rfl, rfl⟩
  simp (disch := first | assumption | omega | (simp only [List.length_append]; omega)) only [go_sem, reduceCtorEq, Nat.reduceEqDiff, Nat.reduceAdd, Nat.reduceSub, Nat.reduceMul, Nat.reduceLeDiff, Int.reduceLT, Int.reduceLE, Int.reduceEq, ↓reduceIte, Int.reduceNeg, Int.reduceAdd, Int.reduceSub, Int.reduceMul, true_imp_iff, forall_const, Nat.mul_one, Int.reduceToNat, Nat.reducePow, Int.reducePow, Bool.true_and, Bool.false_and, Bool.and_false, e2]
  exact retC_by (by repeat' (first | exact Drop.refl _ | with_reducible refine Drop.off ?_ (by assumption))) (.refl _) ⟨rfl, rfl⟩

set_option maxHeartbeats 1000000 in
theorem AddrBack_any {σ : ASt} (ht : Tab σ) (a b : Ref) : ACalls Tryd.prog 3 [refAV a, refAV b] σ fun v σ' => v = .bool true ∧ σ' = σ := by
  obtain ⟨ga, hga⟩ : ∃ g, a.good = g := ⟨_, rfl⟩
  obtain ⟨gb, hgb⟩ : ∃ g, b.good = g := ⟨_, rfl⟩
  refine a3 (by simp) ?_
  obtain ⟨F, hF⟩ : ∃ F, F = ACode.wp Tryd.prog c3_11 := ⟨_, rfl⟩
  simp (disch := first | assumption | omega | (simp only [List.length_append]; omega)) only [go_sem, reduceCtorEq, Nat.reduceEqDiff, Nat.reduceAdd, Nat.reduceSub, Nat.reduceMul, Nat.reduceLeDiff, Int.reduceLT, Int.reduceLE, Int.reduceEq, ↓reduceIte, Int.reduceNeg, Int.reduceAdd, Int.reduceSub, Int.reduceMul, true_imp_iff, forall_const, Nat.mul_one, Int.reduceToNat, Nat.reducePow, Int.reducePow, Bool.true_and, Bool.false_and, Bool.and_false, refAV, ←hF]
  refine boxC_by rfl fun b0 hb0 => ?_
  simp (disch := first | assumption | omega | (simp only [List.length_append]; omega)) only [go_sem, reduceCtorEq, Nat.reduceEqDiff, Nat.reduceAdd, Nat.reduceSub, Nat.reduceMul, Nat.reduceLeDiff, Int.reduceLT, Int.reduceLE, Int.reduceEq, ↓reduceIte, Int.reduceNeg, Int.reduceAdd, Int.reduceSub, Int.reduceMul, true_imp_iff, forall_const, Nat.mul_one, Int.reduceToNat, Nat.reducePow, Int.reducePow, Bool.true_and, Bool.false_and, Bool.and_false, ←hF]
  refine boxC_by rfl fun b1 hb1 => ?_
  repeat (with_reducible replace hb1 := set_none hb1; obtain ⟨_, _, hb1⟩ := hb1)
  have ht1 := ht.set (r := some (.obj [.int .i64 a.row, .int .i64 a.col, .bool a.absRow, .bool a.absCol])) hb0
  have hn1 : (σ.set b0 (some (.obj [.int .i64 a.row, .int .i64 a.col, .bool a.absRow, .bool a.absCol]))) b1 = none := by rw [ASt.set_ne (by assumption)]; exact hb1
  have ht2 := ht1.set (r := some (.obj [.int .i64 b.row, .int .i64 b.col, .bool b.absRow, .bool b.absCol])) hn1
  have hGa := good_ok a
  have hGb := good_ok b
  rw [hga] at hGa
  rw [hgb] at hGb
  simp (disch := first | assumption | omega | (simp only [List.length_append]; omega)) only [go_sem, reduceCtorEq, Nat.reduceEqDiff, Nat.reduceAdd, Nat.reduceSub, Nat.reduceMul, Nat.reduceLeDiff, Int.reduceLT, Int.reduceLE, Int.reduceEq, ↓reduceIte, Int.reduceNeg, Int.reduceAdd, Int.reduceSub, Int.reduceMul, true_imp_iff, forall_const, Nat.mul_one, Int.reduceToNat, Nat.reducePow, Int.reducePow, Bool.true_and, Bool.false_and, Bool.and_false, ←hF]
  refine hGa.use ?_
  cases ga with
  | false =>
    simp (disch := first | assumption | omega | (simp only [List.length_append]; omega)) only [go_sem, reduceCtorEq, Nat.reduceEqDiff, Nat.reduceAdd, Nat.reduceSub, Nat.reduceMul, Nat.reduceLeDiff, Int.reduceLT, Int.reduceLE, Int.reduceEq, ↓reduceIte, Int.reduceNeg, Int.reduceAdd, Int.reduceSub, Int.reduceMul, true_imp_iff, forall_const, Nat.mul_one, Int.reduceToNat, Nat.reducePow, Int.reducePow, Bool.true_and, Bool.false_and, Bool.and_false, ←hF]
    refine aawake_ok.use ?_
    simp (disch := first | assumption | omega | (simp only [List.length_append]; omega)) only [go_sem, reduceCtorEq, Nat.reduceEqDiff, Nat.reduceAdd, Nat.reduceSub, Nat.reduceMul, Nat.reduceLeDiff, Int.reduceLT, Int.reduceLE, Int.reduceEq, ↓reduceIte, Int.reduceNeg, Int.reduceAdd, Int.reduceSub, Int.reduceMul, true_imp_iff, forall_const, Nat.mul_one, Int.reduceToNat, Nat.reducePow, Int.reducePow, Bool.true_and, Bool.false_and, Bool.and_false, ←hF]
    exact retC_by (by repeat' (first | exact Drop.refl _ | with_reducible refine Drop.off ?_ (by assumption))) (.refl _) ⟨rfl, rfl⟩
  | true =>
  simp (disch := first | assumption | omega | (simp only [List.length_append]; omega)) only [go_sem, reduceCtorEq, Nat.reduceEqDiff, Nat.reduceAdd, Nat.reduceSub, Nat.reduceMul, Nat.reduceLeDiff, Int.reduceLT, Int.reduceLE, Int.reduceEq, ↓reduceIte, Int.reduceNeg, Int.reduceAdd, Int.reduceSub, Int.reduceMul, true_imp_iff, forall_const, Nat.mul_one, Int.reduceToNat, Nat.reducePow, Int.reducePow, Bool.true_and, Bool.false_and, Bool.and_false, ←hF]
  refine hGb.use ?_
  cases gb with
  | false =>
    simp (disch := first | assumption | omega | (simp only [List.length_append]; omega)) only [go_sem, reduceCtorEq, Nat.reduceEqDiff, Nat.reduceAdd, Nat.reduceSub, Nat.reduceMul, Nat.reduceLeDiff, Int.reduceLT, Int.reduceLE, Int.reduceEq, ↓reduceIte, Int.reduceNeg, Int.reduceAdd, Int.reduceSub, Int.reduceMul, true_imp_iff, forall_const, Nat.mul_one, Int.reduceToNat, Nat.reducePow, Int.reducePow, Bool.true_and, Bool.false_and, Bool.and_false, ←hF]
    refine aawake_ok.use ?_
    simp (disch := first | assumption | omega | (simp only [List.length_append]; omega)) only [go_sem, reduceCtorEq, Nat.reduceEqDiff, Nat.reduceAdd, Nat.reduceSub, Nat.reduceMul, Nat.reduceLeDiff, Int.reduceLT, Int.reduceLE, Int.reduceEq, ↓reduceIte, Int.reduceNeg, Int.reduceAdd, Int.reduceSub, Int.reduceMul, true_imp_iff, forall_const, Nat.mul_one, Int.reduceToNat, Nat.reducePow, Int.reducePow, Bool.true_and, Bool.false_and, Bool.and_false, ←hF]
    exact retC_by (by repeat' (first | exact Drop.refl _ | with_reducible refine Drop.off ?_ (by assumption))) (.refl _) ⟨rfl, rfl⟩
  | true =>
  have l1 := text_len hga
  have l2 := text_len hgb
  have hp := parse_ok (textP a) (by omega)
  rw [parse_text hga] at hp
  have hq := parseArea_ok (textP a ++ [58] ++ textP b) (by simp only [List.length_append, List.length_cons, List.length_nil]; omega)
  rw [parseArea_text hga hgb] at hq
  simp (disch := first | assumption | omega | (simp only [List.length_append]; omega)) only [go_sem, reduceCtorEq, Nat.reduceEqDiff, Nat.reduceAdd, Nat.reduceSub, Nat.reduceMul, Nat.reduceLeDiff, Int.reduceLT, Int.reduceLE, Int.reduceEq, ↓reduceIte, Int.reduceNeg, Int.reduceAdd, Int.reduceSub, Int.reduceMul, true_imp_iff, forall_const, Nat.mul_one, Int.reduceToNat, Nat.reducePow, Int.reducePow, Bool.true_and, Bool.false_and, Bool.and_false, ←hF]
  rw [hF, c3_11_wp]
  simp (disch := first | assumption | omega | (simp only [List.length_append]; omega)) only [go_sem, reduceCtorEq, Nat.reduceEqDiff, Nat.reduceAdd, Nat.reduceSub, Nat.reduceMul, Nat.reduceLeDiff, Int.reduceLT, Int.reduceLE, Int.reduceEq, ↓reduceIte, Int.reduceNeg, Int.reduceAdd, Int.reduceSub, Int.reduceMul, true_imp_iff, forall_const, Nat.mul_one, Int.reduceToNat, Nat.reducePow, Int.reducePow, Bool.true_and, Bool.false_and, Bool.and_false]
  refine (text_ok ht2 hga).mono ?_
  rintro v σ' ⟨rfl, rfl⟩
  simp (disch := first | assumption | omega | (simp only [List.length_append]; omega)) only [go_sem, reduceCtorEq, Nat.reduceEqDiff, Nat.reduceAdd, Nat.reduceSub, Nat.reduceMul, Nat.reduceLeDiff, Int.reduceLT, Int.reduceLE, Int.reduceEq, ↓reduceIte, Int.reduceNeg, Int.reduceAdd, Int.reduceSub, Int.reduceMul, true_imp_iff, forall_const, Nat.mul_one, Int.reduceToNat, Nat.reducePow, Int.reducePow, Bool.true_and, Bool.false_and, Bool.and_false]
  refine hp.use ?_
  simp (disch := first | assumption | omega | (simp only [List.length_append]; omega)) only [go_sem, reduceCtorEq, Nat.reduceEqDiff, Nat.reduceAdd, Nat.reduceSub, Nat.reduceMul, Nat.reduceLeDiff, Int.reduceLT, Int.reduceLE, Int.reduceEq, ↓reduceIte, Int.reduceNeg, Int.reduceAdd, Int.reduceSub, Int.reduceMul, true_imp_iff, forall_const, Nat.mul_one, Int.reduceToNat, Nat.reducePow, Int.reducePow, Bool.true_and, Bool.false_and, Bool.and_false, refAV]
  refine allocC_by fun b2 hb2 => ?_
  have ht3 := ht2.set (r := some (.obj [.int .i64 a.row, .int .i64 a.col, .bool a.absRow, .bool a.absCol])) hb2
  repeat (with_reducible replace hb2 := set_none hb2; obtain ⟨_, _, hb2⟩ := hb2)
  simp (disch := first | assumption | omega | (simp only [List.length_append]; omega)) only [go_sem, reduceCtorEq, Nat.reduceEqDiff, Nat.reduceAdd, Nat.reduceSub, Nat.reduceMul, Nat.reduceLeDiff, Int.reduceLT, Int.reduceLE, Int.reduceEq, ↓reduceIte, Int.reduceNeg, Int.reduceAdd, Int.reduceSub, Int.reduceMul, true_imp_iff, forall_const, Nat.mul_one, Int.reduceToNat, Nat.reducePow, Int.reducePow, Bool.true_and, Bool.false_and, Bool.and_false]
  refine (atext_ok ht3 hga hgb).mono ?_
  rintro v σ' ⟨rfl, rfl⟩
  simp (disch := first | assumption | omega | (simp only [List.length_append]; omega)) only [go_sem, reduceCtorEq, Nat.reduceEqDiff, Nat.reduceAdd, Nat.reduceSub, Nat.reduceMul, Nat.reduceLeDiff, Int.reduceLT, Int.reduceLE, Int.reduceEq, ↓reduceIte, Int.reduceNeg, Int.reduceAdd, Int.reduceSub, Int.reduceMul, true_imp_iff, forall_const, Nat.mul_one, Int.reduceToNat, Nat.reducePow, Int.reducePow, Bool.true_and, Bool.false_and, Bool.and_false]
  refine hq.use ?_
  simp (disch := first | assumption | omega | (simp only [List.length_append]; omega)) only [go_sem, reduceCtorEq, Nat.reduceEqDiff, Nat.reduceAdd, Nat.reduceSub, Nat.reduceMul, Nat.reduceLeDiff, Int.reduceLT, Int.reduceLE, Int.reduceEq, ↓reduceIte, Int.reduceNeg, Int.reduceAdd, Int.reduceSub, Int.reduceMul, true_imp_iff, forall_const, Nat.mul_one, Int.reduceToNat, Nat.reducePow, Int.reducePow, Bool.true_and, Bool.false_and, Bool.and_false, areaAV]
  refine allocC_by fun b3 hb3 => ?_
  repeat (with_reducible replace hb3 := set_none hb3; obtain ⟨_, _, hb3⟩ := hb3)
  simp (disch := first | assumption | omega | (simp only [List.length_append]; omega)) only [go_sem, reduceCtorEq, Nat.reduceEqDiff, Nat.reduceAdd, Nat.reduceSub, Nat.reduceMul, Nat.reduceLeDiff, Int.reduceLT, Int.reduceLE, Int.reduceEq, ↓reduceIte, Int.reduceNeg, Int.reduceAdd, Int.reduceSub, Int.reduceMul, true_imp_iff, forall_const, Nat.mul_one, Int.reduceToNat, Nat.reducePow, Int.reducePow, Bool.true_and, Bool.false_and, Bool.and_false]
  refine aawake_ok.use ?_
  simp (disch := first | assumption | omega | (simp only [List.length_append]; omega)) only [go_sem, reduceCtorEq, Nat.reduceEqDiff, Nat.reduceAdd, Nat.reduceSub, Nat.reduceMul, Nat.reduceLeDiff, Int.reduceLT, Int.reduceLE, Int.reduceEq, ↓reduceIte, Int.reduceNeg, Int.reduceAdd, Int.reduceSub, Int.reduceMul, true_imp_iff, forall_const, Nat.mul_one, Int.reduceToNat, Nat.reducePow, Int.reducePow, Bool.true_and, Bool.false_and, Bool.and_false]
  exact retC_by (by repeat' (first | exact Drop.refl _ | with_reducible refine Drop.off ?_ (by assumption))) (.refl _) ⟨rfl, rfl⟩
end Go.A
