/- AddrThere, walked. -/
import Derived.Test.YtfjnahkcfdcbeaaGd
namespace Go.A
open Go.Proofs
set_option maxRecDepth 100000
set_option linter.unusedSimpArgs false
set_option linter.unusedVariables false

def movedQ (r : Ref) (rows cols : Int) : Ref := ⟨if r.absRow then r.row else r.row + rows, if r.absCol then r.col else r.col + cols, r.absRow, r.absCol⟩
theorem movedP_eq (r : Ref) (rows cols : Int) : movedP r rows cols =
    if (r.absRow = false ∧ (rows ≤ -3000 ∨ 3000 ≤ rows)) ∨ (r.absCol = false ∧ (cols ≤ -700 ∨ 700 ≤ cols)) then (.zero, false) else if (movedQ r rows cols).good then (movedQ r rows cols, true) else (.zero, false) := rfl
theorem moved_false {r : Ref} {rows cols : Int} (h : (movedP r rows cols).2 = false) : (movedP r rows cols).1 = .zero := by
  rw [movedP_eq] at *
  split
  · rfl
  · rename_i h1
    rw [if_neg h1] at h
    split
    · rename_i h2; rw [if_pos h2] at h; cases h
    · rfl
theorem moved_back {r m : Ref} {rows cols : Int} (hg : r.good = true) (h : movedP r rows cols = (m, true)) :
    movedP m (0 - rows) (0 - cols) = (r, true) ∧ m.good = true ∧ m.absRow = r.absRow ∧ m.absCol = r.absCol ∧ (r.absRow = true → m.row = r.row) ∧ (r.absCol = true → m.col = r.col) := by
  rw [movedP_eq] at h
  by_cases h1 : (r.absRow = false ∧ (rows ≤ -3000 ∨ 3000 ≤ rows)) ∨ (r.absCol = false ∧ (cols ≤ -700 ∨ 700 ≤ cols))
  · rw [if_pos h1] at h; simp at h
  · rw [if_neg h1] at h
    by_cases h2 : (movedQ r rows cols).good = true
    · rw [if_pos h2] at h
      simp only [Prod.mk.injEq, and_true] at h
      subst h
      have hb : movedQ (movedQ r rows cols) (0 - rows) (0 - cols) = r := by
        obtain ⟨row, col, ar, ac⟩ := r
        cases ar <;> cases ac <;> simp [movedQ] <;> omega
      refine ⟨?_, h2, rfl, rfl, fun h => by simp [movedQ, h], fun h => by simp [movedQ, h]⟩
      rw [movedP_eq, hb, if_neg, if_pos hg]
      intro h3
      apply h1
      rcases h3 with ⟨h3, h4⟩ | ⟨h3, h4⟩
      · exact .inl ⟨h3, by omega⟩
      · exact .inr ⟨h3, by omega⟩
    · rw [if_neg h2] at h; simp at h

set_option maxHeartbeats 1000000 in
theorem AddrThere_any (r : Ref) (rows cols : Int) (σ : ASt) : ACalls Try.prog 6 [refAV r, .int .i64 rows, .int .i64 cols] σ fun v _ => v = .bool true := by
  refine a6 (by simp) ?_
  obtain ⟨g, hg⟩ : ∃ g, r.good = g := ⟨_, rfl⟩
  simp (disch := first | assumption | omega | (simp only [List.length_append]; omega)) only [go_sem, reduceCtorEq, Nat.reduceEqDiff, Nat.reduceAdd, Nat.reduceSub, Nat.reduceMul, Nat.reduceLeDiff, Int.reduceLT, Int.reduceLE, Int.reduceEq, ↓reduceIte, Int.reduceNeg, Int.reduceAdd, Int.reduceSub, Int.reduceMul, true_imp_iff, forall_const, Nat.mul_one, Int.reduceToNat, Nat.reducePow, Int.reducePow, Bool.true_and, Bool.false_and, Bool.and_false, refAV]
  refine boxC_by rfl fun b0 hb0 => ?_
  simp (disch := first | assumption | omega | (simp only [List.length_append]; omega)) only [go_sem, reduceCtorEq, Nat.reduceEqDiff, Nat.reduceAdd, Nat.reduceSub, Nat.reduceMul, Nat.reduceLeDiff, Int.reduceLT, Int.reduceLE, Int.reduceEq, ↓reduceIte, Int.reduceNeg, Int.reduceAdd, Int.reduceSub, Int.reduceMul, true_imp_iff, forall_const, Nat.mul_one, Int.reduceToNat, Nat.reducePow, Int.reducePow, Bool.true_and, Bool.false_and, Bool.and_false]
  refine (good_ok r).use ?_
  rw [hg]
  cases g
  · repeat' (first | (simp (disch := first | assumption | omega | (simp only [List.length_append]; omega)) only [go_sem, reduceCtorEq, Nat.reduceEqDiff, Nat.reduceAdd, Nat.reduceSub, Nat.reduceMul, Nat.reduceLeDiff, Int.reduceLT, Int.reduceLE, Int.reduceEq, ↓reduceIte, Int.reduceNeg, Int.reduceAdd, Int.reduceSub, Int.reduceMul, true_imp_iff, forall_const, Nat.mul_one, Int.reduceToNat, Nat.reducePow, Int.reducePow, Bool.true_and, Bool.false_and, Bool.and_false]) | refine aawake_ok.use ?_ | with_reducible refine gC_d (fun h => ?_) (fun h => ?_) | with_reducible refine gC_dn (fun h => ?_) (fun h => ?_) | with_reducible refine condC_d (fun h => ?_) (fun h => ?_) | with_reducible refine condC_n (fun h => ?_) (fun h => ?_) | with_reducible refine condC_b (fun h => ?_) (fun h => ?_) | with_reducible refine boxC_by ?_ fun b hb => ?_)
    all_goals exact retC_by (by repeat' (first | exact Drop.refl _ | with_reducible refine Drop.off ?_ (by assumption))) (.refl _) rfl
  · have hg' := hg
    simp only [Ref.good, decide_eq_true_eq] at hg'
    by_cases hR : rows < -3000 ∨ 3000 < rows ∨ cols < -700 ∨ 700 < cols
    · repeat' (first | (simp (disch := first | assumption | omega | (simp only [List.length_append]; omega)) only [go_sem, reduceCtorEq, Nat.reduceEqDiff, Nat.reduceAdd, Nat.reduceSub, Nat.reduceMul, Nat.reduceLeDiff, Int.reduceLT, Int.reduceLE, Int.reduceEq, ↓reduceIte, Int.reduceNeg, Int.reduceAdd, Int.reduceSub, Int.reduceMul, true_imp_iff, forall_const, Nat.mul_one, Int.reduceToNat, Nat.reducePow, Int.reducePow, Bool.true_and, Bool.false_and, Bool.and_false]) | refine aawake_ok.use ?_ | with_reducible refine gC_d (fun h => ?_) (fun h => ?_) | with_reducible refine gC_dn (fun h => ?_) (fun h => ?_) | with_reducible refine condC_d (fun h => ?_) (fun h => ?_) | with_reducible refine condC_n (fun h => ?_) (fun h => ?_) | with_reducible refine condC_b (fun h => ?_) (fun h => ?_) | with_reducible refine boxC_by ?_ fun b hb => ?_)
      all_goals first
        | (exfalso; omega)
        | exact retC_by (by repeat' (first | exact Drop.refl _ | with_reducible refine Drop.off ?_ (by assumption))) (.refl _) rfl
    · have r1 : ¬ rows < -3000 := by omega
      have r2 : ¬ 3000 < rows := by omega
      have r3 : ¬ cols < -700 := by omega
      have r4 : ¬ 700 < cols := by omega
      obtain ⟨M, hM⟩ : ∃ M, movedP r rows cols = M := ⟨_, rfl⟩
      obtain ⟨m, ok⟩ := M
      simp (disch := first | assumption | omega | (simp only [List.length_append]; omega)) only [go_sem, reduceCtorEq, Nat.reduceEqDiff, Nat.reduceAdd, Nat.reduceSub, Nat.reduceMul, Nat.reduceLeDiff, Int.reduceLT, Int.reduceLE, Int.reduceEq, ↓reduceIte, Int.reduceNeg, Int.reduceAdd, Int.reduceSub, Int.reduceMul, true_imp_iff, forall_const, Nat.mul_one, Int.reduceToNat, Nat.reducePow, Int.reducePow, Bool.true_and, Bool.false_and, Bool.and_false, r1, r2, r3, r4]
      refine (moved_ok r rows cols (by omega) (by omega)).use ?_
      rw [hM]
      simp (disch := first | assumption | omega | (simp only [List.length_append]; omega)) only [go_sem, reduceCtorEq, Nat.reduceEqDiff, Nat.reduceAdd, Nat.reduceSub, Nat.reduceMul, Nat.reduceLeDiff, Int.reduceLT, Int.reduceLE, Int.reduceEq, ↓reduceIte, Int.reduceNeg, Int.reduceAdd, Int.reduceSub, Int.reduceMul, true_imp_iff, forall_const, Nat.mul_one, Int.reduceToNat, Nat.reducePow, Int.reducePow, Bool.true_and, Bool.false_and, Bool.and_false, refAV]
      refine allocC_by fun b1 hb1 => ?_
      obtain ⟨n1, n2, hb2⟩ := set_none hb1
      cases ok
      · have hz := moved_false (r := r) (rows := rows) (cols := cols) (by rw [hM])
        rw [hM] at hz
        dsimp only at hz
        subst hz
        simp (disch := first | assumption | omega | (simp only [List.length_append]; omega)) only [go_sem, reduceCtorEq, Nat.reduceEqDiff, Nat.reduceAdd, Nat.reduceSub, Nat.reduceMul, Nat.reduceLeDiff, Int.reduceLT, Int.reduceLE, Int.reduceEq, ↓reduceIte, Int.reduceNeg, Int.reduceAdd, Int.reduceSub, Int.reduceMul, true_imp_iff, forall_const, Nat.mul_one, Int.reduceToNat, Nat.reducePow, Int.reducePow, Bool.true_and, Bool.false_and, Bool.and_false, n1, n2, Ref.zero]
        refine aawake_ok.use ?_
        simp (disch := first | assumption | omega | (simp only [List.length_append]; omega)) only [go_sem, reduceCtorEq, Nat.reduceEqDiff, Nat.reduceAdd, Nat.reduceSub, Nat.reduceMul, Nat.reduceLeDiff, Int.reduceLT, Int.reduceLE, Int.reduceEq, ↓reduceIte, Int.reduceNeg, Int.reduceAdd, Int.reduceSub, Int.reduceMul, true_imp_iff, forall_const, Nat.mul_one, Int.reduceToNat, Nat.reducePow, Int.reducePow, Bool.true_and, Bool.false_and, Bool.and_false, n1, n2, Ref.zero]
        exact retC_by (by repeat' (first | exact Drop.refl _ | with_reducible refine Drop.off ?_ (by assumption))) (.refl _) rfl
      · obtain ⟨k1, k2, k3, k4, k5, k6⟩ := moved_back hg hM
        have hg2 := k2
        simp only [Ref.good, decide_eq_true_eq] at hg2
        simp (disch := first | assumption | omega | (simp only [List.length_append]; omega)) only [go_sem, reduceCtorEq, Nat.reduceEqDiff, Nat.reduceAdd, Nat.reduceSub, Nat.reduceMul, Nat.reduceLeDiff, Int.reduceLT, Int.reduceLE, Int.reduceEq, ↓reduceIte, Int.reduceNeg, Int.reduceAdd, Int.reduceSub, Int.reduceMul, true_imp_iff, forall_const, Nat.mul_one, Int.reduceToNat, Nat.reducePow, Int.reducePow, Bool.true_and, Bool.false_and, Bool.and_false, n1, n2]
        refine (moved_ok m (0 - rows) (0 - cols) (by omega) (by omega)).use ?_
        rw [k1]
        simp (disch := first | assumption | omega | (simp only [List.length_append]; omega)) only [go_sem, reduceCtorEq, Nat.reduceEqDiff, Nat.reduceAdd, Nat.reduceSub, Nat.reduceMul, Nat.reduceLeDiff, Int.reduceLT, Int.reduceLE, Int.reduceEq, ↓reduceIte, Int.reduceNeg, Int.reduceAdd, Int.reduceSub, Int.reduceMul, true_imp_iff, forall_const, Nat.mul_one, Int.reduceToNat, Nat.reducePow, Int.reducePow, Bool.true_and, Bool.false_and, Bool.and_false, refAV, n1, n2]
        refine allocC_by fun b2 hb3 => ?_
        obtain ⟨n3, n4, hb5⟩ := set_none hb3
        obtain ⟨n5, n6, hb6⟩ := set_none hb5
        cases har : r.absRow <;> cases hac : r.absCol <;> rw [har] at k3 k5 <;> rw [hac] at k4 k6
        · repeat' (first | (simp (disch := first | assumption | omega | (simp only [List.length_append]; omega)) only [go_sem, reduceCtorEq, Nat.reduceEqDiff, Nat.reduceAdd, Nat.reduceSub, Nat.reduceMul, Nat.reduceLeDiff, Int.reduceLT, Int.reduceLE, Int.reduceEq, ↓reduceIte, Int.reduceNeg, Int.reduceAdd, Int.reduceSub, Int.reduceMul, true_imp_iff, forall_const, Nat.mul_one, Int.reduceToNat, Nat.reducePow, Int.reducePow, Bool.true_and, Bool.false_and, Bool.and_false, n1, n2, n3, n4, n5, n6, k3, k4, har, hac]) | refine aawake_ok.use ?_ | with_reducible refine gC_d (fun h => ?_) (fun h => ?_) | with_reducible refine gC_dn (fun h => ?_) (fun h => ?_) | with_reducible refine condC_d (fun h => ?_) (fun h => ?_) | with_reducible refine condC_n (fun h => ?_) (fun h => ?_) | with_reducible refine condC_b (fun h => ?_) (fun h => ?_) | with_reducible refine boxC_by ?_ fun b hb => ?_)
          all_goals exact retC_by (by repeat' (first | exact Drop.refl _ | with_reducible refine Drop.off ?_ (by assumption))) (.refl _) rfl
        · have k7 := k6 rfl
          repeat' (first | (simp (disch := first | assumption | omega | (simp only [List.length_append]; omega)) only [go_sem, reduceCtorEq, Nat.reduceEqDiff, Nat.reduceAdd, Nat.reduceSub, Nat.reduceMul, Nat.reduceLeDiff, Int.reduceLT, Int.reduceLE, Int.reduceEq, ↓reduceIte, Int.reduceNeg, Int.reduceAdd, Int.reduceSub, Int.reduceMul, true_imp_iff, forall_const, Nat.mul_one, Int.reduceToNat, Nat.reducePow, Int.reducePow, Bool.true_and, Bool.false_and, Bool.and_false, n1, n2, n3, n4, n5, n6, k3, k4, k7, har, hac]) | refine aawake_ok.use ?_ | with_reducible refine gC_d (fun h => ?_) (fun h => ?_) | with_reducible refine gC_dn (fun h => ?_) (fun h => ?_) | with_reducible refine condC_d (fun h => ?_) (fun h => ?_) | with_reducible refine condC_n (fun h => ?_) (fun h => ?_) | with_reducible refine condC_b (fun h => ?_) (fun h => ?_) | with_reducible refine boxC_by ?_ fun b hb => ?_)
          all_goals exact retC_by (by repeat' (first | exact Drop.refl _ | with_reducible refine Drop.off ?_ (by assumption))) (.refl _) rfl
        · have k8 := k5 rfl
          repeat' (first | (simp (disch := first | assumption | omega | (simp only [List.length_append]; omega)) only [go_sem, reduceCtorEq, Nat.reduceEqDiff, Nat.reduceAdd, Nat.reduceSub, Nat.reduceMul, Nat.reduceLeDiff, Int.reduceLT, Int.reduceLE, Int.reduceEq, ↓reduceIte, Int.reduceNeg, Int.reduceAdd, Int.reduceSub, Int.reduceMul, true_imp_iff, forall_const, Nat.mul_one, Int.reduceToNat, Nat.reducePow, Int.reducePow, Bool.true_and, Bool.false_and, Bool.and_false, n1, n2, n3, n4, n5, n6, k3, k4, k8, har, hac]) | refine aawake_ok.use ?_ | with_reducible refine gC_d (fun h => ?_) (fun h => ?_) | with_reducible refine gC_dn (fun h => ?_) (fun h => ?_) | with_reducible refine condC_d (fun h => ?_) (fun h => ?_) | with_reducible refine condC_n (fun h => ?_) (fun h => ?_) | with_reducible refine condC_b (fun h => ?_) (fun h => ?_) | with_reducible refine boxC_by ?_ fun b hb => ?_)
          all_goals exact retC_by (by repeat' (first | exact Drop.refl _ | with_reducible refine Drop.off ?_ (by assumption))) (.refl _) rfl
        · have k8 := k5 rfl
          have k7 := k6 rfl
          repeat' (first | (simp (disch := first | assumption | omega | (simp only [List.length_append]; omega)) only [go_sem, reduceCtorEq, Nat.reduceEqDiff, Nat.reduceAdd, Nat.reduceSub, Nat.reduceMul, Nat.reduceLeDiff, Int.reduceLT, Int.reduceLE, Int.reduceEq, ↓reduceIte, Int.reduceNeg, Int.reduceAdd, Int.reduceSub, Int.reduceMul, true_imp_iff, forall_const, Nat.mul_one, Int.reduceToNat, Nat.reducePow, Int.reducePow, Bool.true_and, Bool.false_and, Bool.and_false, n1, n2, n3, n4, n5, n6, k3, k4, k7, k8, har, hac]) | refine aawake_ok.use ?_ | with_reducible refine gC_d (fun h => ?_) (fun h => ?_) | with_reducible refine gC_dn (fun h => ?_) (fun h => ?_) | with_reducible refine condC_d (fun h => ?_) (fun h => ?_) | with_reducible refine condC_n (fun h => ?_) (fun h => ?_) | with_reducible refine condC_b (fun h => ?_) (fun h => ?_) | with_reducible refine boxC_by ?_ fun b hb => ?_)
          all_goals exact retC_by (by repeat' (first | exact Drop.refl _ | with_reducible refine Drop.off ?_ (by assumption))) (.refl _) rfl
end Go.A
