/- What is left of a rectangle. -/
import Derived.Test.YtfjnahkcfdcbeaaGk
namespace Go.A
open Go.Proofs
set_option maxRecDepth 100000
set_option linter.unusedSimpArgs false
set_option linter.unusedVariables false

theorem Grown.more {σ0 σ : ASt} {k : SK} {n s b : Nat} {r : Option Role} (h : Grown σ0 σ k n s) (hb : σ b = none) : Grown (σ0.set b r) (σ.set b r) k n s ∨ r = none := by
  rcases h with ⟨h1, h2, rfl⟩ | ⟨c, h1, h2, rfl⟩
  · exact .inl (.inl ⟨h1, h2, rfl⟩)
  · obtain ⟨h3, h4, h5⟩ := set_none hb
    refine .inl (.inr ⟨c, h1, ?_, ?_⟩)
    · rw [ASt.set_ne (Ne.symm h3)]; exact h2
    · rw [set_swap (Ne.symm h3)]
theorem Grown.moreO {σ0 σ : ASt} {k : SK} {n s b : Nat} {r : Role} (h : Grown σ0 σ k n s) (hb : σ b = none) : Grown (σ0.set b (some r)) (σ.set b (some r)) k n s := by
  rcases h.more (r := some r) hb with h | h
  · exact h
  · cases h
theorem Grown.none0 {σ0 σ : ASt} {k : SK} {n s b : Nat} (h : Grown σ0 σ k n s) (hb : σ b = none) : σ0 b = none := by
  rcases h with ⟨h1, h2, rfl⟩ | ⟨c, h1, h2, rfl⟩
  · exact hb
  · obtain ⟨h3, h4, h5⟩ := set_none hb
    exact h5
theorem Grown.less {σ0 σ : ASt} {k : SK} {n s b : Nat} {r : Role} (h : Grown (σ0.set b (some r)) σ k n s) (hb : σ0 b = none) : ∃ σ', Drop σ σ' ∧ Grown σ0 σ' k n s := by
  rcases h with ⟨h1, h2, rfl⟩ | ⟨c, h1, h2, rfl⟩
  · exact ⟨σ0, Drop.set hb, .inl ⟨h1, h2, rfl⟩⟩
  · obtain ⟨h3, h4, h5⟩ := set_none h2
    exact ⟨σ0.set c (some (.tok (n * s))), (Drop.set hb).set_cong, .inr ⟨c, h1, h5, rfl⟩⟩

def putP (xs : List Rct) (r : Rct) : List Rct := if 0 < r.rows ∧ 0 < r.cols then xs ++ [r] else xs
/-- The box holds what has been put so far. -/
def Out (σ0 : ASt) (b : Nat) (xs : List Rct) (σ : ASt) : Prop := ∃ k, Grown (σ0.set b (some (.obj [.sl k (xs.map Rct.av)]))) σ k (xs.map Rct.av).length 4
theorem put_ok {σ0 σ : ASt} {b : Nat} {xs : List Rct} (h : Out σ0 b xs σ) (hx : xs.length ≤ 4) (hb0 : σ0 b = none) (r : Rct) :
    ACalls Try.prog 30 [r.av, .ptr b 0] σ fun _ σ' => Out σ0 b (putP xs r) σ' := by
  obtain ⟨k, h⟩ := h
  obtain ⟨row, col, rows, cols⟩ := r
  obtain ⟨L, hL⟩ : ∃ L, xs.map Rct.av = L := ⟨_, rfl⟩
  have hLl : L.length ≤ 4 := by rw [← hL]; simpa using hx
  rw [hL] at h
  have hbo : σ b = some (.obj [.sl k L]) := h.at (ASt.set_same _ _ _)
  refine a30 (by simp) ?_
  simp (disch := first | assumption | omega | (simp only [List.length_append]; omega)) only [go_sem, reduceCtorEq, Nat.reduceEqDiff, Nat.reduceAdd, Nat.reduceSub, Nat.reduceMul, Nat.reduceLeDiff, Int.reduceLT, Int.reduceLE, Int.reduceEq, ↓reduceIte, Int.reduceNeg, Int.reduceAdd, Int.reduceSub, Int.reduceMul, true_imp_iff, forall_const, Nat.mul_one, Int.reduceToNat, Nat.reducePow, Int.reducePow, Bool.true_and, Bool.false_and, Bool.and_false, rectAV, Rct.av]
  refine boxC_by rfl fun b2 hb2 => ?_
  have hne : b2 ≠ b := by rintro rfl; rw [hbo] at hb2; cases hb2
  have hne' : b ≠ b2 := Ne.symm hne
  have hn0 := h.none0 hb2
  by_cases g1 : 0 < rows
  · by_cases g2 : 0 < cols
    · simp (disch := first | assumption | omega | (simp only [List.length_append]; omega)) only [go_sem, reduceCtorEq, Nat.reduceEqDiff, Nat.reduceAdd, Nat.reduceSub, Nat.reduceMul, Nat.reduceLeDiff, Int.reduceLT, Int.reduceLE, Int.reduceEq, ↓reduceIte, Int.reduceNeg, Int.reduceAdd, Int.reduceSub, Int.reduceMul, true_imp_iff, forall_const, Nat.mul_one, Int.reduceToNat, Nat.reducePow, Int.reducePow, Bool.true_and, Bool.false_and, Bool.and_false, g1, g2, hne, hne', hbo]
      refine appC_by (h.moreO hb2) rfl rfl (by simp; omega) (by simp; omega) fun k' σ' hg => ?_
      rw [set_swap hne'] at hg
      have hbo' : σ' b = some (.obj [.sl k L]) := hg.at (ASt.set_same _ _ _)
      simp (disch := first | assumption | omega | (simp only [List.length_append]; omega)) only [go_sem, reduceCtorEq, Nat.reduceEqDiff, Nat.reduceAdd, Nat.reduceSub, Nat.reduceMul, Nat.reduceLeDiff, Int.reduceLT, Int.reduceLE, Int.reduceEq, ↓reduceIte, Int.reduceNeg, Int.reduceAdd, Int.reduceSub, Int.reduceMul, true_imp_iff, forall_const, Nat.mul_one, Int.reduceToNat, Nat.reducePow, Int.reducePow, Bool.true_and, Bool.false_and, Bool.and_false, hbo']
      have hg2 := hg.obj (r' := .obj [.sl k' (L ++ [.agg [.int .i64 row, .int .i64 col, .int .i64 rows, .int .i64 cols]])])
      rw [set_swap hne] at hg2
      rw [ASt.set_ne hne] at hn0
      obtain ⟨σ'', d1, d2⟩ := hg2.less (by rw [ASt.set_ne hne]; exact hn0)
      refine retC_by d1 (.refl _) ⟨k', ?_⟩
      simp only [putP, g1, g2, true_and, if_true, List.map_append, hL, List.map_cons, List.map_nil, Rct.av, rectAV]
      exact d2
    · simp (disch := first | assumption | omega | (simp only [List.length_append]; omega)) only [go_sem, reduceCtorEq, Nat.reduceEqDiff, Nat.reduceAdd, Nat.reduceSub, Nat.reduceMul, Nat.reduceLeDiff, Int.reduceLT, Int.reduceLE, Int.reduceEq, ↓reduceIte, Int.reduceNeg, Int.reduceAdd, Int.reduceSub, Int.reduceMul, true_imp_iff, forall_const, Nat.mul_one, Int.reduceToNat, Nat.reducePow, Int.reducePow, Bool.true_and, Bool.false_and, Bool.and_false, g1, g2, hne, hne', hbo]
      refine retC_by (Drop.set hb2) (.refl _) ⟨k, ?_⟩
      simp only [putP, g2, and_false, if_false, hL]
      exact h
  · simp (disch := first | assumption | omega | (simp only [List.length_append]; omega)) only [go_sem, reduceCtorEq, Nat.reduceEqDiff, Nat.reduceAdd, Nat.reduceSub, Nat.reduceMul, Nat.reduceLeDiff, Int.reduceLT, Int.reduceLE, Int.reduceEq, ↓reduceIte, Int.reduceNeg, Int.reduceAdd, Int.reduceSub, Int.reduceMul, true_imp_iff, forall_const, Nat.mul_one, Int.reduceToNat, Nat.reducePow, Int.reducePow, Bool.true_and, Bool.false_and, Bool.and_false, g1, hne, hne', hbo]
    refine retC_by (Drop.set hb2) (.refl _) ⟨k, ?_⟩
    simp only [putP, g1, false_and, if_false, hL]
    exact h

def lessP (a b : Rct) : List Rct :=
  if (meetP a b).2 = false then [a]
  else
    let m := (meetP a b).1
    putP (putP (putP (putP [] ⟨a.row, a.col, m.row - a.row, a.cols⟩) ⟨m.row + m.rows, a.col, a.row + a.rows - m.row - m.rows, a.cols⟩) ⟨m.row, a.col, m.rows, m.col - a.col⟩) ⟨m.row, m.col + m.cols, m.rows, a.col + a.cols - m.col - m.cols⟩
theorem putP_len (xs : List Rct) (r : Rct) : (putP xs r).length ≤ xs.length + 1 := by
  unfold putP; split <;> simp
theorem meet_vals {a b : Rct} (h : (meetP a b).2 = true) : (meetP a b).1 = ⟨max a.row b.row, max a.col b.col, min (a.row + a.rows) (b.row + b.rows) - max a.row b.row, min (a.col + a.cols) (b.col + b.cols) - max a.col b.col⟩ ∧ 1 ≤ (meetP a b).1.rows ∧ 1 ≤ (meetP a b).1.cols := by
  unfold meetP at h ⊢
  dsimp only at h ⊢
  split at h
  · cases h
  · rename_i hn
    rw [if_neg hn]
    refine ⟨rfl, ?_, ?_⟩ <;> dsimp only <;> omega

theorem Out.at {σ0 σ : ASt} {b x : Nat} {xs : List Rct} {r : Role} (h : Out σ0 b xs σ) (hx : σ0 x = some r) (hb : σ0 b = none) : σ x = some r := by
  obtain ⟨k, h⟩ := h
  have hne : x ≠ b := by rintro rfl; rw [hb] at hx; cases hx
  exact h.at (by rw [ASt.set_ne hne]; exact hx)
theorem Out.start (σ0 : ASt) (b : Nat) : Out σ0 b [] (σ0.set b (some (.obj [.sl .full []]))) := ⟨.full, Grown.start _ _⟩
theorem less_rest {a m : Rct} (h1 : 0 ≤ a.row) (h2 : 0 ≤ a.col) (h3 : a.row + a.rows ≤ 3000) (h4 : a.col + a.cols ≤ 700) (w1 : a.row ≤ m.row) (w2 : m.row + m.rows ≤ a.row + a.rows) (w3 : a.col ≤ m.col) (w4 : m.col + m.cols ≤ a.col + a.cols) (w5 : 1 ≤ m.rows) (w6 : 1 ≤ m.cols)
    {σ σ3 : ASt} {b0 b2 b3 : Nat} {fr : AFr} (f2 : fr 2 = .ptr b0 0) (f5 : fr 5 = .ptr b2 0) (f7 : fr 7 = .ptr b3 0) (r0 : σ3 b0 = some (.obj [.int .i64 a.row, .int .i64 a.col, .int .i64 a.rows, .int .i64 a.cols]))
    (r2 : σ3 b2 = some (.obj [.int .i64 m.row, .int .i64 m.col, .int .i64 m.rows, .int .i64 m.cols])) (hb3 : σ3 b3 = none) (hd : Drop σ3 σ) :
    ACode.wp Try.prog c22_19 (RetQ [.t 4] fun v σ' => v = .sl .shr ((putP (putP (putP (putP [] ⟨a.row, a.col, m.row - a.row, a.cols⟩) ⟨m.row + m.rows, a.col, a.row + a.rows - m.row - m.rows, a.cols⟩) ⟨m.row, a.col, m.rows, m.col - a.col⟩) ⟨m.row, m.col + m.cols, m.rows, a.col + a.cols - m.col - m.cols⟩).map Rct.av) ∧ σ' = σ) fr (σ3.set b3 (some (.obj [.sl .full []]))) := by
  have hO := Out.start σ3 b3
  obtain ⟨s0, hs0⟩ : ∃ s, σ3.set b3 (some (.obj [.sl .full []])) = s := ⟨_, rfl⟩
  rw [hs0] at hO ⊢
  have q0 := hO.at r0 hb3
  have q2 := hO.at r2 hb3
  rw [c22_19_wp]
  simp (disch := first | assumption | omega | (simp only [List.length_append]; omega)) only [go_sem, reduceCtorEq, Nat.reduceEqDiff, Nat.reduceAdd, Nat.reduceSub, Nat.reduceMul, Nat.reduceLeDiff, Int.reduceLT, Int.reduceLE, Int.reduceEq, ↓reduceIte, Int.reduceNeg, Int.reduceAdd, Int.reduceSub, Int.reduceMul, true_imp_iff, forall_const, Nat.mul_one, Int.reduceToNat, Nat.reducePow, Int.reducePow, Bool.true_and, Bool.false_and, Bool.and_false, f2, f5, f7, q0, q2]
  refine ⟨by kernel_rfl, (put_ok hO (by simp only [List.length_nil] at *; omega) hb3 ⟨a.row, a.col, m.row - a.row, a.cols⟩).mono ?_⟩
  have l1 := putP_len [] ⟨a.row, a.col, m.row - a.row, a.cols⟩
  obtain ⟨x1, hx1⟩ : ∃ x, putP [] ⟨a.row, a.col, m.row - a.row, a.cols⟩ = x := ⟨_, rfl⟩
  rw [hx1] at l1 ⊢
  rintro v1 s1 hO
  have q0 := hO.at r0 hb3
  have q2 := hO.at r2 hb3
  simp (disch := first | assumption | omega | (simp only [List.length_append]; omega)) only [go_sem, reduceCtorEq, Nat.reduceEqDiff, Nat.reduceAdd, Nat.reduceSub, Nat.reduceMul, Nat.reduceLeDiff, Int.reduceLT, Int.reduceLE, Int.reduceEq, ↓reduceIte, Int.reduceNeg, Int.reduceAdd, Int.reduceSub, Int.reduceMul, true_imp_iff, forall_const, Nat.mul_one, Int.reduceToNat, Nat.reducePow, Int.reducePow, Bool.true_and, Bool.false_and, Bool.and_false, f2, f5, f7, q0, q2]
  refine ⟨by kernel_rfl, (put_ok hO (by simp only [List.length_nil] at *; omega) hb3 ⟨m.row + m.rows, a.col, a.row + a.rows - m.row - m.rows, a.cols⟩).mono ?_⟩
  have l2 := putP_len x1 ⟨m.row + m.rows, a.col, a.row + a.rows - m.row - m.rows, a.cols⟩
  obtain ⟨x2, hx2⟩ : ∃ x, putP x1 ⟨m.row + m.rows, a.col, a.row + a.rows - m.row - m.rows, a.cols⟩ = x := ⟨_, rfl⟩
  rw [hx2] at l2 ⊢
  rintro v2 s2 hO
  have q0 := hO.at r0 hb3
  have q2 := hO.at r2 hb3
  simp (disch := first | assumption | omega | (simp only [List.length_append]; omega)) only [go_sem, reduceCtorEq, Nat.reduceEqDiff, Nat.reduceAdd, Nat.reduceSub, Nat.reduceMul, Nat.reduceLeDiff, Int.reduceLT, Int.reduceLE, Int.reduceEq, ↓reduceIte, Int.reduceNeg, Int.reduceAdd, Int.reduceSub, Int.reduceMul, true_imp_iff, forall_const, Nat.mul_one, Int.reduceToNat, Nat.reducePow, Int.reducePow, Bool.true_and, Bool.false_and, Bool.and_false, f2, f5, f7, q0, q2]
  refine ⟨by kernel_rfl, (put_ok hO (by simp only [List.length_nil] at *; omega) hb3 ⟨m.row, a.col, m.rows, m.col - a.col⟩).mono ?_⟩
  have l3 := putP_len x2 ⟨m.row, a.col, m.rows, m.col - a.col⟩
  obtain ⟨x3, hx3⟩ : ∃ x, putP x2 ⟨m.row, a.col, m.rows, m.col - a.col⟩ = x := ⟨_, rfl⟩
  rw [hx3] at l3 ⊢
  rintro v3 s3 hO
  have q0 := hO.at r0 hb3
  have q2 := hO.at r2 hb3
  simp (disch := first | assumption | omega | (simp only [List.length_append]; omega)) only [go_sem, reduceCtorEq, Nat.reduceEqDiff, Nat.reduceAdd, Nat.reduceSub, Nat.reduceMul, Nat.reduceLeDiff, Int.reduceLT, Int.reduceLE, Int.reduceEq, ↓reduceIte, Int.reduceNeg, Int.reduceAdd, Int.reduceSub, Int.reduceMul, true_imp_iff, forall_const, Nat.mul_one, Int.reduceToNat, Nat.reducePow, Int.reducePow, Bool.true_and, Bool.false_and, Bool.and_false, f2, f5, f7, q0, q2]
  refine ⟨by kernel_rfl, (put_ok hO (by simp only [List.length_nil] at *; omega) hb3 ⟨m.row, m.col + m.cols, m.rows, a.col + a.cols - m.col - m.cols⟩).mono ?_⟩
  obtain ⟨x4, hx4⟩ : ∃ x, putP x3 ⟨m.row, m.col + m.cols, m.rows, a.col + a.cols - m.col - m.cols⟩ = x := ⟨_, rfl⟩
  rw [hx4]
  rintro v4 s4 ⟨k, hO⟩
  have q3 : s4 b3 = some (.obj [.sl k (x4.map Rct.av)]) := hO.at (ASt.set_same _ _ _)
  simp (disch := first | assumption | omega | (simp only [List.length_append]; omega)) only [go_sem, reduceCtorEq, Nat.reduceEqDiff, Nat.reduceAdd, Nat.reduceSub, Nat.reduceMul, Nat.reduceLeDiff, Int.reduceLT, Int.reduceLE, Int.reduceEq, ↓reduceIte, Int.reduceNeg, Int.reduceAdd, Int.reduceSub, Int.reduceMul, true_imp_iff, forall_const, Nat.mul_one, Int.reduceToNat, Nat.reducePow, Int.reducePow, Bool.true_and, Bool.false_and, Bool.and_false, f2, f5, f7, q3]
  exact retC_by (hO.drop.trans ((Drop.set hb3).trans hd)) (.sl _ _) ⟨rfl, rfl⟩

theorem less_ok {a b : Rct} (ha : a.good = true) (hb : b.good = true) : Pure Try.prog 22 [a.av, b.av] (.sl .shr ((lessP a b).map Rct.av)) := by
  intro σ
  obtain ⟨h1, h2, h3, h4, h5, h6, h7, h8⟩ := Rct.good_iff.1 ha
  obtain ⟨k1, k2, k3, k4, k5, k6, k7, k8⟩ := Rct.good_iff.1 hb
  have hM := meet_ok ha hb
  obtain ⟨q, hq⟩ : ∃ q, meetP a b = q := ⟨_, rfl⟩
  have hv := fun h => meet_vals (a := a) (b := b) h
  have hl : lessP a b = lessP a b := rfl
  conv at hl => rhs; rw [lessP]
  rw [hq] at hM hv hl
  obtain ⟨m, ok⟩ := q
  refine a22 (by simp) ?_
  obtain ⟨F, hF⟩ : ∃ F, F = ACode.wp Try.prog c22_19 := ⟨_, rfl⟩
  simp (disch := first | assumption | omega | (simp only [List.length_append]; omega)) only [go_sem, reduceCtorEq, Nat.reduceEqDiff, Nat.reduceAdd, Nat.reduceSub, Nat.reduceMul, Nat.reduceLeDiff, Int.reduceLT, Int.reduceLE, Int.reduceEq, ↓reduceIte, Int.reduceNeg, Int.reduceAdd, Int.reduceSub, Int.reduceMul, true_imp_iff, forall_const, Nat.mul_one, Int.reduceToNat, Nat.reducePow, Int.reducePow, Bool.true_and, Bool.false_and, Bool.and_false, rectAV, Rct.av, ←hF]
  refine boxC_by rfl fun b0 hb0 => ?_
  simp (disch := first | assumption | omega | (simp only [List.length_append]; omega)) only [go_sem, reduceCtorEq, Nat.reduceEqDiff, Nat.reduceAdd, Nat.reduceSub, Nat.reduceMul, Nat.reduceLeDiff, Int.reduceLT, Int.reduceLE, Int.reduceEq, ↓reduceIte, Int.reduceNeg, Int.reduceAdd, Int.reduceSub, Int.reduceMul, true_imp_iff, forall_const, Nat.mul_one, Int.reduceToNat, Nat.reducePow, Int.reducePow, Bool.true_and, Bool.false_and, Bool.and_false, rectAV, Rct.av, ←hF]
  refine boxC_by rfl fun b1 hb1 => ?_
  repeat (with_reducible replace hb1 := set_none hb1; obtain ⟨_, _, hb1⟩ := hb1)
  simp (disch := first | assumption | omega | (simp only [List.length_append]; omega)) only [go_sem, reduceCtorEq, Nat.reduceEqDiff, Nat.reduceAdd, Nat.reduceSub, Nat.reduceMul, Nat.reduceLeDiff, Int.reduceLT, Int.reduceLE, Int.reduceEq, ↓reduceIte, Int.reduceNeg, Int.reduceAdd, Int.reduceSub, Int.reduceMul, true_imp_iff, forall_const, Nat.mul_one, Int.reduceToNat, Nat.reducePow, Int.reducePow, Bool.true_and, Bool.false_and, Bool.and_false, rectAV, Rct.av, ←hF]
  refine hM.use ?_
  simp (disch := first | assumption | omega | (simp only [List.length_append]; omega)) only [go_sem, reduceCtorEq, Nat.reduceEqDiff, Nat.reduceAdd, Nat.reduceSub, Nat.reduceMul, Nat.reduceLeDiff, Int.reduceLT, Int.reduceLE, Int.reduceEq, ↓reduceIte, Int.reduceNeg, Int.reduceAdd, Int.reduceSub, Int.reduceMul, true_imp_iff, forall_const, Nat.mul_one, Int.reduceToNat, Nat.reducePow, Int.reducePow, Bool.true_and, Bool.false_and, Bool.and_false, rectAV, Rct.av, ←hF]
  refine allocC_by fun b2 hb2 => ?_
  repeat (with_reducible replace hb2 := set_none hb2; obtain ⟨_, _, hb2⟩ := hb2)
  simp (disch := first | assumption | omega | (simp only [List.length_append]; omega)) only [go_sem, reduceCtorEq, Nat.reduceEqDiff, Nat.reduceAdd, Nat.reduceSub, Nat.reduceMul, Nat.reduceLeDiff, Int.reduceLT, Int.reduceLE, Int.reduceEq, ↓reduceIte, Int.reduceNeg, Int.reduceAdd, Int.reduceSub, Int.reduceMul, true_imp_iff, forall_const, Nat.mul_one, Int.reduceToNat, Nat.reducePow, Int.reducePow, Bool.true_and, Bool.false_and, Bool.and_false, rectAV, Rct.av, ←hF]
  cases ok with
  | false =>
    simp (disch := first | assumption | omega | (simp only [List.length_append]; omega)) only [go_sem, reduceCtorEq, Nat.reduceEqDiff, Nat.reduceAdd, Nat.reduceSub, Nat.reduceMul, Nat.reduceLeDiff, Int.reduceLT, Int.reduceLE, Int.reduceEq, ↓reduceIte, Int.reduceNeg, Int.reduceAdd, Int.reduceSub, Int.reduceMul, true_imp_iff, forall_const, Nat.mul_one, Int.reduceToNat, Nat.reducePow, Int.reducePow, Bool.true_and, Bool.false_and, Bool.and_false, rectAV, Rct.av, ←hF]
    refine retC_by (by repeat' (first | exact Drop.refl _ | with_reducible refine Drop.off ?_ (by assumption))) (.sl _ _) ⟨?_, rfl⟩
    rw [hl]
    rfl
  | true =>
    obtain ⟨v1, v2, v3⟩ := hv rfl
    simp only at v1 v2 v3
    simp (disch := first | assumption | omega | (simp only [List.length_append]; omega)) only [go_sem, reduceCtorEq, Nat.reduceEqDiff, Nat.reduceAdd, Nat.reduceSub, Nat.reduceMul, Nat.reduceLeDiff, Int.reduceLT, Int.reduceLE, Int.reduceEq, ↓reduceIte, Int.reduceNeg, Int.reduceAdd, Int.reduceSub, Int.reduceMul, true_imp_iff, forall_const, Nat.mul_one, Int.reduceToNat, Nat.reducePow, Int.reducePow, Bool.true_and, Bool.false_and, Bool.and_false, rectAV, Rct.av, ←hF]
    refine allocC_by fun b3 hb3 => ?_
    repeat (with_reducible replace hb3 := set_none hb3; obtain ⟨_, _, hb3⟩ := hb3)
    have w : a.row ≤ m.row ∧ m.row + m.rows ≤ a.row + a.rows ∧ a.col ≤ m.col ∧ m.col + m.cols ≤ a.col + a.cols := by
      rw [v1]; dsimp only; omega
    replace hl := hl.trans (if_neg (fun h : true = false => by cases h))
    simp (disch := first | assumption | omega | (simp only [List.length_append]; omega)) only [go_sem, reduceCtorEq, Nat.reduceEqDiff, Nat.reduceAdd, Nat.reduceSub, Nat.reduceMul, Nat.reduceLeDiff, Int.reduceLT, Int.reduceLE, Int.reduceEq, ↓reduceIte, Int.reduceNeg, Int.reduceAdd, Int.reduceSub, Int.reduceMul, true_imp_iff, forall_const, Nat.mul_one, Int.reduceToNat, Nat.reducePow, Int.reducePow, Bool.true_and, Bool.false_and, Bool.and_false, ←hF]
    rw [hl, hF]
    clear v1 hv hl hM hq
    refine less_rest (b0 := b0) (b2 := b2) h1 h2 (by omega) (by omega) w.1 w.2.1 w.2.2.1 w.2.2.2 v2 v3 ?_ ?_ ?_ ?_ ?_ ?_ ?_
    · simp (disch := first | assumption | omega | (simp only [List.length_append]; omega)) only [go_sem, reduceCtorEq, Nat.reduceEqDiff, Nat.reduceAdd, Nat.reduceSub, Nat.reduceMul, Nat.reduceLeDiff, Int.reduceLT, Int.reduceLE, Int.reduceEq, ↓reduceIte, Int.reduceNeg, Int.reduceAdd, Int.reduceSub, Int.reduceMul, true_imp_iff, forall_const, Nat.mul_one, Int.reduceToNat, Nat.reducePow, Int.reducePow, Bool.true_and, Bool.false_and, Bool.and_false]
    · simp (disch := first | assumption | omega | (simp only [List.length_append]; omega)) only [go_sem, reduceCtorEq, Nat.reduceEqDiff, Nat.reduceAdd, Nat.reduceSub, Nat.reduceMul, Nat.reduceLeDiff, Int.reduceLT, Int.reduceLE, Int.reduceEq, ↓reduceIte, Int.reduceNeg, Int.reduceAdd, Int.reduceSub, Int.reduceMul, true_imp_iff, forall_const, Nat.mul_one, Int.reduceToNat, Nat.reducePow, Int.reducePow, Bool.true_and, Bool.false_and, Bool.and_false]
    · simp (disch := first | assumption | omega | (simp only [List.length_append]; omega)) only [go_sem, reduceCtorEq, Nat.reduceEqDiff, Nat.reduceAdd, Nat.reduceSub, Nat.reduceMul, Nat.reduceLeDiff, Int.reduceLT, Int.reduceLE, Int.reduceEq, ↓reduceIte, Int.reduceNeg, Int.reduceAdd, Int.reduceSub, Int.reduceMul, true_imp_iff, forall_const, Nat.mul_one, Int.reduceToNat, Nat.reducePow, Int.reducePow, Bool.true_and, Bool.false_and, Bool.and_false]
    · simp only [ASt.set, *, if_true, if_false]
    · simp only [ASt.set, *, if_true, if_false]
    · simp only [ASt.set, *, if_true, if_false]
    · repeat' (first | exact Drop.refl _ | with_reducible refine Drop.off ?_ (by assumption))
end Go.A
