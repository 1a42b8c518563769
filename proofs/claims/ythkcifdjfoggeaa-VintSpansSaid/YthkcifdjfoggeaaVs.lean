/- Has, Without, the document's Has: walked. -/
import Derived.Test.YthkcifdjfoggeaaVr
import Derived.Test.YthkcifdjfoggeaaVa
namespace Go.A
open Go.Proofs Go.Vint
set_option maxRecDepth 100000
set_option linter.unusedSimpArgs false
set_option linter.unusedVariables false

theorem norm_pos : ∀ {L : List (Int × Int)}, Norm L → ∀ {i : Nat} {x : Int × Int}, L[i]? = some x → x.1 < x.2
  | [], _, i, x, h => by simp at h
  | (a, b) :: r, hn, 0, x, h => by simp at h; subst h; exact hn.1
  | (a, b) :: r, hn, i + 1, x, h => norm_pos hn.2.2 (by simpa using h)
theorem norm_lt : ∀ {L : List (Int × Int)}, Norm L → ∀ {i j : Nat} {x y : Int × Int}, i < j → L[i]? = some x → L[j]? = some y → x.2 < y.1
  | [], _, i, j, x, y, _, h, _ => by simp at h
  | (a, b) :: r, hn, 0, j, x, y, hij, h, k => by
    obtain ⟨j, rfl⟩ : ∃ m, j = m + 1 := ⟨j - 1, by omega⟩
    simp at h
    subst h
    exact hn.2.1 y (List.mem_of_getElem? (by simpa using k))
  | (a, b) :: r, hn, i + 1, j, x, y, hij, h, k => by
    obtain ⟨j, rfl⟩ : ∃ m, j = m + 1 := ⟨j - 1, by omega⟩
    exact norm_lt hn.2.2 (i := i) (j := j) (by omega) (by simpa using h) (by simpa using k)
theorem norm_right {L : List (Int × Int)} (h : Norm L) : Right L := fun i hi x hx => ⟨norm_pos h hx, fun j y hj hy => norm_lt h (by omega) hy hx⟩
theorem right_norm : ∀ {L : List (Int × Int)}, Right L → Norm L
  | [], _ => trivial
  | (a, b) :: r, h => by
    have h0 := h 0 (by simp) (a, b) rfl
    have hr : Right r := fun i hi x hx => by
      have h1 := h (i + 1) (by simp; omega) x (by simpa using hx)
      refine ⟨h1.1, fun j y hj hy => ?_⟩
      exact h1.2 (j + 1) y (by omega) (by simpa using hy)
    have hn := right_norm hr
    refine ⟨h0.1, fun p hp => ?_, hn⟩
    obtain ⟨i, hi, rfl⟩ := List.mem_iff_getElem.1 hp
    have hpi : r[i]? = some r[i] := List.getElem?_eq_getElem hi
    cases i with
    | zero =>
      have h1 := h 1 (by simp; omega) r[0] (by simp)
      exact h1.2 0 (a, b) rfl rfl
    | succ i =>
      have hq : r[0]? = some (r[0]'(by omega)) := List.getElem?_eq_getElem (by omega)
      have h1 := h 1 (by simp; omega) (r[0]'(by omega)) (by simp)
      have h2 := h1.2 0 (a, b) rfl rfl
      have h3 := norm_lt hn (Nat.succ_pos i) hq hpi
      have h4 := norm_pos hn hq
      dsimp only at h2
      omega
theorem right_iff {L : List (Int × Int)} : rightB L = true ↔ Norm L := by
  simp only [rightB, decide_eq_true_eq]
  exact ⟨right_norm, norm_right⟩
open Classical in
noncomputable def hasB (L : List (Int × Int)) (u : Int) : Bool := decide (InS L u)

theorem Has_ok (L : List (Int × Int)) (u : Int) (hn : L.length ≤ 1000000) (hN : Norm L) : Pure Try.prog 26 [spansV L, .int .u64 u] (.bool (hasB L u)) := by
  intro σ
  obtain ⟨q, hq⟩ : ∃ q, hasB L u = q := ⟨_, rfl⟩
  rw [hq]
  unfold hasB at hq
  refine a26 (by simp) ?_
  simp (disch := first | assumption | omega | (simp only [List.length_append]; omega)) only [go_sem, reduceCtorEq, Nat.reduceEqDiff, Nat.reduceAdd, Nat.reduceSub, Nat.reduceMul, Nat.reduceLeDiff, Int.reduceLT, Int.reduceLE, Int.reduceEq, ↓reduceIte, Int.reduceNeg, Int.reduceAdd, Int.reduceSub, Int.reduceMul, true_imp_iff, forall_const, Nat.mul_one, Int.reduceToNat, Nat.reducePow, Int.reducePow, Bool.true_and, Bool.false_and, Bool.and_false, spansV]
  refine wp_loop_on (fun (i : Nat × Nat) a σ' => (i.1 ≤ i.2 ∧ i.2 ≤ L.length ∧ (∀ j x, j < i.1 → L[j]? = some x → x.2 ≤ u) ∧ ∀ j x, i.2 ≤ j → L[j]? = some x → u < x.2) ∧ (a 0 = .sl .shr (L.map spanV) ∧ a 1 = .int .u64 u ∧ a 5 = .int .i64 i.1 ∧ a 6 = .int .i64 i.2) ∧ σ' = σ)
    (fun i => i.2 - i.1) (0, L.length) ⟨⟨Nat.zero_le _, Nat.le_refl _, fun j x h => by omega, fun j x h hx => ?_⟩, ?_, rfl⟩ ?_
  · have := (List.getElem?_eq_some_iff.1 hx).1
    dsimp only at h
    omega
  · simp (disch := first | assumption | omega | (simp only [List.length_append]; omega)) only [go_sem, reduceCtorEq, Nat.reduceEqDiff, Nat.reduceAdd, Nat.reduceSub, Nat.reduceMul, Nat.reduceLeDiff, Int.reduceLT, Int.reduceLE, Int.reduceEq, ↓reduceIte, Int.reduceNeg, Int.reduceAdd, Int.reduceSub, Int.reduceMul, true_imp_iff, forall_const, Nat.mul_one, Int.reduceToNat, Nat.reducePow, Int.reducePow, Bool.true_and, Bool.false_and, Bool.and_false]
  rintro ⟨lo, hi⟩ a σ1 ⟨⟨h1, h2, h3, h4⟩, hf, rfl⟩
  dsimp only at h1 h2 h3 h4 hf
  by_cases hlt : lo < hi
  · have hlt' : (lo : Int) < hi := by omega
    obtain ⟨m, hm⟩ : ∃ m, (lo + hi) / 2 = m := ⟨_, rfl⟩
    have hmd : ((lo : Int) + hi).tdiv 2 = m := by rw [Int.tdiv_eq_ediv_of_nonneg (by omega)]; omega
    have hx : L[m]? = some (L[m]'(by omega)) := List.getElem?_eq_getElem (by omega)
    obtain ⟨x, hxx⟩ : ∃ x, L[m]'(by omega) = x := ⟨_, rfl⟩
    rw [hxx] at hx
    have hmx := spanV_map_get hx
    by_cases hc : x.2 ≤ u
    · simp (disch := first | assumption | omega | (simp only [List.length_append]; omega)) only [go_sem, reduceCtorEq, Nat.reduceEqDiff, Nat.reduceAdd, Nat.reduceSub, Nat.reduceMul, Nat.reduceLeDiff, Int.reduceLT, Int.reduceLE, Int.reduceEq, ↓reduceIte, Int.reduceNeg, Int.reduceAdd, Int.reduceSub, Int.reduceMul, true_imp_iff, forall_const, Nat.mul_one, Int.reduceToNat, Nat.reducePow, Int.reducePow, Bool.true_and, Bool.false_and, Bool.and_false, hf, hlt', hmd, hmx, hc]
      refine ⟨(m + 1, hi), by dsimp only; omega, ⟨by dsimp only; omega, h2, fun j y hj hy => ?_, h4⟩, ?_⟩
      · dsimp only at hj
        by_cases hjm : j = m
        · subst hjm; rw [hx] at hy; injection hy with hy; subst hy; exact hc
        · have := norm_lt hN (show j < m by omega) hy hx
          have := norm_pos hN hx
          omega
      · simp (disch := first | assumption | omega | (simp only [List.length_append]; omega)) only [go_sem, reduceCtorEq, Nat.reduceEqDiff, Nat.reduceAdd, Nat.reduceSub, Nat.reduceMul, Nat.reduceLeDiff, Int.reduceLT, Int.reduceLE, Int.reduceEq, ↓reduceIte, Int.reduceNeg, Int.reduceAdd, Int.reduceSub, Int.reduceMul, true_imp_iff, forall_const, Nat.mul_one, Int.reduceToNat, Nat.reducePow, Int.reducePow, Bool.true_and, Bool.false_and, Bool.and_false, hf]
    · simp (disch := first | assumption | omega | (simp only [List.length_append]; omega)) only [go_sem, reduceCtorEq, Nat.reduceEqDiff, Nat.reduceAdd, Nat.reduceSub, Nat.reduceMul, Nat.reduceLeDiff, Int.reduceLT, Int.reduceLE, Int.reduceEq, ↓reduceIte, Int.reduceNeg, Int.reduceAdd, Int.reduceSub, Int.reduceMul, true_imp_iff, forall_const, Nat.mul_one, Int.reduceToNat, Nat.reducePow, Int.reducePow, Bool.true_and, Bool.false_and, Bool.and_false, hf, hlt', hmd, hmx, hc]
      refine ⟨(lo, m), by dsimp only; omega, ⟨by dsimp only; omega, by dsimp only; omega, h3, fun j y hj hy => ?_⟩, ?_⟩
      · dsimp only at hj
        by_cases hjm : j = m
        · subst hjm; rw [hx] at hy; injection hy with hy; subst hy; omega
        · have := norm_lt hN (show m < j by omega) hx hy
          have := norm_pos hN hy
          omega
      · simp (disch := first | assumption | omega | (simp only [List.length_append]; omega)) only [go_sem, reduceCtorEq, Nat.reduceEqDiff, Nat.reduceAdd, Nat.reduceSub, Nat.reduceMul, Nat.reduceLeDiff, Int.reduceLT, Int.reduceLE, Int.reduceEq, ↓reduceIte, Int.reduceNeg, Int.reduceAdd, Int.reduceSub, Int.reduceMul, true_imp_iff, forall_const, Nat.mul_one, Int.reduceToNat, Nat.reducePow, Int.reducePow, Bool.true_and, Bool.false_and, Bool.and_false, hf]
  · have hlt' : ¬ (lo : Int) < hi := by omega
    obtain rfl : lo = hi := by omega
    by_cases hl : lo < L.length
    · have hl' : (lo : Int) < L.length := by omega
      have hx : L[lo]? = some (L[lo]'hl) := List.getElem?_eq_getElem hl
      obtain ⟨x, hxx⟩ : ∃ x, L[lo]'hl = x := ⟨_, rfl⟩
      rw [hxx] at hx
      have hmx := spanV_map_get hx
      have hiff : InS L u ↔ x.1 ≤ u := by
        constructor
        · rintro ⟨p, hp, p1, p2⟩
          obtain ⟨i, hi, rfl⟩ := List.mem_iff_getElem.1 hp
          have hpi : L[i]? = some L[i] := List.getElem?_eq_getElem hi
          rcases Nat.lt_trichotomy i lo with h | h | h
          · have := h3 i _ h hpi; omega
          · subst h; rw [hpi] at hx; injection hx with hx; rw [← hx]; exact p1
          · have := norm_lt hN h hx hpi
            have := norm_pos hN hx
            omega
        · intro h
          exact ⟨x, List.mem_of_getElem? hx, h, h4 lo x (Nat.le_refl _) hx⟩
      by_cases hc : x.1 ≤ u
      · have : q = true := by rw [← hq]; simp only [decide_eq_true_eq]; exact hiff.2 hc
        subst this
        simp (disch := first | assumption | omega | (simp only [List.length_append]; omega)) only [go_sem, reduceCtorEq, Nat.reduceEqDiff, Nat.reduceAdd, Nat.reduceSub, Nat.reduceMul, Nat.reduceLeDiff, Int.reduceLT, Int.reduceLE, Int.reduceEq, ↓reduceIte, Int.reduceNeg, Int.reduceAdd, Int.reduceSub, Int.reduceMul, true_imp_iff, forall_const, Nat.mul_one, Int.reduceToNat, Nat.reducePow, Int.reducePow, Bool.true_and, Bool.false_and, Bool.and_false, hf, hlt', hl', hmx, hc]
        exact retC_by (Drop.refl _) (.refl _) ⟨rfl, rfl⟩
      · have : q = false := by rw [← hq]; simp only [decide_eq_false_iff_not]; exact fun h => hc (hiff.1 h)
        subst this
        simp (disch := first | assumption | omega | (simp only [List.length_append]; omega)) only [go_sem, reduceCtorEq, Nat.reduceEqDiff, Nat.reduceAdd, Nat.reduceSub, Nat.reduceMul, Nat.reduceLeDiff, Int.reduceLT, Int.reduceLE, Int.reduceEq, ↓reduceIte, Int.reduceNeg, Int.reduceAdd, Int.reduceSub, Int.reduceMul, true_imp_iff, forall_const, Nat.mul_one, Int.reduceToNat, Nat.reducePow, Int.reducePow, Bool.true_and, Bool.false_and, Bool.and_false, hf, hlt', hl', hmx, hc]
        exact retC_by (Drop.refl _) (.refl _) ⟨rfl, rfl⟩
    · have hl' : ¬ (lo : Int) < L.length := by omega
      have : q = false := by
        rw [← hq]
        simp only [decide_eq_false_iff_not]
        rintro ⟨p, hp, p1, p2⟩
        obtain ⟨i, hi, rfl⟩ := List.mem_iff_getElem.1 hp
        have := h3 i _ (by omega) (List.getElem?_eq_getElem hi)
        omega
      subst this
      simp (disch := first | assumption | omega | (simp only [List.length_append]; omega)) only [go_sem, reduceCtorEq, Nat.reduceEqDiff, Nat.reduceAdd, Nat.reduceSub, Nat.reduceMul, Nat.reduceLeDiff, Int.reduceLT, Int.reduceLE, Int.reduceEq, ↓reduceIte, Int.reduceNeg, Int.reduceAdd, Int.reduceSub, Int.reduceMul, true_imp_iff, forall_const, Nat.mul_one, Int.reduceToNat, Nat.reducePow, Int.reducePow, Bool.true_and, Bool.false_and, Bool.and_false, hf, hlt', hl']
      exact retC_by (Drop.refl _) (.refl _) ⟨rfl, rfl⟩

theorem refHas_ok (L : List (Int × Int)) (u : Int) (hn : L.length ≤ 1000000) : Pure Try.prog 25 [spansV L, .int .u64 u] (.bool (hasB L u)) := by
  intro σ
  obtain ⟨q, hq⟩ : ∃ q, hasB L u = q := ⟨_, rfl⟩
  rw [hq]
  unfold hasB at hq
  refine a25 (by simp) ?_
  simp (disch := first | assumption | omega | (simp only [List.length_append]; omega)) only [go_sem, reduceCtorEq, Nat.reduceEqDiff, Nat.reduceAdd, Nat.reduceSub, Nat.reduceMul, Nat.reduceLeDiff, Int.reduceLT, Int.reduceLE, Int.reduceEq, ↓reduceIte, Int.reduceNeg, Int.reduceAdd, Int.reduceSub, Int.reduceMul, true_imp_iff, forall_const, Nat.mul_one, Int.reduceToNat, Nat.reducePow, Int.reducePow, Bool.true_and, Bool.false_and, Bool.and_false, spansV]
  refine wp_loop_by (fun (i : Nat) a σ' => (i ≤ L.length ∧ ∀ j x, j < i → L[j]? = some x → ¬ (x.1 ≤ u ∧ u < x.2)) ∧ (a 1 = .int .u64 u ∧ a 7 = .sl .shr (L.map spanV) ∧ a 8 = .int .i64 L.length ∧ a 9 = .int .i64 i) ∧ σ' = σ)
    (fun i => L.length - i) 0 (Dr.now ⟨⟨Nat.zero_le _, fun j x h => by omega⟩, ?_, rfl⟩) ?_
  · simp (disch := first | assumption | omega | (simp only [List.length_append]; omega)) only [go_sem, reduceCtorEq, Nat.reduceEqDiff, Nat.reduceAdd, Nat.reduceSub, Nat.reduceMul, Nat.reduceLeDiff, Int.reduceLT, Int.reduceLE, Int.reduceEq, ↓reduceIte, Int.reduceNeg, Int.reduceAdd, Int.reduceSub, Int.reduceMul, true_imp_iff, forall_const, Nat.mul_one, Int.reduceToNat, Nat.reducePow, Int.reducePow, Bool.true_and, Bool.false_and, Bool.and_false]
  rintro i a σ1 ⟨⟨h1, h2⟩, hf, rfl⟩
  by_cases hlt : i < L.length
  · have hlt' : (i : Int) < L.length := by omega
    have hx : L[i]? = some (L[i]'hlt) := List.getElem?_eq_getElem hlt
    obtain ⟨x, hxx⟩ : ∃ x, L[i]'hlt = x := ⟨_, rfl⟩
    rw [hxx] at hx
    have hmx := spanV_map_get hx
    simp (disch := first | assumption | omega | (simp only [List.length_append]; omega)) only [go_sem, reduceCtorEq, Nat.reduceEqDiff, Nat.reduceAdd, Nat.reduceSub, Nat.reduceMul, Nat.reduceLeDiff, Int.reduceLT, Int.reduceLE, Int.reduceEq, ↓reduceIte, Int.reduceNeg, Int.reduceAdd, Int.reduceSub, Int.reduceMul, true_imp_iff, forall_const, Nat.mul_one, Int.reduceToNat, Nat.reducePow, Int.reducePow, Bool.true_and, Bool.false_and, Bool.and_false, hf, hlt', hmx]
    refine allocC_by fun c hc => ?_
    have go : ¬ (x.1 ≤ u ∧ u < x.2) → ∀ j y, j < i + 1 → L[j]? = some y → ¬ (y.1 ≤ u ∧ u < y.2) := fun h j y hj hy => by
      by_cases hji : j = i
      · subst hji; rw [hx] at hy; injection hy with hy; subst hy; exact h
      · exact h2 j y (by omega) hy
    by_cases c1 : x.1 ≤ u
    · by_cases c2 : u < x.2
      · have : q = true := by rw [← hq]; simp only [decide_eq_true_eq]; exact ⟨x, List.mem_of_getElem? hx, c1, c2⟩
        subst this
        simp (disch := first | assumption | omega | (simp only [List.length_append]; omega)) only [go_sem, reduceCtorEq, Nat.reduceEqDiff, Nat.reduceAdd, Nat.reduceSub, Nat.reduceMul, Nat.reduceLeDiff, Int.reduceLT, Int.reduceLE, Int.reduceEq, ↓reduceIte, Int.reduceNeg, Int.reduceAdd, Int.reduceSub, Int.reduceMul, true_imp_iff, forall_const, Nat.mul_one, Int.reduceToNat, Nat.reducePow, Int.reducePow, Bool.true_and, Bool.false_and, Bool.and_false, hf, c1, c2]
        exact retC_by (Drop.set hc) (.refl _) ⟨rfl, rfl⟩
      · simp (disch := first | assumption | omega | (simp only [List.length_append]; omega)) only [go_sem, reduceCtorEq, Nat.reduceEqDiff, Nat.reduceAdd, Nat.reduceSub, Nat.reduceMul, Nat.reduceLeDiff, Int.reduceLT, Int.reduceLE, Int.reduceEq, ↓reduceIte, Int.reduceNeg, Int.reduceAdd, Int.reduceSub, Int.reduceMul, true_imp_iff, forall_const, Nat.mul_one, Int.reduceToNat, Nat.reducePow, Int.reducePow, Bool.true_and, Bool.false_and, Bool.and_false, hf, c1, c2]
        refine ⟨i + 1, by dsimp only; omega, Dr.lay hc ⟨⟨by omega, go (by omega)⟩, ?_, rfl⟩⟩
        simp (disch := first | assumption | omega | (simp only [List.length_append]; omega)) only [go_sem, reduceCtorEq, Nat.reduceEqDiff, Nat.reduceAdd, Nat.reduceSub, Nat.reduceMul, Nat.reduceLeDiff, Int.reduceLT, Int.reduceLE, Int.reduceEq, ↓reduceIte, Int.reduceNeg, Int.reduceAdd, Int.reduceSub, Int.reduceMul, true_imp_iff, forall_const, Nat.mul_one, Int.reduceToNat, Nat.reducePow, Int.reducePow, Bool.true_and, Bool.false_and, Bool.and_false, hf]
    · simp (disch := first | assumption | omega | (simp only [List.length_append]; omega)) only [go_sem, reduceCtorEq, Nat.reduceEqDiff, Nat.reduceAdd, Nat.reduceSub, Nat.reduceMul, Nat.reduceLeDiff, Int.reduceLT, Int.reduceLE, Int.reduceEq, ↓reduceIte, Int.reduceNeg, Int.reduceAdd, Int.reduceSub, Int.reduceMul, true_imp_iff, forall_const, Nat.mul_one, Int.reduceToNat, Nat.reducePow, Int.reducePow, Bool.true_and, Bool.false_and, Bool.and_false, hf, c1]
      refine ⟨i + 1, by dsimp only; omega, Dr.lay hc ⟨⟨by omega, go (by omega)⟩, ?_, rfl⟩⟩
      simp (disch := first | assumption | omega | (simp only [List.length_append]; omega)) only [go_sem, reduceCtorEq, Nat.reduceEqDiff, Nat.reduceAdd, Nat.reduceSub, Nat.reduceMul, Nat.reduceLeDiff, Int.reduceLT, Int.reduceLE, Int.reduceEq, ↓reduceIte, Int.reduceNeg, Int.reduceAdd, Int.reduceSub, Int.reduceMul, true_imp_iff, forall_const, Nat.mul_one, Int.reduceToNat, Nat.reducePow, Int.reducePow, Bool.true_and, Bool.false_and, Bool.and_false, hf]
  · have hlt' : ¬ (i : Int) < L.length := by omega
    have : q = false := by
      rw [← hq]
      simp only [decide_eq_false_iff_not]
      rintro ⟨p, hp, p1, p2⟩
      obtain ⟨j, hj, rfl⟩ := List.mem_iff_getElem.1 hp
      exact h2 j _ (by omega) (List.getElem?_eq_getElem hj) ⟨p1, p2⟩
    subst this
    simp (disch := first | assumption | omega | (simp only [List.length_append]; omega)) only [go_sem, reduceCtorEq, Nat.reduceEqDiff, Nat.reduceAdd, Nat.reduceSub, Nat.reduceMul, Nat.reduceLeDiff, Int.reduceLT, Int.reduceLE, Int.reduceEq, ↓reduceIte, Int.reduceNeg, Int.reduceAdd, Int.reduceSub, Int.reduceMul, true_imp_iff, forall_const, Nat.mul_one, Int.reduceToNat, Nat.reducePow, Int.reducePow, Bool.true_and, Bool.false_and, Bool.and_false, hf, hlt']
    exact retC_by (Drop.refl _) (.refl _) ⟨rfl, rfl⟩

/-- What of a span lies outside another one. -/
def cutL (s x : Int × Int) : List (Int × Int) := if x.1 < min x.2 s.1 then [(x.1, min x.2 s.1)] else []
def cutR (s x : Int × Int) : List (Int × Int) := if max x.1 s.2 < x.2 then [(max x.1 s.2, x.2)] else []
def withoutL (L : List (Int × Int)) (s : Int × Int) : List (Int × Int) := if s.1 < s.2 then L.flatMap fun x => cutL s x ++ cutR s x else L
theorem cutL_len (s x : Int × Int) : (cutL s x).length ≤ 1 := by unfold cutL; split <;> simp
theorem cutR_len (s x : Int × Int) : (cutR s x).length ≤ 1 := by unfold cutR; split <;> simp
theorem withoutL_len (L : List (Int × Int)) (s : Int × Int) : (withoutL L s).length ≤ 2 * L.length := by
  unfold withoutL
  split
  · induction L with
    | nil => simp
    | cons x L ih =>
      have := cutL_len s x
      have := cutR_len s x
      simp only [List.flatMap_cons, List.length_append, List.length_cons]
      omega
  · omega
theorem wo_bd {s x p : Int × Int} (h : p ∈ cutL s x ++ cutR s x) : x.1 ≤ p.1 ∧ p.1 < p.2 ∧ p.2 ≤ x.2 := by
  unfold cutL cutR at h
  rcases List.mem_append.1 h with h | h
  · split at h
    · simp at h; subst h; dsimp only; omega
    · cases h
  · split at h
    · simp at h; subst h; dsimp only; omega
    · cases h
theorem norm_app : ∀ {A B : List (Int × Int)}, Norm A → Norm B → (∀ p ∈ A, ∀ q ∈ B, p.2 < q.1) → Norm (A ++ B)
  | [], B, _, hB, _ => hB
  | (a, b) :: r, B, hA, hB, h => ⟨hA.1, fun p hp => by
      rcases List.mem_append.1 hp with hp | hp
      · exact hA.2.1 p hp
      · exact h (a, b) (by simp) p hp, norm_app hA.2.2 hB fun p hp q hq => h p (by simp [hp]) q hq⟩
theorem cut_norm {s x : Int × Int} (hs : s.1 < s.2) : Norm (cutL s x ++ cutR s x) := by
  refine norm_app ?_ ?_ ?_
  · unfold cutL
    split
    · exact ⟨by assumption, by simp, trivial⟩
    · trivial
  · unfold cutR
    split
    · exact ⟨by assumption, by simp, trivial⟩
    · trivial
  · intro p hp q hq
    unfold cutL at hp
    unfold cutR at hq
    split at hp
    · split at hq
      · simp at hp hq; subst hp hq; dsimp only; omega
      · cases hq
    · cases hp
theorem withoutF_norm {s : Int × Int} (hs : s.1 < s.2) : ∀ {L : List (Int × Int)}, Norm L → Norm (L.flatMap fun x => cutL s x ++ cutR s x)
  | [], _ => trivial
  | (a, b) :: r, h => by
    rw [List.flatMap_cons]
    refine norm_app (cut_norm hs) (withoutF_norm hs h.2.2) fun p hp q hq => ?_
    obtain ⟨y, hy, hq⟩ := List.mem_flatMap.1 hq
    have h1 := wo_bd hp
    have h2 := wo_bd hq
    have h3 := h.2.1 y hy
    dsimp only at h1
    omega
theorem withoutL_norm {L : List (Int × Int)} (s : Int × Int) (h : Norm L) : Norm (withoutL L s) := by
  unfold withoutL
  split
  · exact withoutF_norm (by assumption) h
  · exact h
theorem withoutL_in {L : List (Int × Int)} (s : Int × Int) (u : Int) : InS (withoutL L s) u ↔ InS L u ∧ ¬ (s.1 ≤ u ∧ u < s.2) := by
  unfold withoutL
  split
  · rename_i hs
    induction L with
    | nil => simp [InS]
    | cons x L ih =>
      have e : InS (List.flatMap (fun x => cutL s x ++ cutR s x) (x :: L)) u ↔ InS (cutL s x ++ cutR s x) u ∨ InS (List.flatMap (fun x => cutL s x ++ cutR s x) L) u := by
        simp only [InS, List.flatMap_cons, List.mem_append]
        constructor
        · rintro ⟨p, hp | hp, h⟩
          · exact .inl ⟨p, hp, h⟩
          · exact .inr ⟨p, hp, h⟩
        · rintro (⟨p, hp, h⟩ | ⟨p, hp, h⟩)
          · exact ⟨p, .inl hp, h⟩
          · exact ⟨p, .inr hp, h⟩
      have e2 : InS (cutL s x ++ cutR s x) u ↔ (x.1 ≤ u ∧ u < x.2) ∧ ¬ (s.1 ≤ u ∧ u < s.2) := by
        unfold cutL cutR InS
        split <;> split <;> simp <;> omega
      obtain ⟨a, b⟩ := x
      rw [e, e2, ih, inS_cons]
      constructor
      · rintro (⟨h1, h2⟩ | ⟨h1, h2⟩)
        · exact ⟨.inl h1, h2⟩
        · exact ⟨.inr h1, h2⟩
      · rintro ⟨h1 | h1, h2⟩
        · exact .inl ⟨h1, h2⟩
        · exact .inr ⟨h1, h2⟩
  · rename_i hs
    constructor
    · exact fun h => ⟨h, by omega⟩
    · exact fun h => h.1

set_option maxHeartbeats 1000000 in
theorem Without_ok (L : List (Int × Int)) (s : Int × Int) (hn : L.length ≤ 1000000) : Pure Try.prog 23 [spansV L, spanV s] (spansV (withoutL L s)) := by
  intro σ
  obtain ⟨q, hq⟩ : ∃ q, withoutL L s = q := ⟨_, rfl⟩
  rw [hq]
  unfold withoutL at hq
  obtain ⟨s1, s2⟩ := s
  dsimp only at hq
  refine a23 (by simp) ?_
  obtain ⟨G, hG⟩ : ∃ F, F = ACode.wp Try.prog c23_22 := ⟨_, rfl⟩
  obtain ⟨F, hF⟩ : ∃ F, F = ACode.wp Try.prog c23_34 := ⟨_, rfl⟩
  simp (disch := first | assumption | omega | (simp only [List.length_append]; omega)) only [go_sem, reduceCtorEq, Nat.reduceEqDiff, Nat.reduceAdd, Nat.reduceSub, Nat.reduceMul, Nat.reduceLeDiff, Int.reduceLT, Int.reduceLE, Int.reduceEq, ↓reduceIte, Int.reduceNeg, Int.reduceAdd, Int.reduceSub, Int.reduceMul, true_imp_iff, forall_const, Nat.mul_one, Int.reduceToNat, Nat.reducePow, Int.reducePow, Bool.true_and, Bool.false_and, Bool.and_false, spansV, spanV, ←hG, ←hF]
  refine boxC_by rfl fun c3 hc3 => ?_
  by_cases hs : s1 < s2
  · have hs' : ¬ s2 ≤ s1 := by omega
    rw [if_pos hs] at hq
    have second : ∀ (Q : APost) (B : ASt) (i : Nat) (x1 x2 : Int) (c7 : Nat) (k : SK) (out : List (Int × Int)) (a : AFr) (σ1 : ASt), out.length ≤ 3000000 → B c3 = some (.obj [.int .u64 s1, .int .u64 s2]) → B c7 = some (.obj [.int .u64 x1, .int .u64 x2]) →
        (a 3 = .ptr c3 0 ∧ a 7 = .ptr c7 0 ∧ a 18 = .sl .shr (L.map spanV) ∧ a 19 = .int .i64 L.length ∧ a 20 = .int .i64 i) → a 5 = .sl k (out.map spanV) → Grown B σ1 k (out.map spanV).length 2 →
        (∀ (a' : AFr) (k' : SK) (σ2 : ASt), (a' 3 = .ptr c3 0 ∧ a' 18 = .sl .shr (L.map spanV) ∧ a' 19 = .int .i64 L.length ∧ a' 20 = .int .i64 i) → a' 5 = .sl k' ((out ++ cutR (s1, s2) (x1, x2)).map spanV) →
          (∃ σ3, Drop σ2 σ3 ∧ Grown B σ3 k' ((out ++ cutR (s1, s2) (x1, x2)).map spanV).length 2) → Q .normal a' σ2) → G Q a σ1 := by
      intro Q B i x1 x2 c7 k out a σ1 hol b3 b7 hf h5 hg hQ
      have r3 := hg.at b3
      have r7 := hg.at b7
      rw [hG]
      simp (disch := first | assumption | omega | (simp only [List.length_append]; omega)) only [go_sem, reduceCtorEq, Nat.reduceEqDiff, Nat.reduceAdd, Nat.reduceSub, Nat.reduceMul, Nat.reduceLeDiff, Int.reduceLT, Int.reduceLE, Int.reduceEq, ↓reduceIte, Int.reduceNeg, Int.reduceAdd, Int.reduceSub, Int.reduceMul, true_imp_iff, forall_const, Nat.mul_one, Int.reduceToNat, Nat.reducePow, Int.reducePow, Bool.true_and, Bool.false_and, Bool.and_false, hf, r3, r7]
      refine allocC_by fun c9 hc9 => ?_
      obtain ⟨hg9, hc90⟩ := hg.plus hc9 (q := .obj [.int .u64 (max x1 s2), .int .u64 x2])
      unfold cutR at hQ
      dsimp only at hQ
      by_cases hc : max x1 s2 < x2
      · rw [if_pos hc] at hQ
        simp (disch := first | assumption | omega | (simp only [List.length_append]; omega)) only [go_sem, reduceCtorEq, Nat.reduceEqDiff, Nat.reduceAdd, Nat.reduceSub, Nat.reduceMul, Nat.reduceLeDiff, Int.reduceLT, Int.reduceLE, Int.reduceEq, ↓reduceIte, Int.reduceNeg, Int.reduceAdd, Int.reduceSub, Int.reduceMul, true_imp_iff, forall_const, Nat.mul_one, Int.reduceToNat, Nat.reducePow, Int.reducePow, Bool.true_and, Bool.false_and, Bool.and_false, hf, h5, hc]
        refine appC_by hg9 rfl rfl (by simp only [List.length_map, List.length_cons, List.length_nil]; omega) (by simp only [List.length_map, List.length_cons, List.length_nil]; omega) fun k' σ' hg' => ?_
        have hap : out.map spanV ++ [.agg [.int .u64 (max x1 s2), .int .u64 x2]] = (out ++ [(max x1 s2, x2)]).map spanV := by simp [spanV]
        rw [hap] at hg' ⊢
        obtain ⟨σ3, hd, hg3⟩ := hg'.less hc90
        simp (disch := first | assumption | omega | (simp only [List.length_append]; omega)) only [go_sem, reduceCtorEq, Nat.reduceEqDiff, Nat.reduceAdd, Nat.reduceSub, Nat.reduceMul, Nat.reduceLeDiff, Int.reduceLT, Int.reduceLE, Int.reduceEq, ↓reduceIte, Int.reduceNeg, Int.reduceAdd, Int.reduceSub, Int.reduceMul, true_imp_iff, forall_const, Nat.mul_one, Int.reduceToNat, Nat.reducePow, Int.reducePow, Bool.true_and, Bool.false_and, Bool.and_false, hf]
        refine hQ _ k' σ' ?_ ?_ ⟨σ3, hd, by simpa using hg3⟩
        · simp (disch := first | assumption | omega | (simp only [List.length_append]; omega)) only [go_sem, reduceCtorEq, Nat.reduceEqDiff, Nat.reduceAdd, Nat.reduceSub, Nat.reduceMul, Nat.reduceLeDiff, Int.reduceLT, Int.reduceLE, Int.reduceEq, ↓reduceIte, Int.reduceNeg, Int.reduceAdd, Int.reduceSub, Int.reduceMul, true_imp_iff, forall_const, Nat.mul_one, Int.reduceToNat, Nat.reducePow, Int.reducePow, Bool.true_and, Bool.false_and, Bool.and_false, hf]
        · simp (disch := first | assumption | omega | (simp only [List.length_append]; omega)) only [go_sem, reduceCtorEq, Nat.reduceEqDiff, Nat.reduceAdd, Nat.reduceSub, Nat.reduceMul, Nat.reduceLeDiff, Int.reduceLT, Int.reduceLE, Int.reduceEq, ↓reduceIte, Int.reduceNeg, Int.reduceAdd, Int.reduceSub, Int.reduceMul, true_imp_iff, forall_const, Nat.mul_one, Int.reduceToNat, Nat.reducePow, Int.reducePow, Bool.true_and, Bool.false_and, Bool.and_false]
      · rw [if_neg hc, List.append_nil] at hQ
        obtain ⟨σ3, hd, hg3⟩ := hg9.less hc90
        simp (disch := first | assumption | omega | (simp only [List.length_append]; omega)) only [go_sem, reduceCtorEq, Nat.reduceEqDiff, Nat.reduceAdd, Nat.reduceSub, Nat.reduceMul, Nat.reduceLeDiff, Int.reduceLT, Int.reduceLE, Int.reduceEq, ↓reduceIte, Int.reduceNeg, Int.reduceAdd, Int.reduceSub, Int.reduceMul, true_imp_iff, forall_const, Nat.mul_one, Int.reduceToNat, Nat.reducePow, Int.reducePow, Bool.true_and, Bool.false_and, Bool.and_false, hf, h5, hc]
        refine hQ _ k _ ?_ ?_ ⟨σ3, hd, hg3⟩
        · simp (disch := first | assumption | omega | (simp only [List.length_append]; omega)) only [go_sem, reduceCtorEq, Nat.reduceEqDiff, Nat.reduceAdd, Nat.reduceSub, Nat.reduceMul, Nat.reduceLeDiff, Int.reduceLT, Int.reduceLE, Int.reduceEq, ↓reduceIte, Int.reduceNeg, Int.reduceAdd, Int.reduceSub, Int.reduceMul, true_imp_iff, forall_const, Nat.mul_one, Int.reduceToNat, Nat.reducePow, Int.reducePow, Bool.true_and, Bool.false_and, Bool.and_false, hf]
        · simp (disch := first | assumption | omega | (simp only [List.length_append]; omega)) only [go_sem, reduceCtorEq, Nat.reduceEqDiff, Nat.reduceAdd, Nat.reduceSub, Nat.reduceMul, Nat.reduceLeDiff, Int.reduceLT, Int.reduceLE, Int.reduceEq, ↓reduceIte, Int.reduceNeg, Int.reduceAdd, Int.reduceSub, Int.reduceMul, true_imp_iff, forall_const, Nat.mul_one, Int.reduceToNat, Nat.reducePow, Int.reducePow, Bool.true_and, Bool.false_and, Bool.and_false, h5]
    simp (disch := first | assumption | omega | (simp only [List.length_append]; omega)) only [go_sem, reduceCtorEq, Nat.reduceEqDiff, Nat.reduceAdd, Nat.reduceSub, Nat.reduceMul, Nat.reduceLeDiff, Int.reduceLT, Int.reduceLE, Int.reduceEq, ↓reduceIte, Int.reduceNeg, Int.reduceAdd, Int.reduceSub, Int.reduceMul, true_imp_iff, forall_const, Nat.mul_one, Int.reduceToNat, Nat.reducePow, Int.reducePow, Bool.true_and, Bool.false_and, Bool.and_false, hs', ←hG, ←hF]
    refine wp_loop_by (fun (i : Nat) a σ' => i ≤ L.length ∧ (a 3 = .ptr c3 0 ∧ a 18 = .sl .shr (L.map spanV) ∧ a 19 = .int .i64 L.length ∧ a 20 = .int .i64 i) ∧ ∃ k, a 5 = .sl k (((L.take i).flatMap fun x => cutL (s1, s2) x ++ cutR (s1, s2) x).map spanV) ∧ Grown (σ.set c3 (some (.obj [.int .u64 s1, .int .u64 s2]))) σ' k (((L.take i).flatMap fun x => cutL (s1, s2) x ++ cutR (s1, s2) x).map spanV).length 2)
      (fun i => L.length - i) 0 (Dr.now ⟨Nat.zero_le _, ?_, .full, ?_, .inl ⟨rfl, by simp, rfl⟩⟩) ?_
    · simp (disch := first | assumption | omega | (simp only [List.length_append]; omega)) only [go_sem, reduceCtorEq, Nat.reduceEqDiff, Nat.reduceAdd, Nat.reduceSub, Nat.reduceMul, Nat.reduceLeDiff, Int.reduceLT, Int.reduceLE, Int.reduceEq, ↓reduceIte, Int.reduceNeg, Int.reduceAdd, Int.reduceSub, Int.reduceMul, true_imp_iff, forall_const, Nat.mul_one, Int.reduceToNat, Nat.reducePow, Int.reducePow, Bool.true_and, Bool.false_and, Bool.and_false]
    · simp (disch := first | assumption | omega | (simp only [List.length_append]; omega)) only [go_sem, reduceCtorEq, Nat.reduceEqDiff, Nat.reduceAdd, Nat.reduceSub, Nat.reduceMul, Nat.reduceLeDiff, Int.reduceLT, Int.reduceLE, Int.reduceEq, ↓reduceIte, Int.reduceNeg, Int.reduceAdd, Int.reduceSub, Int.reduceMul, true_imp_iff, forall_const, Nat.mul_one, Int.reduceToNat, Nat.reducePow, Int.reducePow, Bool.true_and, Bool.false_and, Bool.and_false]
      rfl
    rintro i a σ1 ⟨hi, hf, k, h5, hg⟩
    have hol : ((L.take i).flatMap fun x => cutL (s1, s2) x ++ cutR (s1, s2) x).length ≤ 2 * L.length := by
      have := withoutL_len (L.take i) (s1, s2)
      unfold withoutL at this
      rw [if_pos hs] at this
      simp only [List.length_take] at this
      omega
    by_cases hlt : i < L.length
    · have hlt' : (i : Int) < L.length := by omega
      have hx : L[i]? = some (L[i]'hlt) := List.getElem?_eq_getElem hlt
      obtain ⟨x, hxx⟩ : ∃ x, L[i]'hlt = x := ⟨_, rfl⟩
      rw [hxx] at hx
      have hmx := spanV_map_get hx
      have hsn : (L.take (i + 1)).flatMap (fun x => cutL (s1, s2) x ++ cutR (s1, s2) x) = (L.take i).flatMap (fun x => cutL (s1, s2) x ++ cutR (s1, s2) x) ++ cutL (s1, s2) x ++ cutR (s1, s2) x := by
        obtain ⟨h1, h2⟩ := List.getElem?_eq_some_iff.1 hx
        rw [List.take_succ_eq_append_getElem h1, h2, List.flatMap_append]
        simp
      generalize (L.take i).flatMap (fun x => cutL (s1, s2) x ++ cutR (s1, s2) x) = out at *
      obtain ⟨x1, x2⟩ := x
      dsimp only at hmx
      simp (disch := first | assumption | omega | (simp only [List.length_append]; omega)) only [go_sem, reduceCtorEq, Nat.reduceEqDiff, Nat.reduceAdd, Nat.reduceSub, Nat.reduceMul, Nat.reduceLeDiff, Int.reduceLT, Int.reduceLE, Int.reduceEq, ↓reduceIte, Int.reduceNeg, Int.reduceAdd, Int.reduceSub, Int.reduceMul, true_imp_iff, forall_const, Nat.mul_one, Int.reduceToNat, Nat.reducePow, Int.reducePow, Bool.true_and, Bool.false_and, Bool.and_false, hf, h5, hlt', hmx, ←hG, ←hF]
      refine allocC_by fun c7 hc7 => ?_
      obtain ⟨hg7, hc70⟩ := hg.plus hc7 (q := .obj [.int .u64 x1, .int .u64 x2])
      obtain ⟨m1, m2, _⟩ := set_none hc70
      have r3 : σ1 c3 = some (.obj [.int .u64 s1, .int .u64 s2]) := hg.at (ASt.set_same _ _ _)
      simp (disch := first | assumption | omega | (simp only [List.length_append]; omega)) only [go_sem, reduceCtorEq, Nat.reduceEqDiff, Nat.reduceAdd, Nat.reduceSub, Nat.reduceMul, Nat.reduceLeDiff, Int.reduceLT, Int.reduceLE, Int.reduceEq, ↓reduceIte, Int.reduceNeg, Int.reduceAdd, Int.reduceSub, Int.reduceMul, true_imp_iff, forall_const, Nat.mul_one, Int.reduceToNat, Nat.reducePow, Int.reducePow, Bool.true_and, Bool.false_and, Bool.and_false, hf, r3, ←hG, ←hF]
      refine allocC_by fun c8 hc8 => ?_
      obtain ⟨m3, m4, hc8'⟩ := set_none hc8
      obtain ⟨hg8, hc80⟩ := hg7.plus hc8 (q := .obj [.int .u64 x1, .int .u64 (min x2 s1)])
      obtain ⟨m5, m6, hc80'⟩ := set_none hc80
      obtain ⟨m7, m8, _⟩ := set_none hc80'
      have fin2 : ∀ (a' : AFr) (k' : SK) (σ2 : ASt), (a' 3 = .ptr c3 0 ∧ a' 18 = .sl .shr (L.map spanV) ∧ a' 19 = .int .i64 L.length ∧ a' 20 = .int .i64 i) → a' 5 = .sl k' ((out ++ cutL (s1, s2) (x1, x2) ++ cutR (s1, s2) (x1, x2)).map spanV) →
          (∃ σ3, Drop σ2 σ3 ∧ Grown (((σ.set c3 (some (.obj [.int .u64 s1, .int .u64 s2]))).set c7 (some (.obj [.int .u64 x1, .int .u64 x2]))).set c8 (some (.obj [.int .u64 x1, .int .u64 (min x2 s1)]))) σ3 k' ((out ++ cutL (s1, s2) (x1, x2) ++ cutR (s1, s2) (x1, x2)).map spanV).length 2) →
          Again (fun (i : Nat) a σ' => i ≤ L.length ∧ (a 3 = .ptr c3 0 ∧ a 18 = .sl .shr (L.map spanV) ∧ a 19 = .int .i64 L.length ∧ a 20 = .int .i64 i) ∧ ∃ k, a 5 = .sl k (((L.take i).flatMap fun x => cutL (s1, s2) x ++ cutR (s1, s2) x).map spanV) ∧ Grown (σ.set c3 (some (.obj [.int .u64 s1, .int .u64 s2]))) σ' k (((L.take i).flatMap fun x => cutL (s1, s2) x ++ cutR (s1, s2) x).map spanV).length 2)
            (fun i => L.length - i) i (a'.upd 58 (.int .i64 ((i : Int) + 1)) |>.upd 20 (.int .i64 ((i : Int) + 1))) σ2 := by
        rintro a' k' σ2 hf' h5' ⟨σ3, hd3, hg3⟩
        obtain ⟨σ4, hd4, hg4⟩ := hg3.less hc80
        obtain ⟨σ5, hd5, hg5⟩ := hg4.less hc70
        refine ⟨i + 1, by dsimp only; omega, Dr.drop ((hd3.trans hd4).trans hd5) ⟨by omega, ?_, k', ?_, by rw [hsn]; exact hg5⟩⟩
        · simp (disch := first | assumption | omega | (simp only [List.length_append]; omega)) only [go_sem, reduceCtorEq, Nat.reduceEqDiff, Nat.reduceAdd, Nat.reduceSub, Nat.reduceMul, Nat.reduceLeDiff, Int.reduceLT, Int.reduceLE, Int.reduceEq, ↓reduceIte, Int.reduceNeg, Int.reduceAdd, Int.reduceSub, Int.reduceMul, true_imp_iff, forall_const, Nat.mul_one, Int.reduceToNat, Nat.reducePow, Int.reducePow, Bool.true_and, Bool.false_and, Bool.and_false, hf']
        · rw [hsn]
          simp (disch := first | assumption | omega | (simp only [List.length_append]; omega)) only [go_sem, reduceCtorEq, Nat.reduceEqDiff, Nat.reduceAdd, Nat.reduceSub, Nat.reduceMul, Nat.reduceLeDiff, Int.reduceLT, Int.reduceLE, Int.reduceEq, ↓reduceIte, Int.reduceNeg, Int.reduceAdd, Int.reduceSub, Int.reduceMul, true_imp_iff, forall_const, Nat.mul_one, Int.reduceToNat, Nat.reducePow, Int.reducePow, Bool.true_and, Bool.false_and, Bool.and_false, h5']
      have hcl := cutL_len (s1, s2) (x1, x2)
      by_cases hc : x1 < min x2 s1
      · have hcL : cutL (s1, s2) (x1, x2) = [(x1, min x2 s1)] := by unfold cutL; rw [if_pos hc]
        rw [hcL] at fin2
        simp (disch := first | assumption | omega | (simp only [List.length_append]; omega)) only [go_sem, reduceCtorEq, Nat.reduceEqDiff, Nat.reduceAdd, Nat.reduceSub, Nat.reduceMul, Nat.reduceLeDiff, Int.reduceLT, Int.reduceLE, Int.reduceEq, ↓reduceIte, Int.reduceNeg, Int.reduceAdd, Int.reduceSub, Int.reduceMul, true_imp_iff, forall_const, Nat.mul_one, Int.reduceToNat, Nat.reducePow, Int.reducePow, Bool.true_and, Bool.false_and, Bool.and_false, hf, h5, hc, ←hG, ←hF]
        refine appC_by hg8 rfl rfl (by simp only [List.length_map, List.length_cons, List.length_nil]; omega) (by simp only [List.length_map, List.length_cons, List.length_nil]; omega) fun k' σ' hg' => ?_
        have hap : out.map spanV ++ [.agg [.int .u64 x1, .int .u64 (min x2 s1)]] = (out ++ [(x1, min x2 s1)]).map spanV := by simp [spanV]
        rw [hap] at hg' ⊢
        simp (disch := first | assumption | omega | (simp only [List.length_append]; omega)) only [go_sem, reduceCtorEq, Nat.reduceEqDiff, Nat.reduceAdd, Nat.reduceSub, Nat.reduceMul, Nat.reduceLeDiff, Int.reduceLT, Int.reduceLE, Int.reduceEq, ↓reduceIte, Int.reduceNeg, Int.reduceAdd, Int.reduceSub, Int.reduceMul, true_imp_iff, forall_const, Nat.mul_one, Int.reduceToNat, Nat.reducePow, Int.reducePow, Bool.true_and, Bool.false_and, Bool.and_false, hf, ←hG, ←hF]
        refine second _ _ i x1 x2 c7 k' (out ++ [(x1, min x2 s1)]) _ σ' (by simp; omega) ?_ ?_ ?_ ?_ hg' ?_
        · rw [ASt.set_ne m8, ASt.set_ne m2, ASt.set_same]
        · rw [ASt.set_ne m4, ASt.set_same]
        · simp (disch := first | assumption | omega | (simp only [List.length_append]; omega)) only [go_sem, reduceCtorEq, Nat.reduceEqDiff, Nat.reduceAdd, Nat.reduceSub, Nat.reduceMul, Nat.reduceLeDiff, Int.reduceLT, Int.reduceLE, Int.reduceEq, ↓reduceIte, Int.reduceNeg, Int.reduceAdd, Int.reduceSub, Int.reduceMul, true_imp_iff, forall_const, Nat.mul_one, Int.reduceToNat, Nat.reducePow, Int.reducePow, Bool.true_and, Bool.false_and, Bool.and_false, hf]
        · simp (disch := first | assumption | omega | (simp only [List.length_append]; omega)) only [go_sem, reduceCtorEq, Nat.reduceEqDiff, Nat.reduceAdd, Nat.reduceSub, Nat.reduceMul, Nat.reduceLeDiff, Int.reduceLT, Int.reduceLE, Int.reduceEq, ↓reduceIte, Int.reduceNeg, Int.reduceAdd, Int.reduceSub, Int.reduceMul, true_imp_iff, forall_const, Nat.mul_one, Int.reduceToNat, Nat.reducePow, Int.reducePow, Bool.true_and, Bool.false_and, Bool.and_false]
        · intro a' k2 σ2 hf' h5' hg2
          simp (disch := first | assumption | omega | (simp only [List.length_append]; omega)) only [go_sem, reduceCtorEq, Nat.reduceEqDiff, Nat.reduceAdd, Nat.reduceSub, Nat.reduceMul, Nat.reduceLeDiff, Int.reduceLT, Int.reduceLE, Int.reduceEq, ↓reduceIte, Int.reduceNeg, Int.reduceAdd, Int.reduceSub, Int.reduceMul, true_imp_iff, forall_const, Nat.mul_one, Int.reduceToNat, Nat.reducePow, Int.reducePow, Bool.true_and, Bool.false_and, Bool.and_false, hf', ←hG, ←hF]
          have hfin := fin2 a' k2 σ2 hf' h5' hg2
          simp only [List.length_map] at hfin
          exact hfin
      · have hcL : cutL (s1, s2) (x1, x2) = [] := by unfold cutL; rw [if_neg hc]
        rw [hcL, List.append_nil] at fin2
        simp (disch := first | assumption | omega | (simp only [List.length_append]; omega)) only [go_sem, reduceCtorEq, Nat.reduceEqDiff, Nat.reduceAdd, Nat.reduceSub, Nat.reduceMul, Nat.reduceLeDiff, Int.reduceLT, Int.reduceLE, Int.reduceEq, ↓reduceIte, Int.reduceNeg, Int.reduceAdd, Int.reduceSub, Int.reduceMul, true_imp_iff, forall_const, Nat.mul_one, Int.reduceToNat, Nat.reducePow, Int.reducePow, Bool.true_and, Bool.false_and, Bool.and_false, hf, h5, hc, ←hG, ←hF]
        refine second _ _ i x1 x2 c7 k out _ _ (by omega) ?_ ?_ ?_ ?_ hg8 ?_
        · rw [ASt.set_ne m8, ASt.set_ne m2, ASt.set_same]
        · rw [ASt.set_ne m4, ASt.set_same]
        · simp (disch := first | assumption | omega | (simp only [List.length_append]; omega)) only [go_sem, reduceCtorEq, Nat.reduceEqDiff, Nat.reduceAdd, Nat.reduceSub, Nat.reduceMul, Nat.reduceLeDiff, Int.reduceLT, Int.reduceLE, Int.reduceEq, ↓reduceIte, Int.reduceNeg, Int.reduceAdd, Int.reduceSub, Int.reduceMul, true_imp_iff, forall_const, Nat.mul_one, Int.reduceToNat, Nat.reducePow, Int.reducePow, Bool.true_and, Bool.false_and, Bool.and_false, hf]
        · simp (disch := first | assumption | omega | (simp only [List.length_append]; omega)) only [go_sem, reduceCtorEq, Nat.reduceEqDiff, Nat.reduceAdd, Nat.reduceSub, Nat.reduceMul, Nat.reduceLeDiff, Int.reduceLT, Int.reduceLE, Int.reduceEq, ↓reduceIte, Int.reduceNeg, Int.reduceAdd, Int.reduceSub, Int.reduceMul, true_imp_iff, forall_const, Nat.mul_one, Int.reduceToNat, Nat.reducePow, Int.reducePow, Bool.true_and, Bool.false_and, Bool.and_false, h5]
        · intro a' k2 σ2 hf' h5' hg2
          simp (disch := first | assumption | omega | (simp only [List.length_append]; omega)) only [go_sem, reduceCtorEq, Nat.reduceEqDiff, Nat.reduceAdd, Nat.reduceSub, Nat.reduceMul, Nat.reduceLeDiff, Int.reduceLT, Int.reduceLE, Int.reduceEq, ↓reduceIte, Int.reduceNeg, Int.reduceAdd, Int.reduceSub, Int.reduceMul, true_imp_iff, forall_const, Nat.mul_one, Int.reduceToNat, Nat.reducePow, Int.reducePow, Bool.true_and, Bool.false_and, Bool.and_false, hf', ←hG, ←hF]
          have hfin := fin2 a' k2 σ2 hf' h5' hg2
          simp only [List.length_map] at hfin
          exact hfin
    · have hlt' : ¬ (i : Int) < L.length := by omega
      have e : L.take i = L := List.take_of_length_le (by omega)
      rw [e, hq] at h5 hg
      simp (disch := first | assumption | omega | (simp only [List.length_append]; omega)) only [go_sem, reduceCtorEq, Nat.reduceEqDiff, Nat.reduceAdd, Nat.reduceSub, Nat.reduceMul, Nat.reduceLeDiff, Int.reduceLT, Int.reduceLE, Int.reduceEq, ↓reduceIte, Int.reduceNeg, Int.reduceAdd, Int.reduceSub, Int.reduceMul, true_imp_iff, forall_const, Nat.mul_one, Int.reduceToNat, Nat.reducePow, Int.reducePow, Bool.true_and, Bool.false_and, Bool.and_false, hf, h5, hlt', ←hG, ←hF]
      rw [hF]
      simp (disch := first | assumption | omega | (simp only [List.length_append]; omega)) only [go_sem, reduceCtorEq, Nat.reduceEqDiff, Nat.reduceAdd, Nat.reduceSub, Nat.reduceMul, Nat.reduceLeDiff, Int.reduceLT, Int.reduceLE, Int.reduceEq, ↓reduceIte, Int.reduceNeg, Int.reduceAdd, Int.reduceSub, Int.reduceMul, true_imp_iff, forall_const, Nat.mul_one, Int.reduceToNat, Nat.reducePow, Int.reducePow, Bool.true_and, Bool.false_and, Bool.and_false, h5]
      exact retC_by (hg.drop.trans (Drop.set hc3)) (.sl _ _) ⟨rfl, rfl⟩
  · have hs' : s2 ≤ s1 := by omega
    rw [if_neg hs] at hq
    subst hq
    simp (disch := first | assumption | omega | (simp only [List.length_append]; omega)) only [go_sem, reduceCtorEq, Nat.reduceEqDiff, Nat.reduceAdd, Nat.reduceSub, Nat.reduceMul, Nat.reduceLeDiff, Int.reduceLT, Int.reduceLE, Int.reduceEq, ↓reduceIte, Int.reduceNeg, Int.reduceAdd, Int.reduceSub, Int.reduceMul, true_imp_iff, forall_const, Nat.mul_one, Int.reduceToNat, Nat.reducePow, Int.reducePow, Bool.true_and, Bool.false_and, Bool.and_false, hs', ←hG, ←hF]
    refine appC_by (Grown.start _ _) (by exact wellSz_map (f := spanV) (fun _ => ⟨rfl, rfl⟩) L) (by exact leaves_map (f := spanV) (fun _ => rfl) L) (by simp; omega) (by simp; omega) fun k' σ' hg' => ?_
    simp (disch := first | assumption | omega | (simp only [List.length_append]; omega)) only [go_sem, reduceCtorEq, Nat.reduceEqDiff, Nat.reduceAdd, Nat.reduceSub, Nat.reduceMul, Nat.reduceLeDiff, Int.reduceLT, Int.reduceLE, Int.reduceEq, ↓reduceIte, Int.reduceNeg, Int.reduceAdd, Int.reduceSub, Int.reduceMul, true_imp_iff, forall_const, Nat.mul_one, Int.reduceToNat, Nat.reducePow, Int.reducePow, Bool.true_and, Bool.false_and, Bool.and_false]
    exact retC_by (hg'.drop.trans (Drop.set hc3)) (.sl _ _) ⟨rfl, rfl⟩
end Go.A
