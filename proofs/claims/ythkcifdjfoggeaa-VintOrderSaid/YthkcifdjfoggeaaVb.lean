/- VintOrder, walked. -/
import Derived.Test.YthkcifdjfoggeaaBn
import Derived.Test.YthkcifdjfoggeaaVa
import Derived.Test.YthkcifdjfoggeaaVintK

namespace Go.A
open Go.Proofs Go.Vint
set_option maxRecDepth 100000
set_option linter.unusedSimpArgs false
set_option linter.unusedVariables false

theorem awake_ok : Pure Try.prog 11 [] (.bool true) := pure_bool Go.Proofs.Ythkcifdjfoggeaa.awake_any

theorem withAll_len (l : List (Int × Int)) : (withAll l).length ≤ l.length := by
  have key : ∀ (l L : List (Int × Int)), (l.foldl withL L).length ≤ L.length + l.length := by
    intro l
    induction l with
    | nil => simp
    | cons s r ih =>
      intro L
      have h1 := ih (withL L s)
      have h2 := withL_len L s
      simp only [List.foldl_cons, List.length_cons]
      omega
  have := key l []
  simp only [List.length_nil, Nat.zero_add] at this
  exact this
theorem withAll_snoc (l : List (Int × Int)) (s : Int × Int) : withAll (l ++ [s]) = withL (withAll l) s := by simp [withAll]

set_option maxHeartbeats 400000 in
theorem VintOrder_any (L : List (Int × Int)) (hb : BdS L) (hL : L.length ≤ 9223372036854775807) : ACalls Try.prog 5 [spansAV L] noRole fun r _ => r = .bool true := by
  refine a5 (by simp) ?_
  obtain ⟨n, hn⟩ : ∃ n, n = min L.length 12 := ⟨_, rfl⟩
  have hmn : min (L.length : Int) 12 = (n : Int) := by omega
  have hnL : n ≤ L.length := by omega
  have hn12 : n ≤ 12 := by omega
  simp (disch := omega) only [go_sem, reduceCtorEq, Nat.reduceEqDiff, Nat.reduceAdd, Nat.reduceSub, Nat.reduceMul, Nat.reduceLeDiff, Int.reduceLT, Int.reduceLE, Int.reduceEq, ↓reduceIte, Int.reduceNeg, Int.reduceAdd, Int.reduceSub, Int.reduceMul, spanAV, spansAV, hmn]
  refine wp_loop_by (fun (i : Nat) a σ' => i ≤ n ∧ a 0 = .sl .shr (L.map spanAV) ∧ a 3 = spansAV (withAll (L.take i)) ∧ a 4 = spansAV (withAll ((L.take n).reverse.take i)) ∧ a 5 = .int .i64 n ∧ a 6 = .int .i64 i ∧ σ' = noRole) (fun i => n - i) 0 (Dr.weak ⟨Nat.zero_le _, ?_, ?_, ?_, ?_, ?_, rfl⟩) ?_
  · simp (disch := omega) only [go_sem, reduceCtorEq, Nat.reduceEqDiff, Nat.reduceAdd, Nat.reduceSub, Nat.reduceMul, Nat.reduceLeDiff, Int.reduceLT, Int.reduceLE, Int.reduceEq, ↓reduceIte, Int.reduceNeg, Int.reduceAdd, Int.reduceSub, Int.reduceMul]
  · simp (disch := omega) only [go_sem, reduceCtorEq, Nat.reduceEqDiff, Nat.reduceAdd, Nat.reduceSub, Nat.reduceMul, Nat.reduceLeDiff, Int.reduceLT, Int.reduceLE, Int.reduceEq, ↓reduceIte, Int.reduceNeg, Int.reduceAdd, Int.reduceSub, Int.reduceMul, spansAV, withAll, List.foldl_nil, List.map_nil]
  · simp (disch := omega) only [go_sem, reduceCtorEq, Nat.reduceEqDiff, Nat.reduceAdd, Nat.reduceSub, Nat.reduceMul, Nat.reduceLeDiff, Int.reduceLT, Int.reduceLE, Int.reduceEq, ↓reduceIte, Int.reduceNeg, Int.reduceAdd, Int.reduceSub, Int.reduceMul, spansAV, withAll, List.foldl_nil, List.map_nil]
  · simp (disch := omega) only [go_sem, reduceCtorEq, Nat.reduceEqDiff, Nat.reduceAdd, Nat.reduceSub, Nat.reduceMul, Nat.reduceLeDiff, Int.reduceLT, Int.reduceLE, Int.reduceEq, ↓reduceIte, Int.reduceNeg, Int.reduceAdd, Int.reduceSub, Int.reduceMul]
  · simp (disch := omega) only [go_sem, reduceCtorEq, Nat.reduceEqDiff, Nat.reduceAdd, Nat.reduceSub, Nat.reduceMul, Nat.reduceLeDiff, Int.reduceLT, Int.reduceLE, Int.reduceEq, ↓reduceIte, Int.reduceNeg, Int.reduceAdd, Int.reduceSub, Int.reduceMul]
  rintro i a σ1 ⟨hi, h0, h3, h4, h5, h6, rfl⟩
  by_cases hlt : i < n
  · have hidx : L[i]? = some (L[i]'(by omega)) := List.getElem?_eq_getElem (by omega)
    have hjdx : L[n - 1 - i]? = some (L[n - 1 - i]'(by omega)) := List.getElem?_eq_getElem (by omega)
    have hsub : (n : Int) - 1 - (i : Int) = ((n - 1 - i : Nat) : Int) := by omega
    have l3 := withAll_len (L.take i)
    have l4 := withAll_len ((L.take n).reverse.take i)
    simp only [List.length_take, List.length_reverse] at l3 l4
    simp (disch := omega) only [go_sem, reduceCtorEq, Nat.reduceEqDiff, Nat.reduceAdd, Nat.reduceSub, Nat.reduceMul, Nat.reduceLeDiff, Int.reduceLT, Int.reduceLE, Int.reduceEq, ↓reduceIte, Int.reduceNeg, Int.reduceAdd, Int.reduceSub, Int.reduceMul, h0, h3, h4, h5, h6, hlt, List.getElem?_map, hidx, spanAV]
    refine (With_ok (withAll (L.take i)) (L[i]'(by omega)) (by omega)).use ?_
    simp (disch := omega) only [go_sem, reduceCtorEq, Nat.reduceEqDiff, Nat.reduceAdd, Nat.reduceSub, Nat.reduceMul, Nat.reduceLeDiff, Int.reduceLT, Int.reduceLE, Int.reduceEq, ↓reduceIte, Int.reduceNeg, Int.reduceAdd, Int.reduceSub, Int.reduceMul, h0, h3, h4, h5, h6, hlt, List.getElem?_map, hjdx, hsub, spanAV]
    refine (With_ok (withAll ((L.take n).reverse.take i)) (L[n - 1 - i]'(by omega)) (by omega)).use ?_
    simp (disch := omega) only [go_sem, reduceCtorEq, Nat.reduceEqDiff, Nat.reduceAdd, Nat.reduceSub, Nat.reduceMul, Nat.reduceLeDiff, Int.reduceLT, Int.reduceLE, Int.reduceEq, ↓reduceIte, Int.reduceNeg, Int.reduceAdd, Int.reduceSub, Int.reduceMul, h0, h3, h4, h5, h6]
    refine ⟨i + 1, by dsimp only; omega, Dr.now ⟨by omega, ?_, ?_, ?_, ?_, ?_, rfl⟩⟩
    · simp (disch := omega) only [go_sem, reduceCtorEq, Nat.reduceEqDiff, Nat.reduceAdd, Nat.reduceSub, Nat.reduceMul, Nat.reduceLeDiff, Int.reduceLT, Int.reduceLE, Int.reduceEq, ↓reduceIte, Int.reduceNeg, Int.reduceAdd, Int.reduceSub, Int.reduceMul, h0]
    · simp (disch := omega) only [go_sem, reduceCtorEq, Nat.reduceEqDiff, Nat.reduceAdd, Nat.reduceSub, Nat.reduceMul, Nat.reduceLeDiff, Int.reduceLT, Int.reduceLE, Int.reduceEq, ↓reduceIte, Int.reduceNeg, Int.reduceAdd, Int.reduceSub, Int.reduceMul]
      rw [List.take_succ_eq_append_getElem (by omega), withAll_snoc]
    · simp (disch := omega) only [go_sem, reduceCtorEq, Nat.reduceEqDiff, Nat.reduceAdd, Nat.reduceSub, Nat.reduceMul, Nat.reduceLeDiff, Int.reduceLT, Int.reduceLE, Int.reduceEq, ↓reduceIte, Int.reduceNeg, Int.reduceAdd, Int.reduceSub, Int.reduceMul]
      have e : (L.take n).reverse[i]'(by simp; omega) = L[n - 1 - i]'(by omega) := by
        rw [List.getElem_reverse, List.getElem_take]
        congr 1
        simp only [List.length_take]
        omega
      rw [List.take_succ_eq_append_getElem (by simp; omega), withAll_snoc, e]
    · simp (disch := omega) only [go_sem, reduceCtorEq, Nat.reduceEqDiff, Nat.reduceAdd, Nat.reduceSub, Nat.reduceMul, Nat.reduceLeDiff, Int.reduceLT, Int.reduceLE, Int.reduceEq, ↓reduceIte, Int.reduceNeg, Int.reduceAdd, Int.reduceSub, Int.reduceMul, h5]
    · simp (disch := omega) only [go_sem, reduceCtorEq, Nat.reduceEqDiff, Nat.reduceAdd, Nat.reduceSub, Nat.reduceMul, Nat.reduceLeDiff, Int.reduceLT, Int.reduceLE, Int.reduceEq, ↓reduceIte, Int.reduceNeg, Int.reduceAdd, Int.reduceSub, Int.reduceMul]
  · have hin : i = n := by omega
    subst hin
    have e4 : withAll ((L.take i).reverse.take i) = withAll (L.take i) := by
      rw [List.take_of_length_le (by simp; omega), withAll_reverse (hb.take i)]
    rw [e4] at h4
    have l3 := withAll_len (L.take i)
    simp only [List.length_take] at l3
    generalize withAll (L.take i) = M at h3 h4 l3
    simp (disch := omega) only [go_sem, reduceCtorEq, Nat.reduceEqDiff, Nat.reduceAdd, Nat.reduceSub, Nat.reduceMul, Nat.reduceLeDiff, Int.reduceLT, Int.reduceLE, Int.reduceEq, ↓reduceIte, Int.reduceNeg, Int.reduceAdd, Int.reduceSub, Int.reduceMul, h0, h3, h4, h5, h6, spansAV]
    refine wp_loop_by (fun (j : Nat) a σ' => j ≤ M.length ∧ a 3 = .sl .shr (M.map spanAV) ∧ a 4 = .sl .shr (M.map spanAV) ∧ a 37 = .int .i64 M.length ∧ a 38 = .int .i64 j ∧ σ' = noRole) (fun j => M.length - j) 0 (Dr.now ⟨Nat.zero_le _, ?_, ?_, ?_, ?_, rfl⟩) ?_
    · simp (disch := omega) only [go_sem, reduceCtorEq, Nat.reduceEqDiff, Nat.reduceAdd, Nat.reduceSub, Nat.reduceMul, Nat.reduceLeDiff, Int.reduceLT, Int.reduceLE, Int.reduceEq, ↓reduceIte, Int.reduceNeg, Int.reduceAdd, Int.reduceSub, Int.reduceMul, h3, spansAV]
    · simp (disch := omega) only [go_sem, reduceCtorEq, Nat.reduceEqDiff, Nat.reduceAdd, Nat.reduceSub, Nat.reduceMul, Nat.reduceLeDiff, Int.reduceLT, Int.reduceLE, Int.reduceEq, ↓reduceIte, Int.reduceNeg, Int.reduceAdd, Int.reduceSub, Int.reduceMul, h4, spansAV]
    · simp (disch := omega) only [go_sem, reduceCtorEq, Nat.reduceEqDiff, Nat.reduceAdd, Nat.reduceSub, Nat.reduceMul, Nat.reduceLeDiff, Int.reduceLT, Int.reduceLE, Int.reduceEq, ↓reduceIte, Int.reduceNeg, Int.reduceAdd, Int.reduceSub, Int.reduceMul]
    · simp (disch := omega) only [go_sem, reduceCtorEq, Nat.reduceEqDiff, Nat.reduceAdd, Nat.reduceSub, Nat.reduceMul, Nat.reduceLeDiff, Int.reduceLT, Int.reduceLE, Int.reduceEq, ↓reduceIte, Int.reduceNeg, Int.reduceAdd, Int.reduceSub, Int.reduceMul]
    clear h3 h4 h5 h6 h0
    rintro j a σ1 ⟨hj, h3, h4, h37, h38, rfl⟩
    by_cases hlt : j < M.length
    · have hidx : M[j]? = some M[j] := List.getElem?_eq_getElem hlt
      simp (disch := omega) only [go_sem, reduceCtorEq, Nat.reduceEqDiff, Nat.reduceAdd, Nat.reduceSub, Nat.reduceMul, Nat.reduceLeDiff, Int.reduceLT, Int.reduceLE, Int.reduceEq, ↓reduceIte, Int.reduceNeg, Int.reduceAdd, Int.reduceSub, Int.reduceMul, h3, h4, h37, h38, hlt, List.getElem?_map, hidx, spanAV]
      refine ⟨j + 1, by dsimp only; omega, Dr.now ⟨by omega, ?_, ?_, ?_, ?_, rfl⟩⟩
      · simp (disch := omega) only [go_sem, reduceCtorEq, Nat.reduceEqDiff, Nat.reduceAdd, Nat.reduceSub, Nat.reduceMul, Nat.reduceLeDiff, Int.reduceLT, Int.reduceLE, Int.reduceEq, ↓reduceIte, Int.reduceNeg, Int.reduceAdd, Int.reduceSub, Int.reduceMul, h3]
      · simp (disch := omega) only [go_sem, reduceCtorEq, Nat.reduceEqDiff, Nat.reduceAdd, Nat.reduceSub, Nat.reduceMul, Nat.reduceLeDiff, Int.reduceLT, Int.reduceLE, Int.reduceEq, ↓reduceIte, Int.reduceNeg, Int.reduceAdd, Int.reduceSub, Int.reduceMul, h4]
      · simp (disch := omega) only [go_sem, reduceCtorEq, Nat.reduceEqDiff, Nat.reduceAdd, Nat.reduceSub, Nat.reduceMul, Nat.reduceLeDiff, Int.reduceLT, Int.reduceLE, Int.reduceEq, ↓reduceIte, Int.reduceNeg, Int.reduceAdd, Int.reduceSub, Int.reduceMul, h37]
      · simp (disch := omega) only [go_sem, reduceCtorEq, Nat.reduceEqDiff, Nat.reduceAdd, Nat.reduceSub, Nat.reduceMul, Nat.reduceLeDiff, Int.reduceLT, Int.reduceLE, Int.reduceEq, ↓reduceIte, Int.reduceNeg, Int.reduceAdd, Int.reduceSub, Int.reduceMul]
    · simp (disch := omega) only [go_sem, reduceCtorEq, Nat.reduceEqDiff, Nat.reduceAdd, Nat.reduceSub, Nat.reduceMul, Nat.reduceLeDiff, Int.reduceLT, Int.reduceLE, Int.reduceEq, ↓reduceIte, Int.reduceNeg, Int.reduceAdd, Int.reduceSub, Int.reduceMul, h3, h4, h37, h38, hlt]
      refine awake_ok.use ?_
      simp (disch := omega) only [go_sem, reduceCtorEq, Nat.reduceEqDiff, Nat.reduceAdd, Nat.reduceSub, Nat.reduceMul, Nat.reduceLeDiff, Int.reduceLT, Int.reduceLE, Int.reduceEq, ↓reduceIte, Int.reduceNeg, Int.reduceAdd, Int.reduceSub, Int.reduceMul]
      exact retC_by (Drop.refl _) (.refl _) rfl
end Go.A
